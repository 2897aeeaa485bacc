/- Contracts: words of eight bytes. -/
import Derived.Test.YtobpfkgabdeefaaGreatP2
import Derived.Test.YtobpfkgabdeefaaGreatProg
import Derived.Test.YtobpfkgabdeefaaGreatP3
import Derived.KernelRfl
namespace Go.Proofs.YtobpfkgabdeefaaGreat.E
open Go Go.RowKit
set_option maxHeartbeats 4000000
set_option maxRecDepth 10000
set_option linter.unusedSimpArgs false
set_option linter.unusedVariables false
set_option linter.unusedSectionVars false
def Dr:bX:=⟨[],[9,10,11],[24,26,30,44,47,50,51,52,57,58,59,62,76,88,138,185,186,187,253,254,297,311],false⟩
attribute [go_sem] TT
theorem adR:Tryz.prog.follows .mixedOrders=true:=by kernel_rfl
attribute [go_sem] adR
abbrev vI (a:Int):AV:=.sc (.int .i64 a)
abbrev vB (b:Bool):AV:=.sc (.bool b)
abbrev vU (n:Nat):AV:=.sc (.int .u64 (n:Int))
abbrev vS (b:ByteArray):AV:=.sc (.string b)
theorem aV {a:Int}(h:-9223372036854775808≤a∧a<9223372036854775808):IntKind.i64.wrap a=a:=by
 have h8:IntKind.i64.bits=64:=rfl;have hs:IntKind.i64.signed=true:=rfl;simp only[IntKind.wrap,h8,hs,Bool.true_and,decide_eq_true_eq];split<;>omega
def bN (s:ByteArray) (i:Nat):Nat:=(s.get! i).toNat
def nA (s:ByteArray) (a:Nat):Nat→Nat
 | 0=>0
 | k+1=>nA s a k * 256+bN s (a+k)
theorem yH (s:ByteArray) (i:Nat):bN s i<256:=(s.get! i).toNat_lt
theorem Xe (s:ByteArray) (a k:Nat):nA s a k<256 ^ k:=by
 induction k with
 | zero=>simp[nA]
 | succ k ih=>
  have:=yH s (a+k);simp only[nA,Nat.pow_succ];omega
theorem Oj (s:ByteArray) (a:Nat) {k:Nat}(h:k≤8):nA s a k<18446744073709551616:=Nat.lt_of_lt_of_le (Xe s a k) (by
 have:256 ^ k≤256 ^ 8:=Nat.pow_le_pow_right (by omega) h
 omega)
theorem pT (n:Nat) (h:n<18446744073709551616):IntKind.u64.wrap (n:Int)=(n:Int):=by
 have h8:IntKind.u64.bits=64:=rfl;have hs:IntKind.u64.signed=false:=rfl;simp only[IntKind.wrap,h8,hs,Bool.false_and,Bool.false_eq_true,if_false];omega
theorem yy {s:ByteArray}{i:Nat}(h:i<s.size):(s.data[i]?).map (fun b=>AV.sc (.int .u8 (b.toNat:Int)))=some (.sc (.int .u8 (bN s i:Int))):=by
 have h':i<s.data.size:=h;rw[Array.getElem?_eq_getElem h'];show some (AV.sc (Value.int IntKind.u8 ((s.data[i]'h').toNat:Int)))=some (AV.sc (Value.int IntKind.u8 ((s.data[i]!).toNat:Int)))
 rw[getElem!_pos s.data i h']
theorem aaq {x y k:Nat}(hx:x * 2 ^ k+y<18446744073709551616) (hy:y<2 ^ k):(BitVec.ofInt 64 ((x * 2 ^ k:Nat):Int)||| BitVec.ofInt 64 ((y:Nat):Int)).toNat=x * 2 ^ k+y:=by
 rw[BitVec.ofInt_natCast,BitVec.ofInt_natCast,BitVec.toNat_or,BitVec.toNat_ofNat,BitVec.toNat_ofNat,Nat.mod_eq_of_lt (by omega),Nat.mod_eq_of_lt (by omega),Nat.mul_comm,Nat.two_pow_add_eq_or_of_lt hy]
theorem Qw {x y k:Nat}(hx:x * 2 ^ k+y<18446744073709551616) (hy:y<2 ^ k):lf .u64 ((x * 2 ^ k:Nat):Int) (y:Int)=((x * 2 ^ k+y:Nat):Int):=by
 unfold lf;rw[show IntKind.u64.bits=64 from rfl,aaq hx hy];exact pT _ hx
theorem ur (s:ByteArray) (a:Nat) (ha:a+8≤s.size) (hs:s.size≤9000000000000000000):aR Tryz.prog 150 [vS s,vI a] (vU (nA s a 8)) []:=by
 refine aA Dr false Tryz.f150 ?_;conv=>enter[1];reduce
 refine bf Tryz.f150 22 [.tmp 4] (by kernel_rfl) (by decide +kernel) rfl ?_;refine aw ?_;refine cR (fun m z=>∃k,k≤8∧m=8 - k∧z=⟨22,[(0,vS s),(1,vI a),(5,vU (nA s a k)),(6,vI ((a+k:Nat):Int))],[],1⟩) 8 ?_ ?_
 ·refine aw ?_;exact⟨0,by omega,rfl,rfl⟩
 rintro m z ⟨k,hk,rfl,rfl⟩;have kr:IntKind.i64.wrap ((a:Int)+8)=(a:Int)+8:=aV (by omega);rcases bm k 8 with ab|bH
 ·have ae:((a+k:Nat):Int)<(a:Int)+8:=by omega
  have hg:=yy (s:=s) (i:=a+k) (by omega);have SG:=Oj s a (k:=k) (by omega);have SF:=Oj s a (k:=k+1) (by omega);simp only[nA]at SF;have qp:=yH s (a+k);have hsh:IntKind.u64.wrap ((nA s a k:Int) * 2 ^ 8)=((nA s a k * 256:Nat):Int):=by
   rw[show((nA s a k:Int) * 2 ^ 8)=((nA s a k * 256:Nat):Int) by omega];exact pT _ (Nat.lt_of_le_of_lt (Nat.le_add_right _ _) SF)
  have hb:IntKind.u64.wrap (bN s (a+k):Int)=(bN s (a+k):Int):=pT _ (Nat.lt_of_lt_of_le qp (by decide));have dD:=Qw (x:=nA s a k) (y:=bN s (a+k)) (k:=8) (by omega) (by omega);simp only[show 2 ^ 8=256 from rfl]at dD;refine nz kr ae hg hsh hb dD ?_;exact⟨_,by omega,k+1,by omega,rfl,by rw[aV (by omega)];rfl⟩
 have hk:k=8:=by omega
 subst hk;have ae:¬((a+8:Nat):Int)<(a:Int)+8:=by omega
 exact dk kr ae
theorem aas (k:IntKind) (x y:Int):lf k x y=lf k y x:=by unfold lf;rw[BitVec.or_comm]
theorem wP {x b k:Nat}(hx:x<2 ^ k) (hb:b<256) (hk:k≤56):lf .u64 (x:Int) (IntKind.u64.wrap (IntKind.u64.wrap (b:Int) * 2 ^ k))=((b * 2 ^ k+x:Nat):Int):=by
 have hp:2 ^ k≤2 ^ 56:=Nat.pow_le_pow_right (by omega) hk;have h1:(b+1) * 2 ^ k≤256 * 2 ^ 56:=Nat.mul_le_mul (by omega) hp;rw[Nat.add_mul,Nat.one_mul]at h1;rw[pT b (by omega),show((b:Int) * 2 ^ k)=((b * 2 ^ k:Nat):Int) by simp,pT _ (by omega),aas];exact Qw (by omega) hx
def bL (l:List UInt8) (i:Nat):Nat:=(l.getD i 0).toNat
theorem uw (l:List UInt8) (i:Nat):bL l i<256:=(l.getD i 0).toNat_lt
def j8 (l:List UInt8):Nat→Nat
 | 0=>0
 | k+1=>j8 l k * 256+bL l k
theorem vZ {l:List UInt8}{i:Nat}(h:i<l.length):(l[i]?).map cW=some [.sc (.int .u8 (bL l i:Int))]:=by
 rw[bz h];simp[cW,bL,h]
theorem HF (l:List UInt8) (h:8≤l.length):aR Tryz.prog 208 [.agg [],.ro 1 (l.map cW)] (vU (j8 l 8)) []:=by
 refine aA Dr false Tryz.f208 ?_;conv=>enter[1];reduce
 refine bf Tryz.f208 54 [.tmp 4] (by kernel_rfl) (by decide +kernel) rfl ?_;have h0:(0:Int)<(l.length:Int):=by omega
 have h1:(1:Int)<(l.length:Int):=by omega
 have h2:(2:Int)<(l.length:Int):=by omega
 have h3:(3:Int)<(l.length:Int):=by omega
 have h4:(4:Int)<(l.length:Int):=by omega
 have h5:(5:Int)<(l.length:Int):=by omega
 have h6:(6:Int)<(l.length:Int):=by omega
 have h7:(7:Int)<(l.length:Int):=by omega
 have g0:=vZ (l:=l) (i:=0) (by omega);have g1:=vZ (l:=l) (i:=1) (by omega);have g2:=vZ (l:=l) (i:=2) (by omega);have g3:=vZ (l:=l) (i:=3) (by omega);have g4:=vZ (l:=l) (i:=4) (by omega);have g5:=vZ (l:=l) (i:=5) (by omega);have g6:=vZ (l:=l) (i:=6) (by omega);have g7:=vZ (l:=l) (i:=7) (by omega);simp -implicitDefEqProofs only[go_sem,h0,h1,h2,h3,h4,h5,h6,h7,g0,g1,g2,g3,g4,g5,g6,g7];have b0:=uw l 0;have b1:=uw l 1;have b2:=uw l 2;have b3:=uw l 3;have b4:=uw l 4;have b5:=uw l 5;have b6:=uw l 6;have b7:=uw l 7;rw[pT (bL l 7) (by omega),wP (k:=8) (by omega) b6 (by omega),wP (k:=16) (by omega) b5 (by omega),wP (k:=24) (by omega) b4 (by omega),wP (k:=32) (by omega) b3 (by omega),wP (k:=40) (by omega) b2 (by omega),wP (k:=48) (by omega) b1 (by omega),wP (k:=56) (by omega) b0 (by omega)];exact congrArg (fun n:Nat=>vU n) (by simp only[j8];omega)
structure aW where
 a:Nat
 b:Nat
 c:Nat
 d:Nat
def aW.cs (d:aW):List AV:=[vU d.a,vU d.b,vU d.c,vU d.d]
attribute [go_sem] aW.cs
def qA (l:List UInt8):aW:=⟨j8 l 8,j8 (l.drop 8) 8,j8 (l.drop 16) 8,j8 (l.drop 24) 8⟩
theorem VI (l:List UInt8) (h:l.length=32):aR Tryz.prog 154 [.ro 1 (l.map cW)] (.agg (qA l).cs) []:=by
 refine aA Dr false Tryz.f154 ?_;conv=>enter[1];reduce
 refine bf Tryz.f154 22 [.cell 2 39] (by kernel_rfl) (by decide +kernel) rfl ?_;have e8:(8:Int)≤(l.length:Int)∧(l.length:Int)≤(l.length:Int):=by omega
 have e16:(16:Int)≤(l.length:Int)∧(l.length:Int)≤(l.length:Int):=by omega
 have e24:(24:Int)≤(l.length:Int)∧(l.length:Int)≤(l.length:Int):=by omega
 have t8:List.take (l.length - 8) (List.drop 8 l)=List.drop 8 l:=List.take_of_length_le (by simp);have Yf:List.take (l.length - 16) (List.drop 16 l)=List.drop 16 l:=List.take_of_length_le (by simp);have Ye:List.take (l.length - 24) (List.drop 24 l)=List.drop 24 l:=List.take_of_length_le (by simp);simp -implicitDefEqProofs only[go_sem,Option.getD_none,e8,e16,e24,t8,Yf,Ye];refine cz (HF l (by omega)) ?_;refine cz (HF (l.drop 8) (by simp;omega)) ?_;refine cz (HF (l.drop 16) (by simp;omega)) ?_;refine cz (HF (l.drop 24) (by simp;omega)) ?_;rfl
theorem NA (s:ByteArray) (a i:Nat):bN s (a+i)=bL (s.data.toList.drop a) i:=by
 unfold bN bL;rw[List.getD_eq_getElem?_getD,List.getElem?_drop,Array.getElem?_toList];show(s.data[a+i]!).toNat=_
 rw[getElem!_def];cases s.data[a+i]?<;>rfl
theorem Ok (s:ByteArray) (a k:Nat):nA s a k=j8 (s.data.toList.drop a) k:=by
 induction k with
 | zero=>rfl
 | succ k ih=>simp only[nA,j8,ih,NA]
def qR (s:ByteArray):aW × Bool:=if s.size=32 then(qA s.data.toList,true) else(⟨0,0,0,0⟩,false)
theorem afR (s:ByteArray) (hs:s.size≤9000000000000000000):aR Tryz.prog 295 [vS s] (.ba [.agg (qR s).1.cs,vB (qR s).2]) []:=by
 refine aA Dr false Tryz.f295 ?_;conv=>enter[1];reduce
 refine bf Tryz.f295 17 [.cell 2 39,.tmp 3] (by kernel_rfl) (by decide +kernel) rfl ?_;refine aw ?_;refine b8 (fun h=>?_) (fun h=>?_)
 ·have h':s.size≠32:=by have:=bne_iff_ne.1 h;omega
  simp -implicitDefEqProofs only[go_sem,h,qR,h'];rfl
 have h':s.size=32:=by have:=bne_eq_false_iff_eq.1 h;omega
 simp -implicitDefEqProofs only[go_sem,h]
 repeat' first|(refine aq.intro (by first|exact ur s 0 (by omega) hs|exact ur s 8 (by omega) hs|exact ur s 16 (by omega) hs|exact ur s 24 (by omega) hs) ?_;try simp -implicitDefEqProofs only[go_sem])|(refine aD.intro (by first|exact ur s 0 (by omega) hs|exact ur s 8 (by omega) hs|exact ur s 16 (by omega) hs|exact ur s 24 (by omega) hs) ?_;try simp -implicitDefEqProofs only[go_sem])|(refine ew (fun h=>?_) (fun h=>?_)<;>try simp -implicitDefEqProofs only[go_sem,h])|(refine b8 (fun h=>?_) (fun h=>?_)<;>try simp -implicitDefEqProofs only[go_sem,h])
 simp only[qR,h',if_true,qA,Ok,List.drop_zero]
theorem af3 (s:ByteArray) (hs:s.size≤9000000000000000000):aR Tryz.prog 263 [vS s] (.ba [.agg (qR s).1.cs,vB (qR s).2]) []:=by
 refine aA Dr false Tryz.f263 ?_;conv=>enter[1];reduce
 refine bf Tryz.f263 11 [.cell 2 39,.tmp 3] (by kernel_rfl) (by decide +kernel) rfl ?_;refine aw ?_;refine b8 (fun h=>?_) (fun h=>?_)
 ·have h':s.size≠32:=by have:=bne_iff_ne.1 h;omega
  simp -implicitDefEqProofs only[go_sem,h,qR,h'];rfl
 have h':s.size=32:=by have:=bne_eq_false_iff_eq.1 h;omega
 refine aC h ?_;refine cz (VI s.data.toList (by rw[Array.length_toList];exact h')) ?_;simp only[qR,h',if_true]
end Go.Proofs.YtobpfkgabdeefaaGreat.E
