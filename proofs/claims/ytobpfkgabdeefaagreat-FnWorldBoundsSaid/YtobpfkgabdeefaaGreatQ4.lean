/- Contracts: words of eight bytes; Arguments of bytes, as rows of laws read them -/
import Derived.Test.YtobpfkgabdeefaaGreatQ2
import Derived.Test.YtobpfkgabdeefaaGreatQ3
namespace Go.Proofs.YtobpfkgabdeefaaGreat.E
open Go Go.RowKit
section
set_option maxHeartbeats 4000000
set_option maxRecDepth 10000
set_option linter.unusedSimpArgs false
set_option linter.unusedVariables false
set_option linter.unusedSectionVars false
def Dq:cc:=⟨[],cw,cz,false⟩
attribute [go_sem] TT
theorem ad9:Tryz.prog.follows .mixedOrders=true:=by kernel_rfl
attribute [go_sem] ad9
abbrev vI (a:Int):AV:=.sc (.int .i64 a)
abbrev vB (b:Bool):AV:=.sc (.bool b)
abbrev vU (n:Nat):AV:=.sc (.int .u64 (n:Int))
abbrev vS (b:ByteArray):AV:=.sc (.string b)
theorem aN {a:Int}(h:-9223372036854775808<=a/\a<9223372036854775808):IntKind.i64.wrap a=a:=by
 have h8:IntKind.i64.bits=64:=rfl;have hs:IntKind.i64.signed=true:=rfl;simp only[IntKind.wrap,h8,hs,Bool.true_and,decide_eq_true_eq];split<;>omega
def bN (s:ByteArray) (i:Nat):Nat:=(s.get! i).toNat
def nT (s:ByteArray) (a:Nat):Nat->Nat
 | 0=>0
 | k+1=>nT s a k * 256+bN s (a+k)
theorem yF (s:ByteArray) (i:Nat):bN s i<256:=(s.get! i).toNat_lt
theorem Xn (s:ByteArray) (a k:Nat):nT s a k<256 ^ k:=by
 induction k with
 | zero=>simp[nT]
 | succ k ih=>
  have:=yF s (a+k);simp only[nT,Nat.pow_succ];omega
theorem N4 (s:ByteArray) (a:Nat) {k:Nat}(h:k<=8):nT s a k<18446744073709551616:=Nat.lt_of_lt_of_le (Xn s a k) (by
 have:256 ^ k<=256 ^ 8:=Nat.pow_le_pow_right (by omega) h
 omega)
theorem qW (n:Nat) (h:n<18446744073709551616):IntKind.u64.wrap (n:Int)=(n:Int):=by
 have h8:IntKind.u64.bits=64:=rfl;have hs:IntKind.u64.signed=false:=rfl;simp only[IntKind.wrap,h8,hs,Bool.false_and,Bool.false_eq_true,if_false];omega
theorem yu {s:ByteArray}{i:Nat}(h:i<s.size):(s.data[i]?).map (fun b=>AV.sc (.int .u8 (b.toNat:Int)))=some (.sc (.int .u8 (bN s i:Int))):=by
 have h':i<s.data.size:=h;rw[Array.getElem?_eq_getElem h'];show some (AV.sc (Value.int IntKind.u8 ((s.data[i]'h').toNat:Int)))=some (AV.sc (Value.int IntKind.u8 ((s.data[i]!).toNat:Int)))
 rw[getElem!_pos s.data i h']
theorem aaz {x y k:Nat}(hx:x * 2 ^ k+y<18446744073709551616) (hy:y<2 ^ k):(BitVec.ofInt 64 ((x * 2 ^ k:Nat):Int)||| BitVec.ofInt 64 ((y:Nat):Int)).toNat=x * 2 ^ k+y:=by
 rw[BitVec.ofInt_natCast,BitVec.ofInt_natCast,BitVec.toNat_or,BitVec.toNat_ofNat,BitVec.toNat_ofNat,Nat.mod_eq_of_lt (by omega),Nat.mod_eq_of_lt (by omega),Nat.mul_comm,Nat.two_pow_add_eq_or_of_lt hy]
theorem QB {x y k:Nat}(hx:x * 2 ^ k+y<18446744073709551616) (hy:y<2 ^ k):kZ .u64 ((x * 2 ^ k:Nat):Int) (y:Int)=((x * 2 ^ k+y:Nat):Int):=by
 unfold kZ;rw[show IntKind.u64.bits=64 from rfl,aaz hx hy];exact qW _ hx
theorem uA (s:ByteArray) (a:Nat) (ha:a+8<=s.size) (hs:s.size<=9000000000000000000):ba Tryz.prog 150 [vS s,vI a] (vU (nT s a 8)) []:=by
 refine aF Dq false Tryz.f150 ?_;conv=>enter[1];reduce
 refine bu Tryz.f150 22 [.tmp 4] (by kernel_rfl) (by decide +kernel) rfl ?_;refine au ?_;refine dq (fun m z=>∃k,k<=8/\m=8 - k/\z=⟨22,[(0,vS s),(1,vI a),(5,vU (nT s a k)),(6,vI ((a+k:Nat):Int))],[],1⟩) 8 ?_ ?_
 ·refine au ?_;exact⟨0,by omega,rfl,rfl⟩
 rintro m z ⟨k,hk,rfl,rfl⟩;have oW:IntKind.i64.wrap ((a:Int)+8)=(a:Int)+8:=aN (by omega);rcases bp k 8 with ab|bM
 ·have ah:((a+k:Nat):Int)<(a:Int)+8:=by omega
  have hg:=yu (s:=s) (i:=a+k) (by omega);have SJ:=N4 s a (k:=k) (by omega);have SI:=N4 s a (k:=k+1) (by omega);simp only[nT]at SI;have pU:=yF s (a+k);have hsh:IntKind.u64.wrap ((nT s a k:Int) * 2 ^ 8)=((nT s a k * 256:Nat):Int):=by
   rw[show((nT s a k:Int) * 2 ^ 8)=((nT s a k * 256:Nat):Int) by omega];exact qW _ (Nat.lt_of_le_of_lt (Nat.le_add_right _ _) SI)
  have hb:IntKind.u64.wrap (bN s (a+k):Int)=(bN s (a+k):Int):=qW _ (Nat.lt_of_lt_of_le pU (by decide));have dI:=QB (x:=nT s a k) (y:=bN s (a+k)) (k:=8) (by omega) (by omega);simp only[show 2 ^ 8=256 from rfl]at dI;refine nS oW ah hg hsh hb dI ?_;exact⟨_,by omega,k+1,by omega,rfl,by rw[aN (by omega)];rfl⟩
 have hk:k=8:=by omega
 subst hk;have ah:¬((a+8:Nat):Int)<(a:Int)+8:=by omega
 exact dp oW ah
theorem aaB (k:IntKind) (x y:Int):kZ k x y=kZ k y x:=by unfold kZ;rw[BitVec.or_comm]
theorem xi {x b k:Nat}(hx:x<2 ^ k) (hb:b<256) (hk:k<=56):kZ .u64 (x:Int) (IntKind.u64.wrap (IntKind.u64.wrap (b:Int) * 2 ^ k))=((b * 2 ^ k+x:Nat):Int):=by
 have hp:2 ^ k<=2 ^ 56:=Nat.pow_le_pow_right (by omega) hk;have h1:(b+1) * 2 ^ k<=256 * 2 ^ 56:=Nat.mul_le_mul (by omega) hp;rw[Nat.add_mul,Nat.one_mul]at h1;rw[qW b (by omega),show((b:Int) * 2 ^ k)=((b * 2 ^ k:Nat):Int) by simp,qW _ (by omega),aaB];exact QB (by omega) hx
def bL (l:List UInt8) (i:Nat):Nat:=(l.getD i 0).toNat
theorem qS (l:List UInt8) (i:Nat):bL l i<256:=(l.getD i 0).toNat_lt
def kA (l:List UInt8):Nat->Nat
 | 0=>0
 | k+1=>kA l k * 256+bL l k
theorem rV {l:List UInt8}{i:Nat}(h:i<l.length):(l[i]?).map cE=some [.sc (.int .u8 (bL l i:Int))]:=by
 rw[bm h];simp[cE,bL,h]
theorem HH (l:List UInt8) (h:8<=l.length):ba Tryz.prog 208 [.agg [],.ro 1 (l.map cE)] (vU (kA l 8)) []:=by
 refine aF Dq false Tryz.f208 ?_;conv=>enter[1];reduce
 refine bu Tryz.f208 54 [.tmp 4] (by kernel_rfl) (by decide +kernel) rfl ?_;have h0:(0:Int)<(l.length:Int):=by omega
 have h1:(1:Int)<(l.length:Int):=by omega
 have h2:(2:Int)<(l.length:Int):=by omega
 have h3:(3:Int)<(l.length:Int):=by omega
 have h4:(4:Int)<(l.length:Int):=by omega
 have h5:(5:Int)<(l.length:Int):=by omega
 have h6:(6:Int)<(l.length:Int):=by omega
 have h7:(7:Int)<(l.length:Int):=by omega
 have g0:=rV (l:=l) (i:=0) (by omega);have g1:=rV (l:=l) (i:=1) (by omega);have g2:=rV (l:=l) (i:=2) (by omega);have g3:=rV (l:=l) (i:=3) (by omega);have g4:=rV (l:=l) (i:=4) (by omega);have g5:=rV (l:=l) (i:=5) (by omega);have g6:=rV (l:=l) (i:=6) (by omega);have g7:=rV (l:=l) (i:=7) (by omega);simp -implicitDefEqProofs only[go_sem,h0,h1,h2,h3,h4,h5,h6,h7,g0,g1,g2,g3,g4,g5,g6,g7];have b0:=qS l 0;have b1:=qS l 1;have b2:=qS l 2;have b3:=qS l 3;have b4:=qS l 4;have b5:=qS l 5;have b6:=qS l 6;have b7:=qS l 7;rw[qW (bL l 7) (by omega),xi (k:=8) (by omega) b6 (by omega),xi (k:=16) (by omega) b5 (by omega),xi (k:=24) (by omega) b4 (by omega),xi (k:=32) (by omega) b3 (by omega),xi (k:=40) (by omega) b2 (by omega),xi (k:=48) (by omega) b1 (by omega),xi (k:=56) (by omega) b0 (by omega)];exact congrArg (fun n:Nat=>vU n) (by simp only[kA];omega)
structure aX where
 a:Nat
 b:Nat
 c:Nat
 d:Nat
def aX.cs (d:aX):List AV:=[vU d.a,vU d.b,vU d.c,vU d.d]
attribute [go_sem] aX.cs
def qO (l:List UInt8):aX:=⟨kA l 8,kA (l.drop 8) 8,kA (l.drop 16) 8,kA (l.drop 24) 8⟩
theorem VL (l:List UInt8) (h:l.length=32):ba Tryz.prog 154 [.ro 1 (l.map cE)] (.agg (qO l).cs) []:=by
 refine aF Dq false Tryz.f154 ?_;conv=>enter[1];reduce
 refine bu Tryz.f154 22 [.cell 2 39] (by kernel_rfl) (by decide +kernel) rfl ?_;have e8:(8:Int)<=(l.length:Int)/\(l.length:Int)<=(l.length:Int):=by omega
 have e16:(16:Int)<=(l.length:Int)/\(l.length:Int)<=(l.length:Int):=by omega
 have e24:(24:Int)<=(l.length:Int)/\(l.length:Int)<=(l.length:Int):=by omega
 have t8:List.take (l.length - 8) (List.drop 8 l)=List.drop 8 l:=List.take_of_length_le (by simp);have Yr:List.take (l.length - 16) (List.drop 16 l)=List.drop 16 l:=List.take_of_length_le (by simp);have Yq:List.take (l.length - 24) (List.drop 24 l)=List.drop 24 l:=List.take_of_length_le (by simp);simp -implicitDefEqProofs only[go_sem,Option.getD_none,e8,e16,e24,t8,Yr,Yq];refine cT (HH l (by omega)) ?_;refine cT (HH (l.drop 8) (by simp;omega)) ?_;refine cT (HH (l.drop 16) (by simp;omega)) ?_;refine cT (HH (l.drop 24) (by simp;omega)) ?_;rfl
theorem Nk (s:ByteArray) (a i:Nat):bN s (a+i)=bL (s.data.toList.drop a) i:=by
 unfold bN bL;rw[List.getD_eq_getElem?_getD,List.getElem?_drop,Array.getElem?_toList];show(s.data[a+i]!).toNat=_
 rw[getElem!_def];cases s.data[a+i]?<;>rfl
theorem N5 (s:ByteArray) (a k:Nat):nT s a k=kA (s.data.toList.drop a) k:=by
 induction k with
 | zero=>rfl
 | succ k ih=>simp only[nT,kA,ih,Nk]
def rh (s:ByteArray):aX × Bool:=if s.size=32 then(qO s.data.toList,true) else(⟨0,0,0,0⟩,false)
theorem af2 (s:ByteArray) (hs:s.size<=9000000000000000000):ba Tryz.prog 295 [vS s] (.aZ [.agg (rh s).1.cs,vB (rh s).2]) []:=by
 refine aF Dq false Tryz.f295 ?_;conv=>enter[1];reduce
 refine bu Tryz.f295 17 [.cell 2 39,.tmp 3] (by kernel_rfl) (by decide +kernel) rfl ?_;refine au ?_;refine bX (fun h=>?_) (fun h=>?_)
 ·have h':s.size≠32:=by have:=bne_iff_ne.1 h;omega
  simp -implicitDefEqProofs only[go_sem,h,rh,h'];rfl
 have h':s.size=32:=by have:=bne_eq_false_iff_eq.1 h;omega
 simp -implicitDefEqProofs only[go_sem,h]
 repeat' first|(refine aq.intro (by first|exact uA s 0 (by omega) hs|exact uA s 8 (by omega) hs|exact uA s 16 (by omega) hs|exact uA s 24 (by omega) hs) ?_;try simp -implicitDefEqProofs only[go_sem])|(refine aE.intro (by first|exact uA s 0 (by omega) hs|exact uA s 8 (by omega) hs|exact uA s 16 (by omega) hs|exact uA s 24 (by omega) hs) ?_;try simp -implicitDefEqProofs only[go_sem])|(refine fv (fun h=>?_) (fun h=>?_)<;>try simp -implicitDefEqProofs only[go_sem,h])|(refine bX (fun h=>?_) (fun h=>?_)<;>try simp -implicitDefEqProofs only[go_sem,h])
 simp only[rh,h',if_true,qO,N5,List.drop_zero]
theorem agb (s:ByteArray) (hs:s.size<=9000000000000000000):ba Tryz.prog 263 [vS s] (.aZ [.agg (rh s).1.cs,vB (rh s).2]) []:=by
 refine aF Dq false Tryz.f263 ?_;conv=>enter[1];reduce
 refine bu Tryz.f263 11 [.cell 2 39,.tmp 3] (by kernel_rfl) (by decide +kernel) rfl ?_;refine au ?_;refine bX (fun h=>?_) (fun h=>?_)
 ·have h':s.size≠32:=by have:=bne_iff_ne.1 h;omega
  simp -implicitDefEqProofs only[go_sem,h,rh,h'];rfl
 have h':s.size=32:=by have:=bne_eq_false_iff_eq.1 h;omega
 refine aA h ?_;refine cT (VL s.data.toList (by rw[Array.length_toList];exact h')) ?_;simp only[rh,h',if_true]
end
theorem qU.abq {P:Program}{t:TypeId}{sz:Nat}{α β:Type}{E:α->List AV}{Wf:α->Prop}(h:qU P t sz E Wf) (g:α->β) (F:β->List AV) (Wg:β->Prop) (hF:∀b,(F b).length=sz/\∀c∈F b,kb c=true)
  (hE:∀a,Wf a->F (g a)=E a) (hW:∀a,Wf a->Wg (g a)):qU P t sz F Wg:=
 ⟨h.1,hF,fun H enc w fuel cs x hx=>by obtain⟨a,ha,hp⟩:=h.2.2 H enc w fuel cs x hx;exact⟨g a,hW a ha,by rw[hE a ha];exact hp⟩⟩
theorem aaQ:qU Tryz.prog 5 1 cE (fun _=>True):=
 (aaD (k:=.u8) Tryz.underlying5 (by kernel_rfl)).abq (fun n=>UInt8.ofNat n.toNat) cE (fun _=>True) (fun b=>⟨rfl,by simp[cE,kb]⟩)
  (fun n hn=>by
   have h:0<=n/\n<256:=by
    have h1:(Lit.int .u8 n).wf=true:=hn;simp only[Lit.wf,Bool.and_eq_true,decide_eq_true_eq]at h1;have e1:IntKind.u8.min=0:=rfl;have e2:IntKind.u8.max=255:=rfl;omega
   have:(UInt8.ofNat n.toNat).toNat=n.toNat:=by simp;omega
   simp only[cE,this];rw[Int.toNat_of_nonneg h.1]) (fun _ _=>trivial)
theorem aaP:qU Tryz.prog 44 1 (fun l:List UInt8=>[.ro 1 (l.map cE)]) (fun l=>(∀a∈l,True)/\l.length<=maxLen):=aaC Tryz.underlying44 (by kernel_rfl) aaQ (by omega)
end Go.Proofs.YtobpfkgabdeefaaGreat.E
