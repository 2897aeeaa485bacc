/- Contracts: words of eight bytes; Arguments of bytes, as rows of laws read them -/
import Derived.Test.YtpjpkmhaffmbmaaGreatQ2
import Derived.Test.YtpjpkmhaffmbmaaGreatProg
import Derived.Test.YtpjpkmhaffmbmaaGreatQ3
import Derived.KernelRfl
section
namespace Go.Proofs.YtpjpkmhaffmbmaaGreat.E
open Go Go.RowKit
set_option maxHeartbeats 4000000
set_option maxRecDepth 10000
set_option linter.unusedSimpArgs false
set_option linter.unusedVariables false
set_option linter.unusedSectionVars false
def zrL:Dec:=⟨[],[9,10,11],[22,30,37,38,39,40,49,56,76,80,87,141,143,159,237,250,259],false⟩
attribute [go_sem] TT
theorem zgw:Tryz.prog.follows .mixedOrders=true:=by kernel_rfl
attribute [go_sem] zgw
abbrev vI (a:Int):AV:=.sc (.int .i64 a)
abbrev vB (b:Bool):AV:=.sc (.bool b)
abbrev vU (n:Nat):AV:=.sc (.int .u64 (n:Int))
abbrev vS (b:ByteArray):AV:=.sc (.string b)
theorem wrS {a:Int} (h:-9223372036854775808≤a∧a<9223372036854775808):IntKind.i64.wrap a=a:=by
 have h8:IntKind.i64.bits=64:=rfl
 have hs:IntKind.i64.signed=true:=rfl
 simp only [IntKind.wrap,h8,hs,Bool.true_and,decide_eq_true_eq]
 split<;>omega
def bN (s:ByteArray) (i:Nat):Nat:=(s.get! i).toNat
def jZ (s:ByteArray) (a:Nat):Nat→Nat
 | 0=>0
 | k+1=>jZ s a k * 256+bN s (a+k)
theorem zgM (s:ByteArray) (i:Nat):bN s i<256:=(s.get! i).toNat_lt
theorem zlt (s:ByteArray) (a k:Nat):jZ s a k<256 ^ k:=by
 induction k with
 | zero=>simp [jZ]
 | succ k ih=>
  have:=zgM s (a+k)
  simp only [jZ,Nat.pow_succ]
  omega
theorem zeu (s:ByteArray) (a:Nat) {k:Nat} (h:k≤8):jZ s a k<18446744073709551616:=Nat.lt_of_lt_of_le (zlt s a k) (by
 have:256 ^ k≤256 ^ 8:=Nat.pow_le_pow_right (by omega) h
 omega)
theorem yF (n:Nat) (h:n<18446744073709551616):IntKind.u64.wrap (n:Int)=(n:Int):=by
 have h8:IntKind.u64.bits=64:=rfl
 have hs:IntKind.u64.signed=false:=rfl
 simp only [IntKind.wrap,h8,hs,Bool.false_and,Bool.false_eq_true,if_false]
 omega
theorem qQ {s:ByteArray} {i:Nat} (h:i<s.size):(s.data[i]?).map (fun b=>AV.sc (.int .u8 (b.toNat:Int)))=some (.sc (.int .u8 (bN s i:Int))):=by
 have h':i<s.data.size:=h
 rw [Array.getElem?_eq_getElem h']
 show some (AV.sc (Value.int IntKind.u8 ((s.data[i]'h').toNat:Int)))=some (AV.sc (Value.int IntKind.u8 ((s.data[i]!).toNat:Int)))
 rw [getElem!_pos s.data i h']
theorem zoa {x y k:Nat} (hx:x * 2 ^ k+y<18446744073709551616) (hy:y<2 ^ k):(BitVec.ofInt 64 ((x * 2 ^ k:Nat):Int)||| BitVec.ofInt 64 ((y:Nat):Int)).toNat=x * 2 ^ k+y:=by
 rw [BitVec.ofInt_natCast,BitVec.ofInt_natCast,BitVec.toNat_or,BitVec.toNat_ofNat,BitVec.toNat_ofNat,Nat.mod_eq_of_lt (by omega),Nat.mod_eq_of_lt (by omega),Nat.mul_comm,Nat.two_pow_add_eq_or_of_lt hy]
theorem zmY {x y k:Nat} (hx:x * 2 ^ k+y<18446744073709551616) (hy:y<2 ^ k):orI .u64 ((x * 2 ^ k:Nat):Int) (y:Int)=((x * 2 ^ k+y:Nat):Int):=by
 unfold orI
 rw [show IntKind.u64.bits=64 from rfl,zoa hx hy]
 exact yF _ hx
theorem zah (s:ByteArray) (a:Nat) (ha:a+8≤s.size) (hs:s.size≤9000000000000000000):CallR Tryz.prog 119 [vS s,vI a] (vU (jZ s a 8)) []:=by
 refine zl zrL false Tryz.f119 ?_
 conv=>enter [1];reduce
 refine jvR Tryz.f119 22 [.tmp 4] (by kernel_rfl) (by decide +kernel) rfl ?_
 simp -implicitDefEqProofs only [go_sem]
 refine zX (fun m z=>∃k,k≤8∧m=8 - k∧z=⟨22,[(0,vS s),(1,vI a),(5,vU (jZ s a k)),(6,vI ((a+k:Nat):Int))],[],1⟩) 8 ?_ ?_
 ·simp -implicitDefEqProofs only [go_sem]
  exact ⟨0,by omega,rfl,rfl⟩
 ·rintro m z ⟨k,hk,rfl,rfl⟩
  have hw1:IntKind.i64.wrap ((a:Int)+8)=(a:Int)+8:=wrS (by omega)
  rcases Nat.lt_or_ge k 8 with hlt | hge
  ·have hlt':((a+k:Nat):Int)<(a:Int)+8:=by omega
   have hg:=qQ (s:=s) (i:=a+k) (by omega)
   have hl8:=zeu s a (k:=k) (by omega)
   have hl9:=zeu s a (k:=k+1) (by omega)
   simp only [jZ] at hl9
   have hbl:=zgM s (a+k)
   have hsh:IntKind.u64.wrap ((jZ s a k:Int) * 2 ^ 8)=((jZ s a k * 256:Nat):Int):=by
    rw [show ((jZ s a k:Int) * 2 ^ 8)=((jZ s a k * 256:Nat):Int) by omega]
    exact yF _ (Nat.lt_of_le_of_lt (Nat.le_add_right _ _) hl9)
   have hb:IntKind.u64.wrap (bN s (a+k):Int)=(bN s (a+k):Int):=yF _ (Nat.lt_of_lt_of_le hbl (by decide))
   have hor:=zmY (x:=jZ s a k) (y:=bN s (a+k)) (k:=8) (by omega) (by omega)
   simp only [show 2 ^ 8=256 from rfl] at hor
   simp -implicitDefEqProofs only [go_sem,hw1,hlt',hg,hsh,hb,hor]
   exact ⟨_,by omega,k+1,by omega,rfl,by rw [wrS (by omega)];rfl⟩
  ·have hk:k=8:=by omega
   subst hk
   have hlt':¬((a+8:Nat):Int)<(a:Int)+8:=by omega
   simp -implicitDefEqProofs only [go_sem,hw1,hlt']
theorem zlW (k:IntKind) (x y:Int):orI k x y=orI k y x:=by unfold orI;rw [BitVec.or_comm]
theorem qL {x b k:Nat} (hx:x<2 ^ k) (hb:b<256) (hk:k≤56):orI .u64 (x:Int) (IntKind.u64.wrap (IntKind.u64.wrap (b:Int) * 2 ^ k))=((b * 2 ^ k+x:Nat):Int):=by
 have hp:2 ^ k≤2 ^ 56:=Nat.pow_le_pow_right (by omega) hk
 have h1:(b+1) * 2 ^ k≤256 * 2 ^ 56:=Nat.mul_le_mul (by omega) hp
 rw [Nat.add_mul,Nat.one_mul] at h1
 rw [yF b (by omega),show ((b:Int) * 2 ^ k)=((b * 2 ^ k:Nat):Int) by simp,yF _ (by omega),zlW]
 exact zmY (by omega) hx
def bL (l:List UInt8) (i:Nat):Nat:=(l.getD i 0).toNat
theorem zaM (l:List UInt8) (i:Nat):bL l i<256:=(l.getD i 0).toNat_lt
def qb (l:List UInt8):Nat→Nat
 | 0=>0
 | k+1=>qb l k * 256+bL l k
theorem yG {l:List UInt8} {i:Nat} (h:i<l.length):(l[i]?).map zy=some [.sc (.int .u8 (bL l i:Int))]:=by
 rw [List.getElem?_eq_getElem h]
 simp [zy,bL,h]
theorem zhy (l:List UInt8) (h:8≤l.length):CallR Tryz.prog 162 [.agg [],.ro 1 (l.map zy)] (vU (qb l 8)) []:=by
 refine zl zrL false Tryz.f162 ?_
 conv=>enter [1];reduce
 refine jvR Tryz.f162 54 [.tmp 4] (by kernel_rfl) (by decide +kernel) rfl ?_
 have h0:(0:Int)<(l.length:Int):=by omega
 have h1:(1:Int)<(l.length:Int):=by omega
 have h2:(2:Int)<(l.length:Int):=by omega
 have h3:(3:Int)<(l.length:Int):=by omega
 have h4:(4:Int)<(l.length:Int):=by omega
 have h5:(5:Int)<(l.length:Int):=by omega
 have h6:(6:Int)<(l.length:Int):=by omega
 have h7:(7:Int)<(l.length:Int):=by omega
 have g0:=yG (l:=l) (i:=0) (by omega)
 have g1:=yG (l:=l) (i:=1) (by omega)
 have g2:=yG (l:=l) (i:=2) (by omega)
 have g3:=yG (l:=l) (i:=3) (by omega)
 have g4:=yG (l:=l) (i:=4) (by omega)
 have g5:=yG (l:=l) (i:=5) (by omega)
 have g6:=yG (l:=l) (i:=6) (by omega)
 have g7:=yG (l:=l) (i:=7) (by omega)
 simp -implicitDefEqProofs only [go_sem,h0,h1,h2,h3,h4,h5,h6,h7,g0,g1,g2,g3,g4,g5,g6,g7]
 have b0:=zaM l 0
 have b1:=zaM l 1
 have b2:=zaM l 2
 have b3:=zaM l 3
 have b4:=zaM l 4
 have b5:=zaM l 5
 have b6:=zaM l 6
 have b7:=zaM l 7
 rw [yF (bL l 7) (by omega),qL (k:=8) (by omega) b6 (by omega),qL (k:=16) (by omega) b5 (by omega),qL (k:=24) (by omega) b4 (by omega),qL (k:=32) (by omega) b3 (by omega),qL (k:=40) (by omega) b2 (by omega),qL (k:=48) (by omega) b1 (by omega),qL (k:=56) (by omega) b0 (by omega)]
 exact congrArg (fun n:Nat=>vU n) (by simp only [qb];omega)
structure MDig where
 a:Nat
 b:Nat
 c:Nat
 d:Nat
def MDig.cs (d:MDig):List AV:=[vU d.a,vU d.b,vU d.c,vU d.d]
attribute [go_sem] MDig.cs
def ziK (l:List UInt8):MDig:=⟨qb l 8,qb (l.drop 8) 8,qb (l.drop 16) 8,qb (l.drop 24) 8⟩
theorem znx (l:List UInt8) (h:l.length=32):CallR Tryz.prog 122 [.ro 1 (l.map zy)] (.agg (ziK l).cs) []:=by
 refine zl zrL false Tryz.f122 ?_
 conv=>enter [1];reduce
 refine jvR Tryz.f122 22 [.cell 2 25] (by kernel_rfl) (by decide +kernel) rfl ?_
 have e8:(8:Int)≤(l.length:Int)∧(l.length:Int)≤(l.length:Int):=by omega
 have e16:(16:Int)≤(l.length:Int)∧(l.length:Int)≤(l.length:Int):=by omega
 have e24:(24:Int)≤(l.length:Int)∧(l.length:Int)≤(l.length:Int):=by omega
 have t8:List.take (l.length - 8) (List.drop 8 l)=List.drop 8 l:=List.take_of_length_le (by simp)
 have t16:List.take (l.length - 16) (List.drop 16 l)=List.drop 16 l:=List.take_of_length_le (by simp)
 have t24:List.take (l.length - 24) (List.drop 24 l)=List.drop 24 l:=List.take_of_length_le (by simp)
 simp -implicitDefEqProofs only [go_sem,Option.getD_none,e8,e16,e24,t8,t16,t24]
 refine Want.intro (zhy l (by omega)) ?_
 simp -implicitDefEqProofs only [go_sem]
 refine Want.intro (zhy (l.drop 8) (by simp;omega)) ?_
 simp -implicitDefEqProofs only [go_sem]
 refine Want.intro (zhy (l.drop 16) (by simp;omega)) ?_
 simp -implicitDefEqProofs only [go_sem]
 refine Want.intro (zhy (l.drop 24) (by simp;omega)) ?_
 simp -implicitDefEqProofs only [go_sem]
 rfl
theorem zpq (s:ByteArray) (a i:Nat):bN s (a+i)=bL (s.data.toList.drop a) i:=by
 unfold bN bL
 rw [List.getD_eq_getElem?_getD,List.getElem?_drop,Array.getElem?_toList]
 show (s.data[a+i]!).toNat=_
 rw [getElem!_def]
 cases s.data[a+i]?<;>rfl
theorem ziP (s:ByteArray) (a k:Nat):jZ s a k=qb (s.data.toList.drop a) k:=by
 induction k with
 | zero=>rfl
 | succ k ih=>simp only [jZ,qb,ih,zpq]
def yL (s:ByteArray):MDig × Bool:=if s.size=32 then (ziK s.data.toList,true) else (⟨0,0,0,0⟩,false)
theorem zsk (s:ByteArray) (hs:s.size≤9000000000000000000):CallR Tryz.prog 127 [vS s] (.tup [.agg (yL s).1.cs,vB (yL s).2]) []:=by
 refine zl zrL false Tryz.f127 ?_
 conv=>enter [1];reduce
 refine jvR Tryz.f127 17 [.cell 2 25,.tmp 3] (by kernel_rfl) (by decide +kernel) rfl ?_
 simp -implicitDefEqProofs only [go_sem]
 refine zi (fun h=>?_) (fun h=>?_)
 ·have h':s.size≠32:=by have:=bne_iff_ne.1 h;omega
  simp -implicitDefEqProofs only [go_sem,h,yL,h']
  rfl
 ·have h':s.size=32:=by have:=bne_eq_false_iff_eq.1 h;omega
  simp -implicitDefEqProofs only [go_sem,h]
  repeat' first | (refine Want.intro (by first | exact zah s 0 (by omega) hs | exact zah s 8 (by omega) hs | exact zah s 16 (by omega) hs | exact zah s 24 (by omega) hs) ?_;try simp -implicitDefEqProofs only [go_sem]) | (refine WantM.intro (by first | exact zah s 0 (by omega) hs | exact zah s 8 (by omega) hs | exact zah s 16 (by omega) hs | exact zah s 24 (by omega) hs) ?_;try simp -implicitDefEqProofs only [go_sem]) | (refine zm (fun h=>?_) (fun h=>?_)<;>try simp -implicitDefEqProofs only [go_sem,h]) | (refine zi (fun h=>?_) (fun h=>?_)<;>try simp -implicitDefEqProofs only [go_sem,h])
  simp only [yL,h',if_true,ziK,ziP,List.drop_zero]
theorem zse (s:ByteArray) (hs:s.size≤9000000000000000000):CallR Tryz.prog 152 [vS s] (.tup [.agg (yL s).1.cs,vB (yL s).2]) []:=by
 refine zl zrL false Tryz.f152 ?_
 conv=>enter [1];reduce
 refine jvR Tryz.f152 11 [.cell 2 25,.tmp 3] (by kernel_rfl) (by decide +kernel) rfl ?_
 simp -implicitDefEqProofs only [go_sem]
 refine zi (fun h=>?_) (fun h=>?_)
 ·have h':s.size≠32:=by have:=bne_iff_ne.1 h;omega
  simp -implicitDefEqProofs only [go_sem,h,yL,h']
  rfl
 ·have h':s.size=32:=by have:=bne_eq_false_iff_eq.1 h;omega
  simp -implicitDefEqProofs only [go_sem,h]
  refine Want.intro (znx s.data.toList (by rw [Array.length_toList];exact h')) ?_
  simp -implicitDefEqProofs only [go_sem]
  simp only [yL,h',if_true]
end Go.Proofs.YtpjpkmhaffmbmaaGreat.E
end
section
namespace Go.Proofs.YtpjpkmhaffmbmaaGreat.E
open Go Go.RowKit
theorem OpensC.mapW {P:Program} {t:TypeId} {sz:Nat} {α β:Type} {E:α→List AV} {Wf:α→Prop} (h:OpensC P t sz E Wf) (g:α→β) (F:β→List AV) (Wg:β→Prop) (hF:∀b,(F b).length=sz∧∀c∈F b,sfc c=true)
  (hE:∀a,Wf a→F (g a)=E a) (hW:∀a,Wf a→Wg (g a)):OpensC P t sz F Wg:=
 ⟨h.1,hF,fun H enc w fuel cs x hx=>by obtain ⟨a,ha,hp⟩:=h.2.2 H enc w fuel cs x hx;exact ⟨g a,hW a ha,by rw [hE a ha];exact hp⟩⟩
theorem oByte:OpensC Tryz.prog 5 1 zy (fun _=>True):=
 (zjP (k:=.u8) Tryz.underlying5 (by kernel_rfl)).mapW (fun n=>UInt8.ofNat n.toNat) zy (fun _=>True) (fun b=>⟨rfl,by simp [zy,sfc]⟩)
  (fun n hn=>by
   have h:0≤n∧n<256:=by
    have h1:(Lit.int .u8 n).wf=true:=hn
    simp only [Lit.wf,Bool.and_eq_true,decide_eq_true_eq] at h1
    have e1:IntKind.u8.min=0:=rfl
    have e2:IntKind.u8.max=255:=rfl
    omega
   have:(UInt8.ofNat n.toNat).toNat=n.toNat:=by simp;omega
   simp only [zy,this]
   rw [Int.toNat_of_nonneg h.1]) (fun _ _=>trivial)
theorem zjR:OpensC Tryz.prog 22 1 (fun l:List UInt8=>[.ro 1 (l.map zy)]) (fun l=>(∀a∈l,True)∧l.length≤maxLen):=zf9 Tryz.underlying22 (by kernel_rfl) oByte (by omega)
end Go.Proofs.YtpjpkmhaffmbmaaGreat.E
end
