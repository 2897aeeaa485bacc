/- Contracts: readers of the wire; Contracts: messages; what the wire says -/
import Derived.Test.YtpjpkmhaffmbmaaGreatQ4
section
namespace Go.Proofs.YtpjpkmhaffmbmaaGreat.E
open Go Go.RowKit
set_option maxHeartbeats 4000000
set_option maxRecDepth 10000
set_option linter.unusedSimpArgs false
set_option linter.unusedVariables false
set_option linter.unusedSectionVars false
def zmw:Dec:=⟨[(66,.cm [true,false]),(67,.cm [true,false,false]),(100,.cm [true,false])],[9,10,11],[22,30,37,38,39,40,49,56,76,80,87,141,143,159,237,250,259],false⟩
def mIn (a b c:Int):Bool:=decide (b≤a)&&decide (a≤c)
structure MRd where
 t:ByteArray
 p:Nat
 code:Int
 at_:Int
def MRd.cs (r:MRd):List AV:=[vS r.t,vI r.p,vI r.code,vI r.at_]
def MRd.row (r:MRd):Sig:=[(1000000,0,one ⟨4,[r.cs],0,false⟩)]
attribute [go_sem] MRd.cs MRd.row
abbrev vP:AV:=.ptr 1000000 0 [] 4 0 0
def qi (r:MRd) (c a:Int):MRd:=if r.code=0 then ⟨r.t,r.p,c,a⟩ else r
def xS (r:MRd) (n:Nat):ByteArray × MRd:=if r.code=0 then (if r.p+n>r.t.size then (⟨#[]⟩,⟨r.t,r.p,2,r.t.size⟩) else (r.t.extract r.p (r.p+n),⟨r.t,r.p+n,r.code,r.at_⟩)) else (⟨#[]⟩,r)
theorem zaK (a b c:Int):CallR Tryz.prog 48 [vI a,vI b,vI c] (vB (mIn a b c)) []:=by
 refine zl zmw false Tryz.f48 ?_
 conv=>enter [1];reduce
 refine jvR Tryz.f48 15 [.tmp 6] (by kernel_rfl) (by decide +kernel) rfl ?_
 simp -implicitDefEqProofs only [go_sem]
 refine zm (fun h=>?_) (fun h=>?_)
 ·simp -implicitDefEqProofs only [go_sem,h]
  simp_all [mIn]
 ·simp -implicitDefEqProofs only [go_sem,h]
  simp_all [mIn]
  omega
theorem qy (a b c:Int):CallR Tryz.prog 99 [vI a,vI b,vI c] (vB (mIn a b c)) []:=by
 refine zl zmw false Tryz.f99 ?_
 conv=>enter [1];reduce
 refine jvR Tryz.f99 15 [.tmp 6] (by kernel_rfl) (by decide +kernel) rfl ?_
 simp -implicitDefEqProofs only [go_sem]
 refine zm (fun h=>?_) (fun h=>?_)
 ·simp -implicitDefEqProofs only [go_sem,h]
  simp_all [mIn]
 ·simp -implicitDefEqProofs only [go_sem,h]
  simp_all [mIn]
  omega
theorem zcV (r:MRd) (c a:Int):zW Tryz.prog 67 r.row [vP,vI c,vI a] (.tup []) (qi r c a).row:=by
 refine zl zmw false Tryz.f67 ?_
 conv=>enter [1];reduce
 refine jvM Tryz.f67 18 [] (by kernel_rfl) (by decide +kernel) rfl ?_
 simp -implicitDefEqProofs only [go_sem]
 refine zi (fun h=>?_) (fun h=>?_)
 ·have h':r.code=0:=by simpa using h
  simp -implicitDefEqProofs only [go_sem,h,qi,h']
 ·have h':¬r.code=0:=by simpa using h
  simp -implicitDefEqProofs only [go_sem,h,qi,h']
theorem zpb (r:MRd) (n:Nat) (hn:n≤1000) (hp:r.p≤r.t.size) (ht:r.t.size≤1000000000000):zW Tryz.prog 66 r.row [vP,vI n] (vS (xS r n).1) (xS r n).2.row:=by
 refine zl zmw false Tryz.f66 ?_
 conv=>enter [1];reduce
 refine jvM Tryz.f66 56 [.tmp 4] (by kernel_rfl) (by decide +kernel) rfl ?_
 simp -implicitDefEqProofs only [go_sem]
 refine zi (fun h=>?_) (fun h=>?_)
 ·have h':¬r.code=0:=by simpa using h
  simp -implicitDefEqProofs only [go_sem,h,xS,h']
 ·have h':r.code=0:=by simpa using h
  have hw1:IntKind.i64.wrap ((r.t.size:Int) - r.p)=(r.t.size:Int) - r.p:=wrS (by omega)
  have hw2:IntKind.i64.wrap ((r.p:Int)+n)=((r.p+n:Nat):Int):=by rw [wrS (by omega)];rfl
  simp -implicitDefEqProofs only [go_sem,h,hw1,hw2]
  refine zi (fun h=>?_) (fun h=>?_)
  ·have hd:r.p+n>r.t.size:=by have:=of_decide_eq_true h;omega
   simp -implicitDefEqProofs only [go_sem,h]
   refine WantM.intro (zcV r 2 r.t.size) ?_
   simp -implicitDefEqProofs only [go_sem,qi,h',xS,hd]
  ·have hd:¬r.p+n>r.t.size:=by have:=of_decide_eq_false h;omega
   have hsl:(r.p:Int)≤((r.p+n:Nat):Int)∧((r.p+n:Nat):Int)≤(r.t.size:Int):=by omega
   simp -implicitDefEqProofs only [go_sem,h,hw1,hw2,xS,h',hd,hsl]
theorem zhC (r:MRd) (n:Nat) (hn:n≤1000) (hp:r.p≤r.t.size) (ht:r.t.size≤1000000000000):zW Tryz.prog 100 r.row [vP,vI n] (vS (xS r n).1) (xS r n).2.row:=by
 refine zl zmw false Tryz.f100 ?_
 conv=>enter [1];reduce
 refine jvM Tryz.f100 55 [.tmp 4] (by kernel_rfl) (by decide +kernel) rfl ?_
 simp -implicitDefEqProofs only [go_sem]
 refine zi (fun h=>?_) (fun h=>?_)
 ·have h':¬r.code=0:=by simpa using h
  simp -implicitDefEqProofs only [go_sem,h,xS,h']
 ·have h':r.code=0:=by simpa using h
  have hw2:IntKind.i64.wrap ((r.p:Int)+n)=((r.p+n:Nat):Int):=by rw [wrS (by omega)];rfl
  have hw3:IntKind.i64.wrap (((r.p+n:Nat):Int) - n)=(r.p:Int):=by rw [wrS (by omega)];omega
  simp -implicitDefEqProofs only [go_sem,h,hw2]
  refine zi (fun h=>?_) (fun h=>?_)
  ·have hd:r.p+n>r.t.size:=by have:=of_decide_eq_true h;omega
   simp -implicitDefEqProofs only [go_sem,h,h',xS,hd]
  ·have hd:¬r.p+n>r.t.size:=by have:=of_decide_eq_false h;omega
   have hsl:(r.p:Int)≤((r.p+n:Nat):Int)∧((r.p+n:Nat):Int)≤(r.t.size:Int):=by omega
   simp -implicitDefEqProofs only [go_sem,h,hw2,hw3,xS,h',hd,hsl]
def zcL (s:ByteArray):Nat→Nat
 | 0=>0
 | k+1=>256 * zcL s k+bN s k
theorem zog (s:ByteArray) (k:Nat):zcL s k<256 ^ k:=by
 induction k with
 | zero=>simp [zcL]
 | succ k ih=>
  have:=zgM s k
  simp only [zcL,Nat.pow_succ]
  omega
theorem zhc (s:ByteArray) {k:Nat} (h:k≤3):zcL s k<16777216:=Nat.lt_of_lt_of_le (zog s k) (by
 have:256 ^ k≤256 ^ 3:=Nat.pow_le_pow_right (by omega) h
 omega)
def yq (r:MRd) (n:Nat) (low high:Int):Int × MRd:=
 if (xS r n).2.code=0 then
  (if mIn (zcL (xS r n).1 (xS r n).1.size) low high then (zcL (xS r n).1 (xS r n).1.size,(xS r n).2) else (0,⟨(xS r n).2.t,(xS r n).2.p,3,r.p⟩))
 else (0,(xS r n).2)
theorem wK (r:MRd) (n:Nat):(xS r n).1.size≤n:=by
 unfold xS
 split
 ·split
  ·simp [ByteArray.size]
  ·rw [ByteArray.size_extract];omega
 ·simp [ByteArray.size]
theorem zcy (r:MRd) (n:Nat) (low high:Int) (hn:n≤3) (hp:r.p≤r.t.size) (ht:r.t.size≤1000000000000):zW Tryz.prog 102 r.row [vP,vI n,vI low,vI high] (vI (yq r n low high).1) (yq r n low high).2.row:=by
 refine zl zmw false Tryz.f102 ?_
 conv=>enter [1];reduce
 refine jvM Tryz.f102 50 [.tmp 8] (by kernel_rfl) (by decide +kernel) rfl ?_
 simp -implicitDefEqProofs only [go_sem]
 refine WantM.intro (zhC r n (by omega) hp ht) ?_
 have hsz:=wK r n
 unfold yq
 generalize xS r n=x at *
 obtain ⟨b,t1,p1,c1,a1⟩:=x
 simp only at *
 simp -implicitDefEqProofs only [go_sem]
 refine zi (fun h=>?_) (fun h=>?_)
 ·have h':¬c1=0:=by simpa using h
  simp -implicitDefEqProofs only [go_sem,h,h']
 ·have h':c1=0:=by simpa using h
  subst h'
  simp -implicitDefEqProofs only [go_sem,h]
  refine zX (fun m z=>∃k,k≤b.size∧m=b.size - k∧z=⟨50,[(0,vP),(2,vI low),(3,vI high),(9,vI r.p),(10,vS b),(11,vI (zcL b k)),(12,vI k)],[(1000000,0,one ⟨4,[[vS t1,vI p1,vI 0,vI a1]],0,false⟩)],1⟩) b.size ?_ ?_
  ·simp -implicitDefEqProofs only [go_sem]
   exact ⟨0,Nat.zero_le _,rfl,rfl⟩
  ·rintro m z ⟨k,hk,rfl,rfl⟩
   rcases Nat.lt_or_ge k b.size with hlt | hge
   ·have hlt':(k:Int)<(b.size:Int):=by omega
    have hg:=qQ (s:=b) (i:=k) hlt
    have hb:=zgM b k
    have hv:=zhc b (k:=k) (by omega)
    have w1:IntKind.i64.wrap (bN b k:Int)=(bN b k:Int):=wrS (by omega)
    have w2:IntKind.i64.wrap (256 * (zcL b k:Int))=((256 * zcL b k:Nat):Int):=by rw [wrS (by omega)];omega
    have w3:IntKind.i64.wrap (((256 * zcL b k:Nat):Int)+(bN b k:Int))=((256 * zcL b k+bN b k:Nat):Int):=by rw [wrS (by omega)];omega
    have w4:IntKind.i64.wrap ((k:Int)+1)=((k+1:Nat):Int):=by rw [wrS (by omega)];omega
    simp -implicitDefEqProofs only [go_sem,hlt',hg,w1,w2,w3,w4]
    exact ⟨_,by omega,k+1,hlt,rfl,rfl⟩
   ·have hk:k=b.size:=by omega
    subst hk
    have hlt':¬((b.size:Int)<(b.size:Int)):=by omega
    simp -implicitDefEqProofs only [go_sem,hlt']
    refine Want.intro (qy _ _ _) ?_
    simp -implicitDefEqProofs only [go_sem]
    cases hin:mIn (zcL b b.size:Int) low high with
    | true=>simp -implicitDefEqProofs only [go_sem,hin,zb,za]
    | false=>simp -implicitDefEqProofs only [go_sem,hin,zb,za]
theorem xz (r:MRd) (n:Nat) (low high:Int) (hn:n≤3) (hp:r.p≤r.t.size) (ht:r.t.size≤1000000000000):zW Tryz.prog 63 r.row [vP,vI n,vI low,vI high] (vI (yq r n low high).1) (yq r n low high).2.row:=by
 refine zl zmw false Tryz.f63 ?_
 conv=>enter [1];reduce
 refine jvM Tryz.f63 56 [.tmp 8] (by kernel_rfl) (by decide +kernel) rfl ?_
 simp -implicitDefEqProofs only [go_sem]
 refine WantM.intro (zpb r n (by omega) hp ht) ?_
 have hsz:=wK r n
 unfold yq
 generalize xS r n=x at *
 obtain ⟨b,t1,p1,c1,a1⟩:=x
 simp only at *
 simp -implicitDefEqProofs only [go_sem]
 refine zX (fun m z=>∃k,k≤b.size∧m=b.size - k∧z=⟨56,[(0,vP),(2,vI low),(3,vI high),(9,vI r.p),(10,vS b),(11,vI (zcL b k)),(12,vI k)],[(1000000,0,one ⟨4,[[vS t1,vI p1,vI c1,vI a1]],0,false⟩)],1⟩) b.size ?_ ?_
 ·simp -implicitDefEqProofs only [go_sem]
  exact ⟨0,Nat.zero_le _,rfl,rfl⟩
 ·rintro m z ⟨k,hk,rfl,rfl⟩
  rcases Nat.lt_or_ge k b.size with hlt | hge
  ·have hlt':(k:Int)<(b.size:Int):=by omega
   have hg:=qQ (s:=b) (i:=k) hlt
   have hb:=zgM b k
   have hv:=zhc b (k:=k) (by omega)
   have w1:IntKind.i64.wrap (bN b k:Int)=(bN b k:Int):=wrS (by omega)
   have w2:IntKind.i64.wrap (256 * (zcL b k:Int))=((256 * zcL b k:Nat):Int):=by rw [wrS (by omega)];omega
   have w3:IntKind.i64.wrap (((256 * zcL b k:Nat):Int)+(bN b k:Int))=((256 * zcL b k+bN b k:Nat):Int):=by rw [wrS (by omega)];omega
   have w4:IntKind.i64.wrap ((k:Int)+1)=((k+1:Nat):Int):=by rw [wrS (by omega)];omega
   simp -implicitDefEqProofs only [go_sem,hlt',hg,w1,w2,w3,w4]
   exact ⟨_,by omega,k+1,hlt,rfl,rfl⟩
  ·have hk:k=b.size:=by omega
   subst hk
   have hlt':¬((b.size:Int)<(b.size:Int)):=by omega
   simp -implicitDefEqProofs only [go_sem,hlt']
   refine zm (fun h=>?_) (fun h=>?_)
   ·have h':c1=0:=by simpa using h
    subst h'
    simp -implicitDefEqProofs only [go_sem]
    refine Want.intro (zaK _ _ _) ?_
    simp -implicitDefEqProofs only [go_sem]
    cases hin:mIn (zcL b b.size:Int) low high with
    | true=>simp -implicitDefEqProofs only [go_sem,hin,zb,za,bne_self_eq_false]
    | false=>
     simp -implicitDefEqProofs only [go_sem,hin,zb,za]
     refine WantM.intro (zcV ⟨t1,p1,0,a1⟩ 3 r.p) ?_
     simp -implicitDefEqProofs only [go_sem,qi,zb,za]
   ·have h':¬c1=0:=by simpa using h
    have h2:(c1 != 0)=true:=by simpa using h'
    simp -implicitDefEqProofs only [go_sem,h,h',h2,zb,za]
def xL (r:MRd):MDig × MRd:=((yL (xS r 32).1).1,(xS r 32).2)
theorem zmD (r:MRd) (hp:r.p≤r.t.size) (ht:r.t.size≤1000000000000):zW Tryz.prog 65 r.row [vP] (.agg (xL r).1.cs) (xL r).2.row:=by
 refine zl zmw false Tryz.f65 ?_
 conv=>enter [1];reduce
 refine jvM Tryz.f65 12 [.cell 2 25] (by kernel_rfl) (by decide +kernel) rfl ?_
 simp -implicitDefEqProofs only [go_sem]
 refine WantM.intro (zpb r 32 (by omega) hp ht) ?_
 have hsz:=wK r 32
 unfold xL
 generalize xS r 32=x at *
 obtain ⟨b,t1,p1,c1,a1⟩:=x
 simp only at *
 simp -implicitDefEqProofs only [go_sem]
 refine Want.intro (zsk b (by omega)) ?_
 simp -implicitDefEqProofs only [go_sem]
theorem znC (r:MRd) (hp:r.p≤r.t.size) (ht:r.t.size≤1000000000000):zW Tryz.prog 103 r.row [vP] (.agg (xL r).1.cs) (xL r).2.row:=by
 refine zl zmw false Tryz.f103 ?_
 conv=>enter [1];reduce
 refine jvM Tryz.f103 12 [.cell 2 25] (by kernel_rfl) (by decide +kernel) rfl ?_
 simp -implicitDefEqProofs only [go_sem]
 refine WantM.intro (zhC r 32 (by omega) hp ht) ?_
 have hsz:=wK r 32
 unfold xL
 generalize xS r 32=x at *
 obtain ⟨b,t1,p1,c1,a1⟩:=x
 simp only at *
 simp -implicitDefEqProofs only [go_sem]
 refine Want.intro (zse b (by omega)) ?_
 simp -implicitDefEqProofs only [go_sem]
end Go.Proofs.YtpjpkmhaffmbmaaGreat.E
end
section
namespace Go.Proofs.YtpjpkmhaffmbmaaGreat.E
open Go Go.RowKit
set_option maxHeartbeats 4000000
set_option maxRecDepth 10000
set_option linter.unusedSimpArgs false
set_option linter.unusedVariables false
set_option linter.unusedSectionVars false
def dcD3:Dec:=⟨[],[9,10,11],[22,30,37,38,39,40,49,56,76,80,87,141,143,159,237,250,259],false⟩
def zgh (l:List UInt8) (c:Nat):Bool:=l.any fun b=>b.toNat==c
def zS (s:ByteArray) (c:Nat):Bool:=zgh s.data.toList c
@[go_sem] theorem zrh:zS ⟨#[115]⟩ 115=true:=rfl
@[go_sem] theorem zrm:zS ⟨#[115]⟩ 102=false:=rfl
@[go_sem] theorem zrk:zS ⟨#[115]⟩ 110=false:=rfl
@[go_sem] theorem zri:zS ⟨#[115]⟩ 114=false:=rfl
@[go_sem] theorem has_s_99:zS ⟨#[115]⟩ 99=false:=rfl
@[go_sem] theorem zrj:zS ⟨#[115]⟩ 112=false:=rfl
@[go_sem] theorem zrl:zS ⟨#[115]⟩ 108=false:=rfl
@[go_sem] theorem zoC:zS ⟨#[115,110,114]⟩ 115=true:=rfl
@[go_sem] theorem zoH:zS ⟨#[115,110,114]⟩ 102=false:=rfl
@[go_sem] theorem zoF:zS ⟨#[115,110,114]⟩ 110=true:=rfl
@[go_sem] theorem zoD:zS ⟨#[115,110,114]⟩ 114=true:=rfl
@[go_sem] theorem zpO:zS ⟨#[115,110,114]⟩ 99=false:=rfl
@[go_sem] theorem zoE:zS ⟨#[115,110,114]⟩ 112=false:=rfl
@[go_sem] theorem zoG:zS ⟨#[115,110,114]⟩ 108=false:=rfl
@[go_sem] theorem zpQ:zS ⟨#[102,110]⟩ 115=false:=rfl
@[go_sem] theorem zpV:zS ⟨#[102,110]⟩ 102=true:=rfl
@[go_sem] theorem zpT:zS ⟨#[102,110]⟩ 110=true:=rfl
@[go_sem] theorem zpR:zS ⟨#[102,110]⟩ 114=false:=rfl
@[go_sem] theorem zrn:zS ⟨#[102,110]⟩ 99=false:=rfl
@[go_sem] theorem zpS:zS ⟨#[102,110]⟩ 112=false:=rfl
@[go_sem] theorem zpU:zS ⟨#[102,110]⟩ 108=false:=rfl
@[go_sem] theorem zoI:zS ⟨#[102,110,112]⟩ 115=false:=rfl
@[go_sem] theorem zoN:zS ⟨#[102,110,112]⟩ 102=true:=rfl
@[go_sem] theorem zoL:zS ⟨#[102,110,112]⟩ 110=true:=rfl
@[go_sem] theorem zoJ:zS ⟨#[102,110,112]⟩ 114=false:=rfl
@[go_sem] theorem zpP:zS ⟨#[102,110,112]⟩ 99=false:=rfl
@[go_sem] theorem zoK:zS ⟨#[102,110,112]⟩ 112=true:=rfl
@[go_sem] theorem zoM:zS ⟨#[102,110,112]⟩ 108=false:=rfl
@[go_sem] theorem zp2:zS ⟨#[102,99]⟩ 115=false:=rfl
@[go_sem] theorem zp7:zS ⟨#[102,99]⟩ 102=true:=rfl
@[go_sem] theorem zp5:zS ⟨#[102,99]⟩ 110=false:=rfl
@[go_sem] theorem zp3:zS ⟨#[102,99]⟩ 114=false:=rfl
@[go_sem] theorem zrp:zS ⟨#[102,99]⟩ 99=true:=rfl
@[go_sem] theorem zp4:zS ⟨#[102,99]⟩ 112=false:=rfl
@[go_sem] theorem zp6:zS ⟨#[102,99]⟩ 108=false:=rfl
@[go_sem] theorem zpW:zS ⟨#[102,108]⟩ 115=false:=rfl
@[go_sem] theorem zp1:zS ⟨#[102,108]⟩ 102=true:=rfl
@[go_sem] theorem zpZ:zS ⟨#[102,108]⟩ 110=false:=rfl
@[go_sem] theorem zpX:zS ⟨#[102,108]⟩ 114=false:=rfl
@[go_sem] theorem zro:zS ⟨#[102,108]⟩ 99=false:=rfl
@[go_sem] theorem zpY:zS ⟨#[102,108]⟩ 112=false:=rfl
@[go_sem] theorem zp0:zS ⟨#[102,108]⟩ 108=true:=rfl
def l5H (k:Int):ByteArray:=
 if k=1 then ⟨#[115]⟩ else if k=2∨k=3∨k=6 then ⟨#[115,110,114]⟩ else if k=4 then ⟨#[102,110]⟩ else if k=5 then ⟨#[102,110,112]⟩ else if k=7 then ⟨#[102,99]⟩ else if k=8 then ⟨#[102,108]⟩ else ⟨#[]⟩
theorem zmE (k:Int):CallR Tryz.prog 62 [vI k] (vS (l5H k)) []:=by
 refine zl dcD3 false Tryz.f62 ?_
 conv=>enter [1];reduce
 refine jvR Tryz.f62 23 [.tmp 2] (by kernel_rfl) (by decide +kernel) rfl ?_
 simp -implicitDefEqProofs only [go_sem]
 repeat' first | (refine zm (fun h=>?_) (fun h=>?_)<;>try simp -implicitDefEqProofs only [go_sem,h]) | (refine zi (fun h=>?_) (fun h=>?_)<;>try simp -implicitDefEqProofs only [go_sem,h])
 all_goals simp_all [l5H]
 all_goals (try omega)
 all_goals trace_state
theorem zdl {s:ByteArray} {i c:Nat} (h:i<s.size):zgh (s.data.toList.drop i) c=((bN s i==c)||zgh (s.data.toList.drop (i+1)) c):=by
 have h':i<s.data.toList.length:=by rw [Array.length_toList];exact h
 rw [List.drop_eq_getElem_cons h']
 unfold zgh
 rw [List.any_cons]
 congr 2
 have:=zpq s i 0
 rw [Nat.add_zero] at this
 rw [this]
 unfold bL
 rw [List.drop_eq_getElem_cons h']
 rfl
theorem zh (s:ByteArray) (c:Nat) (hs:s.size≤1000000000000):CallR Tryz.prog 64 [vS s,.sc (.int .u8 (c:Int))] (vB (zS s c)) []:=by
 refine zl dcD3 false Tryz.f64 ?_
 conv=>enter [1];reduce
 refine jvR Tryz.f64 17 [.tmp 4] (by kernel_rfl) (by decide +kernel) rfl ?_
 simp -implicitDefEqProofs only [go_sem]
 refine zX (fun m z=>∃i,i≤s.size∧m=s.size - i∧zgh (s.data.toList.drop i) c=zS s c∧z=⟨17,[(0,vS s),(1,.sc (.int .u8 (c:Int))),(5,vI i)],[],1⟩) s.size ?_ ?_
 ·simp -implicitDefEqProofs only [go_sem]
  exact ⟨0,Nat.zero_le _,rfl,rfl,rfl⟩
 ·rintro m z ⟨i,hi,rfl,hx,rfl⟩
  rcases Nat.lt_or_ge i s.size with hlt | hge
  ·have hlt':(i:Int)<(s.size:Int):=by omega
   have hg:=qQ (s:=s) (i:=i) hlt
   have w4:IntKind.i64.wrap ((i:Int)+1)=((i+1:Nat):Int):=by rw [wrS (by omega)];omega
   rw [zdl hlt] at hx
   simp -implicitDefEqProofs only [go_sem,hlt',hg]
   refine zi (fun h=>?_) (fun h=>?_)
   ·have h2:bN s i=c:=by have:=of_decide_eq_true h;omega
    simp -implicitDefEqProofs only [go_sem,h]
    rw [←hx,h2]
    simp
   ·have h2:¬bN s i=c:=fun e=>by rw [e] at h;simp at h
    simp -implicitDefEqProofs only [go_sem,h,w4]
    refine ⟨_,by omega,i+1,hlt,rfl,?_,rfl⟩
    rw [←hx]
    simp [h2]
  ·have hi:i=s.size:=by omega
   subst hi
   have hlt':¬((s.size:Int)<(s.size:Int)):=by omega
   simp -implicitDefEqProofs only [go_sem,hlt']
   rw [←hx]
   rw [List.drop_of_length_le (by rw [Array.length_toList];exact Nat.le_refl _)]
   rfl
def l5P (k:Int):ByteArray:=
 if k=1 then ⟨#[115]⟩ else if k=2∨k=3∨k=6 then ⟨#[115,122,114]⟩ else if k=4 then ⟨#[102,122]⟩ else if k=5 then ⟨#[102,122,112]⟩ else if k=7 then ⟨#[102,99]⟩ else if k=8 then ⟨#[102,108]⟩ else ⟨#[]⟩
theorem znD (k:Nat):CallR Tryz.prog 101 [vI k] (vS (l5P k)) []:=by
 refine zl dcD3 false Tryz.f101 ?_
 conv=>enter [1];reduce
 refine jvR Tryz.f101 10 [.tmp 2] (by kernel_rfl) (by decide +kernel) rfl ?_
 simp -implicitDefEqProofs only [go_sem]
 refine Want.intro (qy _ _ _) ?_
 simp -implicitDefEqProofs only [go_sem]
 refine zi (fun h=>?_) (fun h=>?_)
 ·simp -implicitDefEqProofs only [go_sem,h]
  have:¬(1≤(k:Int)∧(k:Int)≤8):=fun hh=>by simp [mIn,hh.1,hh.2] at h
  rw [l5P,if_neg (by omega),if_neg (by omega),if_neg (by omega),if_neg (by omega),if_neg (by omega),if_neg (by omega)]
 ·have hk:1≤k∧k≤8:=by
   have:1≤(k:Int)∧(k:Int)≤8:=by simpa [mIn] using h
   omega
  have:k=1∨k=2∨k=3∨k=4∨k=5∨k=6∨k=7∨k=8:=by omega
  rcases this with rfl | rfl | rfl | rfl | rfl | rfl | rfl | rfl<;>simp -implicitDefEqProofs only [go_sem,h,(by decide:((1:Nat):Int)<((9:Nat):Int)),(by decide:((2:Nat):Int)<((9:Nat):Int)),(by decide:((3:Nat):Int)<((9:Nat):Int)),(by decide:((4:Nat):Int)<((9:Nat):Int)),(by decide:((5:Nat):Int)<((9:Nat):Int)),(by decide:((6:Nat):Int)<((9:Nat):Int)),(by decide:((7:Nat):Int)<((9:Nat):Int)),(by decide:((8:Nat):Int)<((9:Nat):Int))]
  all_goals rfl
end Go.Proofs.YtpjpkmhaffmbmaaGreat.E
end
