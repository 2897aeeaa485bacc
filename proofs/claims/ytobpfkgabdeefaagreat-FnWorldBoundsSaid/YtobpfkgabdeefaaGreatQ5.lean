/- Contracts: readers of the wire; Contracts: messages; what the wire says -/
import Derived.Test.YtobpfkgabdeefaaGreatQ4
namespace Go.Proofs.YtobpfkgabdeefaaGreat.E
open Go Go.RowKit
set_option maxHeartbeats 4000000
set_option maxRecDepth 10000
set_option linter.unusedSimpArgs false
set_option linter.unusedVariables false
set_option linter.unusedSectionVars false
def ux:cc:=⟨[(217,.cm [true,false]),(268,.cm [true,false]),(269,.cm [true,false,false])],cw,cz,false⟩
def aS (a b c:Int):Bool:=decide (b<=a)&&decide (a<=c)
structure ch where
 t:ByteArray
 p:Nat
 code:Int
 at_:Int
def ch.cs (r:ch):List AV:=[vS r.t,vI r.p,vI r.code,vI r.at_]
def ch.row (r:ch):ak:=[(1000000,0,one ⟨4,[r.cs],0,false⟩)]
attribute [go_sem] ch.cs ch.row
abbrev vP:AV:=.ptr 1000000 0 [] 4 0 0
def kE (r:ch) (c a:Int):ch:=if r.code=0 then⟨r.t,r.p,c,a⟩ else r
def eR (r:ch) (n:Nat):ByteArray × ch:=if r.code=0 then(if r.p+n>r.t.size then(⟨#[]⟩,⟨r.t,r.p,2,r.t.size⟩) else(r.t.extract r.p (r.p+n),⟨r.t,r.p+n,r.code,r.at_⟩)) else(⟨#[]⟩,r)
theorem fG (a b c:Int):ba Tryz.prog 81 [vI a,vI b,vI c] (vB (aS a b c)) []:=by
 refine aF ux false Tryz.f81 ?_;conv=>enter[1];reduce
 refine bu Tryz.f81 15 [.tmp 6] (by kernel_rfl) (by decide +kernel) rfl ?_;refine au ?_;refine fv (fun h=>?_) (fun h=>?_)
 ·refine aA h ?_;simp_all[aS]
 refine aA h ?_;simp_all[aS];omega
theorem dQ (a b c:Int):ba Tryz.prog 100 [vI a,vI b,vI c] (vB (aS a b c)) []:=by
 refine aF ux false Tryz.f100 ?_;conv=>enter[1];reduce
 refine bu Tryz.f100 15 [.tmp 6] (by kernel_rfl) (by decide +kernel) rfl ?_;refine au ?_;refine fv (fun h=>?_) (fun h=>?_)
 ·refine aA h ?_;simp_all[aS]
 refine aA h ?_;simp_all[aS];omega
theorem tq (r:ch) (c a:Int):aY Tryz.prog 269 r.row [vP,vI c,vI a] (.aZ []) (kE r c a).row:=by
 refine aF ux false Tryz.f269 ?_;conv=>enter[1];reduce
 refine bI Tryz.f269 18 [] (by kernel_rfl) (by decide +kernel) rfl ?_;refine au ?_;refine bX (fun h=>?_) (fun h=>?_)
 ·have h':r.code=0:=by simpa using h
  simp -implicitDefEqProofs only[go_sem,h,kE,h']
 have h':¬r.code=0:=by simpa using h
 simp -implicitDefEqProofs only[go_sem,h,kE,h']
theorem MJ (r:ch) (n:Nat) (hn:n<=1000) (hp:r.p<=r.t.size) (ht:r.t.size<=1000000000000):aY Tryz.prog 268 r.row [vP,vI n] (vS (eR r n).1) (eR r n).2.row:=by
 refine aF ux false Tryz.f268 ?_;conv=>enter[1];reduce
 refine bI Tryz.f268 56 [.tmp 4] (by kernel_rfl) (by decide +kernel) rfl ?_;refine au ?_;refine bX (fun h=>?_) (fun h=>?_)
 ·have h':¬r.code=0:=by simpa using h
  simp -implicitDefEqProofs only[go_sem,h,eR,h']
 have h':r.code=0:=by simpa using h
 have oW:IntKind.i64.wrap ((r.t.size:Int) - r.p)=(r.t.size:Int) - r.p:=aN (by omega);have oe:IntKind.i64.wrap ((r.p:Int)+n)=((r.p+n:Nat):Int):=by rw[aN (by omega)];rfl
 refine eV h oW oe ?_;refine bX (fun h=>?_) (fun h=>?_)
 ·have hd:r.p+n>r.t.size:=by have:=of_decide_eq_true h;omega
  refine aA h ?_;refine aE.intro (tq r 2 r.t.size) ?_;simp -implicitDefEqProofs only[go_sem,kE,h',eR,hd]
 have hd:¬r.p+n>r.t.size:=by have:=of_decide_eq_false h;omega
 have Ck:(r.p:Int)<=((r.p+n:Nat):Int)/\((r.p+n:Nat):Int)<=(r.t.size:Int):=by omega
 simp -implicitDefEqProofs only[go_sem,h,oW,oe,eR,h',hd,Ck]
theorem HG (r:ch) (n:Nat) (hn:n<=1000) (hp:r.p<=r.t.size) (ht:r.t.size<=1000000000000):aY Tryz.prog 217 r.row [vP,vI n] (vS (eR r n).1) (eR r n).2.row:=by
 refine aF ux false Tryz.f217 ?_;conv=>enter[1];reduce
 refine bI Tryz.f217 55 [.tmp 4] (by kernel_rfl) (by decide +kernel) rfl ?_;refine au ?_;refine bX (fun h=>?_) (fun h=>?_)
 ·have h':¬r.code=0:=by simpa using h
  simp -implicitDefEqProofs only[go_sem,h,eR,h']
 have h':r.code=0:=by simpa using h
 have oe:IntKind.i64.wrap ((r.p:Int)+n)=((r.p+n:Nat):Int):=by rw[aN (by omega)];rfl
 have hw3:IntKind.i64.wrap (((r.p+n:Nat):Int) - n)=(r.p:Int):=by rw[aN (by omega)];omega
 refine b8 h oe ?_;refine bX (fun h=>?_) (fun h=>?_)
 ·have hd:r.p+n>r.t.size:=by have:=of_decide_eq_true h;omega
  simp -implicitDefEqProofs only[go_sem,h,h',eR,hd]
 have hd:¬r.p+n>r.t.size:=by have:=of_decide_eq_false h;omega
 have Ck:(r.p:Int)<=((r.p+n:Nat):Int)/\((r.p+n:Nat):Int)<=(r.t.size:Int):=by omega
 simp -implicitDefEqProofs only[go_sem,h,oe,hw3,eR,h',hd,Ck]
def kh (s:ByteArray):Nat->Nat
 | 0=>0
 | k+1=>256 * kh s k+bN s k
theorem aaX (s:ByteArray) (k:Nat):kh s k<256 ^ k:=by
 induction k with
 | zero=>simp[kh]
 | succ k ih=>
  have:=yF s k;simp only[kh,Nat.pow_succ];omega
theorem QP (s:ByteArray) {k:Nat}(h:k<=3):kh s k<16777216:=Nat.lt_of_lt_of_le (aaX s k) (by
 have:256 ^ k<=256 ^ 3:=Nat.pow_le_pow_right (by omega) h
 omega)
def cV (r:ch) (n:Nat) (low high:Int):Int × ch:=
 if (eR r n).2.code=0 then
  (if aS (kh (eR r n).1 (eR r n).1.size) low high then(kh (eR r n).1 (eR r n).1.size,(eR r n).2) else(0,⟨(eR r n).2.t,(eR r n).2.p,3,r.p⟩))
 else(0,(eR r n).2)
theorem FR (r:ch) (n:Nat):(eR r n).1.size<=n:=by
 unfold eR;split
 ·split
  ·simp[ByteArray.size]
  rw[ByteArray.size_extract];omega
 simp[ByteArray.size]
theorem yB (r:ch) (n:Nat) (low high:Int) (hn:n<=3) (hp:r.p<=r.t.size) (ht:r.t.size<=1000000000000):aY Tryz.prog 219 r.row [vP,vI n,vI low,vI high] (vI (cV r n low high).1) (cV r n low high).2.row:=by
 refine aF ux false Tryz.f219 ?_;conv=>enter[1];reduce
 refine bI Tryz.f219 50 [.tmp 8] (by kernel_rfl) (by decide +kernel) rfl ?_;refine au ?_;refine aE.intro (HG r n (by omega) hp ht) ?_;have dv:=FR r n;unfold cV;generalize eR r n=x at *;obtain⟨b,t1,p1,c1,a1⟩:=x;simp only at *;refine au ?_;refine bX (fun h=>?_) (fun h=>?_)
 ·have h':¬c1=0:=by simpa using h
  exact dp h h'
 have h':c1=0:=by simpa using h
 subst h';refine aA h ?_;refine dq (fun m z=>∃k,k<=b.size/\m=b.size - k/\z=⟨50,[(0,vP),(2,vI low),(3,vI high),(9,vI r.p),(10,vS b),(11,vI (kh b k)),(12,vI k)],[(1000000,0,one ⟨4,[[vS t1,vI p1,vI 0,vI a1]],0,false⟩)],1⟩) b.size ?_ ?_
 ·refine au ?_;exact⟨0,aR _,rfl,rfl⟩
 rintro m z ⟨k,hk,rfl,rfl⟩;rcases bp k b.size with ab|bM
 ·have ah:(k:Int)<(b.size:Int):=by omega
  have hg:=yu (s:=b) (i:=k) ab;have hb:=yF b k;have hv:=QP b (k:=k) (by omega);have w1:IntKind.i64.wrap (bN b k:Int)=(bN b k:Int):=aN (by omega);have w2:IntKind.i64.wrap (256 * (kh b k:Int))=((256 * kh b k:Nat):Int):=by rw[aN (by omega)];omega
  have w3:IntKind.i64.wrap (((256 * kh b k:Nat):Int)+(bN b k:Int))=((256 * kh b k+bN b k:Nat):Int):=by rw[aN (by omega)];omega
  have w4:IntKind.i64.wrap ((k:Int)+1)=((k+1:Nat):Int):=by rw[aN (by omega)];omega
  refine nS ah hg w1 w2 w3 w4 ?_;exact⟨_,by omega,k+1,ab,rfl,rfl⟩
 have hk:k=b.size:=by omega
 subst hk;have ah:¬((b.size:Int)<(b.size:Int)):=by omega
 refine aA ah ?_;refine cT (dQ _ _ _) ?_;cases cq:aS (kh b b.size:Int) low high with
 | true=>simp -implicitDefEqProofs only[go_sem,cq,aT,aV]
 | false=>simp -implicitDefEqProofs only[go_sem,cq,aT,aV]
theorem jD (r:ch) (n:Nat) (low high:Int) (hn:n<=3) (hp:r.p<=r.t.size) (ht:r.t.size<=1000000000000):aY Tryz.prog 265 r.row [vP,vI n,vI low,vI high] (vI (cV r n low high).1) (cV r n low high).2.row:=by
 refine aF ux false Tryz.f265 ?_;conv=>enter[1];reduce
 refine bI Tryz.f265 56 [.tmp 8] (by kernel_rfl) (by decide +kernel) rfl ?_;refine au ?_;refine aE.intro (MJ r n (by omega) hp ht) ?_;have dv:=FR r n;unfold cV;generalize eR r n=x at *;obtain⟨b,t1,p1,c1,a1⟩:=x;simp only at *;refine au ?_;refine dq (fun m z=>∃k,k<=b.size/\m=b.size - k/\z=⟨56,[(0,vP),(2,vI low),(3,vI high),(9,vI r.p),(10,vS b),(11,vI (kh b k)),(12,vI k)],[(1000000,0,one ⟨4,[[vS t1,vI p1,vI c1,vI a1]],0,false⟩)],1⟩) b.size ?_ ?_
 ·refine au ?_;exact⟨0,aR _,rfl,rfl⟩
 rintro m z ⟨k,hk,rfl,rfl⟩;rcases bp k b.size with ab|bM
 ·have ah:(k:Int)<(b.size:Int):=by omega
  have hg:=yu (s:=b) (i:=k) ab;have hb:=yF b k;have hv:=QP b (k:=k) (by omega);have w1:IntKind.i64.wrap (bN b k:Int)=(bN b k:Int):=aN (by omega);have w2:IntKind.i64.wrap (256 * (kh b k:Int))=((256 * kh b k:Nat):Int):=by rw[aN (by omega)];omega
  have w3:IntKind.i64.wrap (((256 * kh b k:Nat):Int)+(bN b k:Int))=((256 * kh b k+bN b k:Nat):Int):=by rw[aN (by omega)];omega
  have w4:IntKind.i64.wrap ((k:Int)+1)=((k+1:Nat):Int):=by rw[aN (by omega)];omega
  refine nS ah hg w1 w2 w3 w4 ?_;exact⟨_,by omega,k+1,ab,rfl,rfl⟩
 have hk:k=b.size:=by omega
 subst hk;have ah:¬((b.size:Int)<(b.size:Int)):=by omega
 refine aA ah ?_;refine fv (fun h=>?_) (fun h=>?_)
 ·have h':c1=0:=by simpa using h
  subst h';refine au ?_;refine cT (fG _ _ _) ?_;cases cq:aS (kh b b.size:Int) low high with
  | true=>simp -implicitDefEqProofs only[go_sem,cq,aT,aV,bne_self_eq_false]
  | false=>
   refine yQ cq ?_;refine aE.intro (tq ⟨t1,p1,0,a1⟩ 3 r.p) ?_;simp -implicitDefEqProofs only[go_sem,kE,aT,aV]
 have h':¬c1=0:=by simpa using h
 have h2:(c1 != 0)=true:=by simpa using h'
 simp -implicitDefEqProofs only[go_sem,h,h',h2,aT,aV]
def jS (r:ch):aX × ch:=((rh (eR r 32).1).1,(eR r 32).2)
theorem HD (r:ch) (hp:r.p<=r.t.size) (ht:r.t.size<=1000000000000):aY Tryz.prog 267 r.row [vP] (.agg (jS r).1.cs) (jS r).2.row:=by
 refine aF ux false Tryz.f267 ?_;conv=>enter[1];reduce
 refine bI Tryz.f267 12 [.cell 2 39] (by kernel_rfl) (by decide +kernel) rfl ?_;refine au ?_;refine aE.intro (MJ r 32 (by omega) hp ht) ?_;have dv:=FR r 32;unfold jS;generalize eR r 32=x at *;obtain⟨b,t1,p1,c1,a1⟩:=x;simp only at *;refine au ?_;refine aq.intro (af2 b (by omega)) ?_;exact dy
theorem Vq (r:ch) (hp:r.p<=r.t.size) (ht:r.t.size<=1000000000000):aY Tryz.prog 220 r.row [vP] (.agg (jS r).1.cs) (jS r).2.row:=by
 refine aF ux false Tryz.f220 ?_;conv=>enter[1];reduce
 refine bI Tryz.f220 12 [.cell 2 39] (by kernel_rfl) (by decide +kernel) rfl ?_;refine au ?_;refine aE.intro (HG r 32 (by omega) hp ht) ?_;have dv:=FR r 32;unfold jS;generalize eR r 32=x at *;obtain⟨b,t1,p1,c1,a1⟩:=x;simp only at *;refine au ?_;refine aq.intro (agb b (by omega)) ?_;exact dy
def Ml:cc:=⟨[],cw,cz,false⟩
def xw (l:List UInt8) (c:Nat):Bool:=l.any fun b=>b.toNat==c
def dC (s:ByteArray) (c:Nat):Bool:=xw s.data.toList c
@[go_sem] theorem ai6:dC ⟨#[115]⟩ 115=true:=rfl
@[go_sem] theorem ajb:dC ⟨#[115]⟩ 102=false:=rfl
@[go_sem] theorem ai9:dC ⟨#[115]⟩ 110=false:=rfl
@[go_sem] theorem ai7:dC ⟨#[115]⟩ 114=false:=rfl
@[go_sem] theorem ai5:dC ⟨#[115]⟩ 99=false:=rfl
@[go_sem] theorem ai8:dC ⟨#[115]⟩ 112=false:=rfl
@[go_sem] theorem aja:dC ⟨#[115]⟩ 108=false:=rfl
@[go_sem] theorem aiZ:dC ⟨#[115,110,114]⟩ 115=true:=rfl
@[go_sem] theorem ai4:dC ⟨#[115,110,114]⟩ 102=false:=rfl
@[go_sem] theorem ai2:dC ⟨#[115,110,114]⟩ 110=true:=rfl
@[go_sem] theorem ai0:dC ⟨#[115,110,114]⟩ 114=true:=rfl
@[go_sem] theorem aiY:dC ⟨#[115,110,114]⟩ 99=false:=rfl
@[go_sem] theorem ai1:dC ⟨#[115,110,114]⟩ 112=false:=rfl
@[go_sem] theorem ai3:dC ⟨#[115,110,114]⟩ 108=false:=rfl
@[go_sem] theorem ajk:dC ⟨#[102,110]⟩ 115=false:=rfl
@[go_sem] theorem ajp:dC ⟨#[102,110]⟩ 102=true:=rfl
@[go_sem] theorem ajn:dC ⟨#[102,110]⟩ 110=true:=rfl
@[go_sem] theorem ajl:dC ⟨#[102,110]⟩ 114=false:=rfl
@[go_sem] theorem ajj:dC ⟨#[102,110]⟩ 99=false:=rfl
@[go_sem] theorem ajm:dC ⟨#[102,110]⟩ 112=false:=rfl
@[go_sem] theorem ajo:dC ⟨#[102,110]⟩ 108=false:=rfl
@[go_sem] theorem ajd:dC ⟨#[102,110,112]⟩ 115=false:=rfl
@[go_sem] theorem aji:dC ⟨#[102,110,112]⟩ 102=true:=rfl
@[go_sem] theorem ajg:dC ⟨#[102,110,112]⟩ 110=true:=rfl
@[go_sem] theorem aje:dC ⟨#[102,110,112]⟩ 114=false:=rfl
@[go_sem] theorem ajc:dC ⟨#[102,110,112]⟩ 99=false:=rfl
@[go_sem] theorem ajf:dC ⟨#[102,110,112]⟩ 112=true:=rfl
@[go_sem] theorem ajh:dC ⟨#[102,110,112]⟩ 108=false:=rfl
@[go_sem] theorem ajy:dC ⟨#[102,99]⟩ 115=false:=rfl
@[go_sem] theorem ajD:dC ⟨#[102,99]⟩ 102=true:=rfl
@[go_sem] theorem ajB:dC ⟨#[102,99]⟩ 110=false:=rfl
@[go_sem] theorem ajz:dC ⟨#[102,99]⟩ 114=false:=rfl
@[go_sem] theorem ajx:dC ⟨#[102,99]⟩ 99=true:=rfl
@[go_sem] theorem ajA:dC ⟨#[102,99]⟩ 112=false:=rfl
@[go_sem] theorem ajC:dC ⟨#[102,99]⟩ 108=false:=rfl
@[go_sem] theorem ajr:dC ⟨#[102,108]⟩ 115=false:=rfl
@[go_sem] theorem ajw:dC ⟨#[102,108]⟩ 102=true:=rfl
@[go_sem] theorem aju:dC ⟨#[102,108]⟩ 110=false:=rfl
@[go_sem] theorem ajs:dC ⟨#[102,108]⟩ 114=false:=rfl
@[go_sem] theorem ajq:dC ⟨#[102,108]⟩ 99=false:=rfl
@[go_sem] theorem ajt:dC ⟨#[102,108]⟩ 112=false:=rfl
@[go_sem] theorem ajv:dC ⟨#[102,108]⟩ 108=true:=rfl
def gS (k:Int):ByteArray:=
 if k=1 then⟨#[115]⟩ else if k=2\/k=3\/k=6 then⟨#[115,110,114]⟩ else if k=4 then⟨#[102,110]⟩ else if k=5 then⟨#[102,110,112]⟩ else if k=7 then⟨#[102,99]⟩ else if k=8 then⟨#[102,108]⟩ else⟨#[]⟩
theorem ML (k:Int):ba Tryz.prog 264 [vI k] (vS (gS k)) []:=by
 refine aF Ml false Tryz.f264 ?_;conv=>enter[1];reduce
 refine bu Tryz.f264 23 [.tmp 2] (by kernel_rfl) (by decide +kernel) rfl ?_;simp -implicitDefEqProofs only[go_sem]
 repeat' first|(refine fv (fun h=>?_) (fun h=>?_)<;>try simp -implicitDefEqProofs only[go_sem,h])|(refine bX (fun h=>?_) (fun h=>?_)<;>try simp -implicitDefEqProofs only[go_sem,h])
 all_goals simp_all[gS]
 all_goals(try omega)
theorem RA {s:ByteArray}{i c:Nat}(h:i<s.size):xw (s.data.toList.drop i) c=((bN s i==c)||xw (s.data.toList.drop (i+1)) c):=by
 have h':i<s.data.toList.length:=by rw[Array.length_toList];exact h
 rw[List.drop_eq_getElem_cons h'];unfold xw;rw[List.any_cons];congr 2;have:=Nk s i 0;rw[Nat.add_zero]at this;rw[this];unfold bL;rw[List.drop_eq_getElem_cons h'];rfl
theorem aM (s:ByteArray) (c:Nat) (hs:s.size<=1000000000000):ba Tryz.prog 266 [vS s,.sc (.int .u8 (c:Int))] (vB (dC s c)) []:=by
 refine aF Ml false Tryz.f266 ?_;conv=>enter[1];reduce
 refine bu Tryz.f266 17 [.tmp 4] (by kernel_rfl) (by decide +kernel) rfl ?_;refine au ?_;refine dq (fun m z=>∃i,i<=s.size/\m=s.size - i/\xw (s.data.toList.drop i) c=dC s c/\z=⟨17,[(0,vS s),(1,.sc (.int .u8 (c:Int))),(5,vI i)],[],1⟩) s.size ?_ ?_
 ·refine au ?_;exact⟨0,aR _,rfl,rfl,rfl⟩
 rintro m z ⟨i,hi,rfl,hx,rfl⟩;rcases bp i s.size with ab|bM
 ·have ah:(i:Int)<(s.size:Int):=by omega
  have hg:=yu (s:=s) (i:=i) ab;have w4:IntKind.i64.wrap ((i:Int)+1)=((i+1:Nat):Int):=by rw[aN (by omega)];omega
  rw[RA ab]at hx;refine b8 ah hg ?_;refine bX (fun h=>?_) (fun h=>?_)
  ·have h2:bN s i=c:=by have:=of_decide_eq_true h;omega
   refine aA h ?_;rw[<-hx,h2];simp
  have h2:¬bN s i=c:=fun e=>by rw[e]at h;simp at h
  refine b8 h w4 ?_;refine⟨_,by omega,i+1,ab,rfl,?_,rfl⟩;rw[<-hx];simp[h2]
 have hi:i=s.size:=by omega
 subst hi;have ah:¬((s.size:Int)<(s.size:Int)):=by omega
 refine aA ah ?_;rw[<-hx];rw[List.drop_of_length_le (by rw[Array.length_toList];exact Nat.le_refl _)];rfl
def fJ (k:Int):ByteArray:=
 if k=1 then⟨#[115]⟩ else if k=2\/k=3\/k=6 then⟨#[115,122,114]⟩ else if k=4 then⟨#[102,122]⟩ else if k=5 then⟨#[102,122,112]⟩ else if k=7 then⟨#[102,99]⟩ else if k=8 then⟨#[102,108]⟩ else⟨#[]⟩
theorem Vr (k:Nat):ba Tryz.prog 218 [vI k] (vS (fJ k)) []:=by
 refine aF Ml false Tryz.f218 ?_;conv=>enter[1];reduce
 refine bu Tryz.f218 10 [.tmp 2] (by kernel_rfl) (by decide +kernel) rfl ?_;refine au ?_;refine cT (dQ _ _ _) ?_;refine bX (fun h=>?_) (fun h=>?_)
 ·refine aA h ?_;have:¬(1<=(k:Int)/\(k:Int)<=8):=fun hh=>by simp[aS,hh.1,hh.2]at h
  rw[fJ,if_neg (by omega),if_neg (by omega),if_neg (by omega),if_neg (by omega),if_neg (by omega),if_neg (by omega)]
 have hk:1<=k/\k<=8:=by
  have:1<=(k:Int)/\(k:Int)<=8:=by simpa[aS]using h
  omega
 have:k=1\/k=2\/k=3\/k=4\/k=5\/k=6\/k=7\/k=8:=by omega
 rcases this with rfl|rfl|rfl|rfl|rfl|rfl|rfl|rfl<;>simp -implicitDefEqProofs only[go_sem,h,(by decide:((1:Nat):Int)<((9:Nat):Int)),(by decide:((2:Nat):Int)<((9:Nat):Int)),(by decide:((3:Nat):Int)<((9:Nat):Int)),(by decide:((4:Nat):Int)<((9:Nat):Int)),(by decide:((5:Nat):Int)<((9:Nat):Int)),(by decide:((6:Nat):Int)<((9:Nat):Int)),(by decide:((7:Nat):Int)<((9:Nat):Int)),(by decide:((8:Nat):Int)<((9:Nat):Int))]
 all_goals rfl
end Go.Proofs.YtobpfkgabdeefaaGreat.E
