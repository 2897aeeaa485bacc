/- Contracts: readers of the wire; Contracts: messages; what the wire says -/
import Derived.Test.YtobpfkgabdeefaaGreatP4
namespace Go.Proofs.YtobpfkgabdeefaaGreat.E
open Go Go.RowKit
set_option maxHeartbeats 4000000
set_option maxRecDepth 10000
set_option linter.unusedSimpArgs false
set_option linter.unusedVariables false
set_option linter.unusedSectionVars false
def uk:bX:=⟨[(217,.cm [true,false]),(268,.cm [true,false]),(269,.cm [true,false,false])],[9,10,11],[24,26,30,44,47,50,51,52,57,58,59,62,76,88,138,185,186,187,253,254,297,311],false⟩
def aT (a b c:Int):Bool:=decide (b≤a)&&decide (a≤c)
structure bY where
 t:ByteArray
 p:Nat
 code:Int
 at_:Int
def bY.cs (r:bY):List AV:=[vS r.t,vI r.p,vI r.code,vI r.at_]
def bY.row (r:bY):aj:=[(1000000,0,one ⟨4,[r.cs],0,false⟩)]
attribute [go_sem] bY.cs bY.row
abbrev vP:AV:=.ptr 1000000 0 [] 4 0 0
def ko (r:bY) (c a:Int):bY:=if r.code=0 then⟨r.t,r.p,c,a⟩ else r
def eD (r:bY) (n:Nat):ByteArray × bY:=if r.code=0 then(if r.p+n>r.t.size then(⟨#[]⟩,⟨r.t,r.p,2,r.t.size⟩) else(r.t.extract r.p (r.p+n),⟨r.t,r.p+n,r.code,r.at_⟩)) else(⟨#[]⟩,r)
theorem e9 (a b c:Int):aR Tryz.prog 81 [vI a,vI b,vI c] (vB (aT a b c)) []:=by
 refine aA uk false Tryz.f81 ?_;conv=>enter[1];reduce
 refine bf Tryz.f81 15 [.tmp 6] (by kernel_rfl) (by decide +kernel) rfl ?_;refine aw ?_;refine ew (fun h=>?_) (fun h=>?_)
 ·refine aC h ?_;simp_all[aT]
 refine aC h ?_;simp_all[aT];omega
theorem dG (a b c:Int):aR Tryz.prog 100 [vI a,vI b,vI c] (vB (aT a b c)) []:=by
 refine aA uk false Tryz.f100 ?_;conv=>enter[1];reduce
 refine bf Tryz.f100 15 [.tmp 6] (by kernel_rfl) (by decide +kernel) rfl ?_;refine aw ?_;refine ew (fun h=>?_) (fun h=>?_)
 ·refine aC h ?_;simp_all[aT]
 refine aC h ?_;simp_all[aT];omega
theorem s8 (r:bY) (c a:Int):bb Tryz.prog 269 r.row [vP,vI c,vI a] (.ba []) (ko r c a).row:=by
 refine aA uk false Tryz.f269 ?_;conv=>enter[1];reduce
 refine bT Tryz.f269 18 [] (by kernel_rfl) (by decide +kernel) rfl ?_;refine aw ?_;refine b8 (fun h=>?_) (fun h=>?_)
 ·have h':r.code=0:=by simpa using h
  simp -implicitDefEqProofs only[go_sem,h,ko,h']
 have h':¬r.code=0:=by simpa using h
 simp -implicitDefEqProofs only[go_sem,h,ko,h']
theorem MX (r:bY) (n:Nat) (hn:n≤1000) (hp:r.p≤r.t.size) (ht:r.t.size≤1000000000000):bb Tryz.prog 268 r.row [vP,vI n] (vS (eD r n).1) (eD r n).2.row:=by
 refine aA uk false Tryz.f268 ?_;conv=>enter[1];reduce
 refine bT Tryz.f268 56 [.tmp 4] (by kernel_rfl) (by decide +kernel) rfl ?_;refine aw ?_;refine b8 (fun h=>?_) (fun h=>?_)
 ·have h':¬r.code=0:=by simpa using h
  simp -implicitDefEqProofs only[go_sem,h,eD,h']
 have h':r.code=0:=by simpa using h
 have kr:IntKind.i64.wrap ((r.t.size:Int) - r.p)=(r.t.size:Int) - r.p:=aV (by omega);have mB:IntKind.i64.wrap ((r.p:Int)+n)=((r.p+n:Nat):Int):=by rw[aV (by omega)];rfl
 refine ez h kr mB ?_;refine b8 (fun h=>?_) (fun h=>?_)
 ·have hd:r.p+n>r.t.size:=by have:=of_decide_eq_true h;omega
  refine aC h ?_;refine aD.intro (s8 r 2 r.t.size) ?_;simp -implicitDefEqProofs only[go_sem,ko,h',eD,hd]
 have hd:¬r.p+n>r.t.size:=by have:=of_decide_eq_false h;omega
 have tT:(r.p:Int)≤((r.p+n:Nat):Int)∧((r.p+n:Nat):Int)≤(r.t.size:Int):=by omega
 simp -implicitDefEqProofs only[go_sem,h,kr,mB,eD,h',hd,tT]
theorem HE (r:bY) (n:Nat) (hn:n≤1000) (hp:r.p≤r.t.size) (ht:r.t.size≤1000000000000):bb Tryz.prog 217 r.row [vP,vI n] (vS (eD r n).1) (eD r n).2.row:=by
 refine aA uk false Tryz.f217 ?_;conv=>enter[1];reduce
 refine bT Tryz.f217 55 [.tmp 4] (by kernel_rfl) (by decide +kernel) rfl ?_;refine aw ?_;refine b8 (fun h=>?_) (fun h=>?_)
 ·have h':¬r.code=0:=by simpa using h
  simp -implicitDefEqProofs only[go_sem,h,eD,h']
 have h':r.code=0:=by simpa using h
 have mB:IntKind.i64.wrap ((r.p:Int)+n)=((r.p+n:Nat):Int):=by rw[aV (by omega)];rfl
 have hw3:IntKind.i64.wrap (((r.p+n:Nat):Int) - n)=(r.p:Int):=by rw[aV (by omega)];omega
 refine cg h mB ?_;refine b8 (fun h=>?_) (fun h=>?_)
 ·have hd:r.p+n>r.t.size:=by have:=of_decide_eq_true h;omega
  simp -implicitDefEqProofs only[go_sem,h,h',eD,hd]
 have hd:¬r.p+n>r.t.size:=by have:=of_decide_eq_false h;omega
 have tT:(r.p:Int)≤((r.p+n:Nat):Int)∧((r.p+n:Nat):Int)≤(r.t.size:Int):=by omega
 simp -implicitDefEqProofs only[go_sem,h,mB,hw3,eD,h',hd,tT]
def jR (s:ByteArray):Nat→Nat
 | 0=>0
 | k+1=>256 * jR s k+bN s k
theorem aaH (s:ByteArray) (k:Nat):jR s k<256 ^ k:=by
 induction k with
 | zero=>simp[jR]
 | succ k ih=>
  have:=yH s k;simp only[jR,Nat.pow_succ];omega
theorem QJ (s:ByteArray) {k:Nat}(h:k≤3):jR s k<16777216:=Nat.lt_of_lt_of_le (aaH s k) (by
 have:256 ^ k≤256 ^ 3:=Nat.pow_le_pow_right (by omega) h
 omega)
def cP (r:bY) (n:Nat) (low high:Int):Int × bY:=
 if (eD r n).2.code=0 then
  (if aT (jR (eD r n).1 (eD r n).1.size) low high then(jR (eD r n).1 (eD r n).1.size,(eD r n).2) else(0,⟨(eD r n).2.t,(eD r n).2.p,3,r.p⟩))
 else(0,(eD r n).2)
theorem FT (r:bY) (n:Nat):(eD r n).1.size≤n:=by
 unfold eD;split
 ·split
  ·simp[ByteArray.size]
  rw[ByteArray.size_extract];omega
 simp[ByteArray.size]
theorem yE (r:bY) (n:Nat) (low high:Int) (hn:n≤3) (hp:r.p≤r.t.size) (ht:r.t.size≤1000000000000):bb Tryz.prog 219 r.row [vP,vI n,vI low,vI high] (vI (cP r n low high).1) (cP r n low high).2.row:=by
 refine aA uk false Tryz.f219 ?_;conv=>enter[1];reduce
 refine bT Tryz.f219 50 [.tmp 8] (by kernel_rfl) (by decide +kernel) rfl ?_;refine aw ?_;refine aD.intro (HE r n (by omega) hp ht) ?_;have dg:=FT r n;unfold cP;generalize eD r n=x at *;obtain⟨b,t1,p1,c1,a1⟩:=x;simp only at *;refine aw ?_;refine b8 (fun h=>?_) (fun h=>?_)
 ·have h':¬c1=0:=by simpa using h
  exact dk h h'
 have h':c1=0:=by simpa using h
 subst h';refine aC h ?_;refine cR (fun m z=>∃k,k≤b.size∧m=b.size - k∧z=⟨50,[(0,vP),(2,vI low),(3,vI high),(9,vI r.p),(10,vS b),(11,vI (jR b k)),(12,vI k)],[(1000000,0,one ⟨4,[[vS t1,vI p1,vI 0,vI a1]],0,false⟩)],1⟩) b.size ?_ ?_
 ·refine aw ?_;exact⟨0,aQ _,rfl,rfl⟩
 rintro m z ⟨k,hk,rfl,rfl⟩;rcases bm k b.size with ab|bH
 ·have ae:(k:Int)<(b.size:Int):=by omega
  have hg:=yy (s:=b) (i:=k) ab;have hb:=yH b k;have hv:=QJ b (k:=k) (by omega);have w1:IntKind.i64.wrap (bN b k:Int)=(bN b k:Int):=aV (by omega);have w2:IntKind.i64.wrap (256 * (jR b k:Int))=((256 * jR b k:Nat):Int):=by rw[aV (by omega)];omega
  have w3:IntKind.i64.wrap (((256 * jR b k:Nat):Int)+(bN b k:Int))=((256 * jR b k+bN b k:Nat):Int):=by rw[aV (by omega)];omega
  have w4:IntKind.i64.wrap ((k:Int)+1)=((k+1:Nat):Int):=by rw[aV (by omega)];omega
  refine nz ae hg w1 w2 w3 w4 ?_;exact⟨_,by omega,k+1,ab,rfl,rfl⟩
 have hk:k=b.size:=by omega
 subst hk;have ae:¬((b.size:Int)<(b.size:Int)):=by omega
 refine aC ae ?_;refine cz (dG _ _ _) ?_;cases cc:aT (jR b b.size:Int) low high with
 | true=>simp -implicitDefEqProofs only[go_sem,cc,aZ,aY]
 | false=>simp -implicitDefEqProofs only[go_sem,cc,aZ,aY]
theorem jj (r:bY) (n:Nat) (low high:Int) (hn:n≤3) (hp:r.p≤r.t.size) (ht:r.t.size≤1000000000000):bb Tryz.prog 265 r.row [vP,vI n,vI low,vI high] (vI (cP r n low high).1) (cP r n low high).2.row:=by
 refine aA uk false Tryz.f265 ?_;conv=>enter[1];reduce
 refine bT Tryz.f265 56 [.tmp 8] (by kernel_rfl) (by decide +kernel) rfl ?_;refine aw ?_;refine aD.intro (MX r n (by omega) hp ht) ?_;have dg:=FT r n;unfold cP;generalize eD r n=x at *;obtain⟨b,t1,p1,c1,a1⟩:=x;simp only at *;refine aw ?_;refine cR (fun m z=>∃k,k≤b.size∧m=b.size - k∧z=⟨56,[(0,vP),(2,vI low),(3,vI high),(9,vI r.p),(10,vS b),(11,vI (jR b k)),(12,vI k)],[(1000000,0,one ⟨4,[[vS t1,vI p1,vI c1,vI a1]],0,false⟩)],1⟩) b.size ?_ ?_
 ·refine aw ?_;exact⟨0,aQ _,rfl,rfl⟩
 rintro m z ⟨k,hk,rfl,rfl⟩;rcases bm k b.size with ab|bH
 ·have ae:(k:Int)<(b.size:Int):=by omega
  have hg:=yy (s:=b) (i:=k) ab;have hb:=yH b k;have hv:=QJ b (k:=k) (by omega);have w1:IntKind.i64.wrap (bN b k:Int)=(bN b k:Int):=aV (by omega);have w2:IntKind.i64.wrap (256 * (jR b k:Int))=((256 * jR b k:Nat):Int):=by rw[aV (by omega)];omega
  have w3:IntKind.i64.wrap (((256 * jR b k:Nat):Int)+(bN b k:Int))=((256 * jR b k+bN b k:Nat):Int):=by rw[aV (by omega)];omega
  have w4:IntKind.i64.wrap ((k:Int)+1)=((k+1:Nat):Int):=by rw[aV (by omega)];omega
  refine nz ae hg w1 w2 w3 w4 ?_;exact⟨_,by omega,k+1,ab,rfl,rfl⟩
 have hk:k=b.size:=by omega
 subst hk;have ae:¬((b.size:Int)<(b.size:Int)):=by omega
 refine aC ae ?_;refine ew (fun h=>?_) (fun h=>?_)
 ·have h':c1=0:=by simpa using h
  subst h';refine aw ?_;refine cz (e9 _ _ _) ?_;cases cc:aT (jR b b.size:Int) low high with
  | true=>simp -implicitDefEqProofs only[go_sem,cc,aZ,aY,bne_self_eq_false]
  | false=>
   refine uH cc ?_;refine aD.intro (s8 ⟨t1,p1,0,a1⟩ 3 r.p) ?_;simp -implicitDefEqProofs only[go_sem,ko,aZ,aY]
 have h':¬c1=0:=by simpa using h
 have h2:(c1 != 0)=true:=by simpa using h'
 simp -implicitDefEqProofs only[go_sem,h,h',h2,aZ,aY]
def jC (r:bY):aW × bY:=((qR (eD r 32).1).1,(eD r 32).2)
theorem HC (r:bY) (hp:r.p≤r.t.size) (ht:r.t.size≤1000000000000):bb Tryz.prog 267 r.row [vP] (.agg (jC r).1.cs) (jC r).2.row:=by
 refine aA uk false Tryz.f267 ?_;conv=>enter[1];reduce
 refine bT Tryz.f267 12 [.cell 2 39] (by kernel_rfl) (by decide +kernel) rfl ?_;refine aw ?_;refine aD.intro (MX r 32 (by omega) hp ht) ?_;have dg:=FT r 32;unfold jC;generalize eD r 32=x at *;obtain⟨b,t1,p1,c1,a1⟩:=x;simp only at *;refine aw ?_;refine aq.intro (afR b (by omega)) ?_;exact dt
theorem Vq (r:bY) (hp:r.p≤r.t.size) (ht:r.t.size≤1000000000000):bb Tryz.prog 220 r.row [vP] (.agg (jC r).1.cs) (jC r).2.row:=by
 refine aA uk false Tryz.f220 ?_;conv=>enter[1];reduce
 refine bT Tryz.f220 12 [.cell 2 39] (by kernel_rfl) (by decide +kernel) rfl ?_;refine aw ?_;refine aD.intro (HE r 32 (by omega) hp ht) ?_;have dg:=FT r 32;unfold jC;generalize eD r 32=x at *;obtain⟨b,t1,p1,c1,a1⟩:=x;simp only at *;refine aw ?_;refine aq.intro (af3 b (by omega)) ?_;exact dt
def Mu:bX:=⟨[],[9,10,11],[24,26,30,44,47,50,51,52,57,58,59,62,76,88,138,185,186,187,253,254,297,311],false⟩
def xk (l:List UInt8) (c:Nat):Bool:=l.any fun b=>b.toNat==c
def dA (s:ByteArray) (c:Nat):Bool:=xk s.data.toList c
@[go_sem] theorem aiF:dA ⟨#[115]⟩ 115=true:=rfl
@[go_sem] theorem aiK:dA ⟨#[115]⟩ 102=false:=rfl
@[go_sem] theorem aiI:dA ⟨#[115]⟩ 110=false:=rfl
@[go_sem] theorem aiG:dA ⟨#[115]⟩ 114=false:=rfl
@[go_sem] theorem aiE:dA ⟨#[115]⟩ 99=false:=rfl
@[go_sem] theorem aiH:dA ⟨#[115]⟩ 112=false:=rfl
@[go_sem] theorem aiJ:dA ⟨#[115]⟩ 108=false:=rfl
@[go_sem] theorem aiy:dA ⟨#[115,110,114]⟩ 115=true:=rfl
@[go_sem] theorem aiD:dA ⟨#[115,110,114]⟩ 102=false:=rfl
@[go_sem] theorem aiB:dA ⟨#[115,110,114]⟩ 110=true:=rfl
@[go_sem] theorem aiz:dA ⟨#[115,110,114]⟩ 114=true:=rfl
@[go_sem] theorem aix:dA ⟨#[115,110,114]⟩ 99=false:=rfl
@[go_sem] theorem aiA:dA ⟨#[115,110,114]⟩ 112=false:=rfl
@[go_sem] theorem aiC:dA ⟨#[115,110,114]⟩ 108=false:=rfl
@[go_sem] theorem aiT:dA ⟨#[102,110]⟩ 115=false:=rfl
@[go_sem] theorem aiY:dA ⟨#[102,110]⟩ 102=true:=rfl
@[go_sem] theorem aiW:dA ⟨#[102,110]⟩ 110=true:=rfl
@[go_sem] theorem aiU:dA ⟨#[102,110]⟩ 114=false:=rfl
@[go_sem] theorem aiS:dA ⟨#[102,110]⟩ 99=false:=rfl
@[go_sem] theorem aiV:dA ⟨#[102,110]⟩ 112=false:=rfl
@[go_sem] theorem aiX:dA ⟨#[102,110]⟩ 108=false:=rfl
@[go_sem] theorem aiM:dA ⟨#[102,110,112]⟩ 115=false:=rfl
@[go_sem] theorem aiR:dA ⟨#[102,110,112]⟩ 102=true:=rfl
@[go_sem] theorem aiP:dA ⟨#[102,110,112]⟩ 110=true:=rfl
@[go_sem] theorem aiN:dA ⟨#[102,110,112]⟩ 114=false:=rfl
@[go_sem] theorem aiL:dA ⟨#[102,110,112]⟩ 99=false:=rfl
@[go_sem] theorem aiO:dA ⟨#[102,110,112]⟩ 112=true:=rfl
@[go_sem] theorem aiQ:dA ⟨#[102,110,112]⟩ 108=false:=rfl
@[go_sem] theorem ai7:dA ⟨#[102,99]⟩ 115=false:=rfl
@[go_sem] theorem ajc:dA ⟨#[102,99]⟩ 102=true:=rfl
@[go_sem] theorem aja:dA ⟨#[102,99]⟩ 110=false:=rfl
@[go_sem] theorem ai8:dA ⟨#[102,99]⟩ 114=false:=rfl
@[go_sem] theorem ai6:dA ⟨#[102,99]⟩ 99=true:=rfl
@[go_sem] theorem ai9:dA ⟨#[102,99]⟩ 112=false:=rfl
@[go_sem] theorem ajb:dA ⟨#[102,99]⟩ 108=false:=rfl
@[go_sem] theorem ai0:dA ⟨#[102,108]⟩ 115=false:=rfl
@[go_sem] theorem ai5:dA ⟨#[102,108]⟩ 102=true:=rfl
@[go_sem] theorem ai3:dA ⟨#[102,108]⟩ 110=false:=rfl
@[go_sem] theorem ai1:dA ⟨#[102,108]⟩ 114=false:=rfl
@[go_sem] theorem aiZ:dA ⟨#[102,108]⟩ 99=false:=rfl
@[go_sem] theorem ai2:dA ⟨#[102,108]⟩ 112=false:=rfl
@[go_sem] theorem ai4:dA ⟨#[102,108]⟩ 108=true:=rfl
def gy (k:Int):ByteArray:=
 if k=1 then⟨#[115]⟩ else if k=2∨k=3∨k=6 then⟨#[115,110,114]⟩ else if k=4 then⟨#[102,110]⟩ else if k=5 then⟨#[102,110,112]⟩ else if k=7 then⟨#[102,99]⟩ else if k=8 then⟨#[102,108]⟩ else⟨#[]⟩
theorem MY (k:Int):aR Tryz.prog 264 [vI k] (vS (gy k)) []:=by
 refine aA Mu false Tryz.f264 ?_;conv=>enter[1];reduce
 refine bf Tryz.f264 23 [.tmp 2] (by kernel_rfl) (by decide +kernel) rfl ?_;simp -implicitDefEqProofs only[go_sem]
 repeat' first|(refine ew (fun h=>?_) (fun h=>?_)<;>try simp -implicitDefEqProofs only[go_sem,h])|(refine b8 (fun h=>?_) (fun h=>?_)<;>try simp -implicitDefEqProofs only[go_sem,h])
 all_goals simp_all[gy]
 all_goals(try omega)
 all_goals trace_state
theorem Rz {s:ByteArray}{i c:Nat}(h:i<s.size):xk (s.data.toList.drop i) c=((bN s i==c)||xk (s.data.toList.drop (i+1)) c):=by
 have h':i<s.data.toList.length:=by rw[Array.length_toList];exact h
 rw[List.drop_eq_getElem_cons h'];unfold xk;rw[List.any_cons];congr 2;have:=NA s i 0;rw[Nat.add_zero]at this;rw[this];unfold bL;rw[List.drop_eq_getElem_cons h'];rfl
theorem aN (s:ByteArray) (c:Nat) (hs:s.size≤1000000000000):aR Tryz.prog 266 [vS s,.sc (.int .u8 (c:Int))] (vB (dA s c)) []:=by
 refine aA Mu false Tryz.f266 ?_;conv=>enter[1];reduce
 refine bf Tryz.f266 17 [.tmp 4] (by kernel_rfl) (by decide +kernel) rfl ?_;refine aw ?_;refine cR (fun m z=>∃i,i≤s.size∧m=s.size - i∧xk (s.data.toList.drop i) c=dA s c∧z=⟨17,[(0,vS s),(1,.sc (.int .u8 (c:Int))),(5,vI i)],[],1⟩) s.size ?_ ?_
 ·refine aw ?_;exact⟨0,aQ _,rfl,rfl,rfl⟩
 rintro m z ⟨i,hi,rfl,hx,rfl⟩;rcases bm i s.size with ab|bH
 ·have ae:(i:Int)<(s.size:Int):=by omega
  have hg:=yy (s:=s) (i:=i) ab;have w4:IntKind.i64.wrap ((i:Int)+1)=((i+1:Nat):Int):=by rw[aV (by omega)];omega
  rw[Rz ab]at hx;refine cg ae hg ?_;refine b8 (fun h=>?_) (fun h=>?_)
  ·have h2:bN s i=c:=by have:=of_decide_eq_true h;omega
   refine aC h ?_;rw[←hx,h2];simp
  have h2:¬bN s i=c:=fun e=>by rw[e]at h;simp at h
  refine cg h w4 ?_;refine⟨_,by omega,i+1,ab,rfl,?_,rfl⟩;rw[←hx];simp[h2]
 have hi:i=s.size:=by omega
 subst hi;have ae:¬((s.size:Int)<(s.size:Int)):=by omega
 refine aC ae ?_;rw[←hx];rw[List.drop_of_length_le (by rw[Array.length_toList];exact Nat.le_refl _)];rfl
def fy (k:Int):ByteArray:=
 if k=1 then⟨#[115]⟩ else if k=2∨k=3∨k=6 then⟨#[115,122,114]⟩ else if k=4 then⟨#[102,122]⟩ else if k=5 then⟨#[102,122,112]⟩ else if k=7 then⟨#[102,99]⟩ else if k=8 then⟨#[102,108]⟩ else⟨#[]⟩
theorem Vr (k:Nat):aR Tryz.prog 218 [vI k] (vS (fy k)) []:=by
 refine aA Mu false Tryz.f218 ?_;conv=>enter[1];reduce
 refine bf Tryz.f218 10 [.tmp 2] (by kernel_rfl) (by decide +kernel) rfl ?_;refine aw ?_;refine cz (dG _ _ _) ?_;refine b8 (fun h=>?_) (fun h=>?_)
 ·refine aC h ?_;have:¬(1≤(k:Int)∧(k:Int)≤8):=fun hh=>by simp[aT,hh.1,hh.2]at h
  rw[fy,if_neg (by omega),if_neg (by omega),if_neg (by omega),if_neg (by omega),if_neg (by omega),if_neg (by omega)]
 have hk:1≤k∧k≤8:=by
  have:1≤(k:Int)∧(k:Int)≤8:=by simpa[aT]using h
  omega
 have:k=1∨k=2∨k=3∨k=4∨k=5∨k=6∨k=7∨k=8:=by omega
 rcases this with rfl|rfl|rfl|rfl|rfl|rfl|rfl|rfl<;>simp -implicitDefEqProofs only[go_sem,h,(by decide:((1:Nat):Int)<((9:Nat):Int)),(by decide:((2:Nat):Int)<((9:Nat):Int)),(by decide:((3:Nat):Int)<((9:Nat):Int)),(by decide:((4:Nat):Int)<((9:Nat):Int)),(by decide:((5:Nat):Int)<((9:Nat):Int)),(by decide:((6:Nat):Int)<((9:Nat):Int)),(by decide:((7:Nat):Int)<((9:Nat):Int)),(by decide:((8:Nat):Int)<((9:Nat):Int))]
 all_goals rfl
end Go.Proofs.YtobpfkgabdeefaaGreat.E
