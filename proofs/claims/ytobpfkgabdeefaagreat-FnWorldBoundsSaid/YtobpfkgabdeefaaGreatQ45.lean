/- Contracts: a drawn script, spoilt at times; Contracts: what is drawn for worlds -/
import Derived.Test.YtobpfkgabdeefaaGreatQ44
namespace Go.Proofs.YtobpfkgabdeefaaGreat.E
open Go Go.RowKit
set_option maxHeartbeats 4000000
set_option maxRecDepth 10000
set_option linter.unusedSimpArgs false
set_option linter.unusedVariables false
set_option linter.unusedSectionVars false
def Uc:cc:=⟨[(92,.cm [true,false]),(155,.cm [true])],cw,cz,false⟩
def NL (r:Dr) (res:AV) (σ:ak):Prop:=∃(a:Int) (r':Dr),(res=vI a/\σ=r'.row)/\r'.ok (r.p+2)
theorem agP (r:Dr) (h:r.ok 900000000):∃res σ,NL r res σ/\aY Tryz.prog 155 r.row [vD] res σ:=by
 refine aF Uc false Tryz.f155 ?_;conv=>enter[1];reduce
 refine vm Tryz.f155 23 [.tmp 2] (NL r) (by kernel_rfl) (by decide +kernel) (by kernel_rfl) rfl ?_;have hb:=h.1;have ok:∀i,i<=1000->(r.bf i).ok 1000000000:=fun i hi=>(h.bf i).le (by omega)
 have fin:∀(a:Int),NL r (vI a) (r.bf 2).row:=fun a=>⟨a,r.bf 2,⟨rfl,rfl⟩,hb,Nat.le_refl _⟩
 refine au ?_;refine ep (er 10 (ok 0 (by omega))) ?_;refine bX (fun g=>?_) (fun g=>?_)
 ·refine aA g ?_;refine ep (er 9 (ok 1 (by omega))) ?_;refine gL.intro _ _ (fin (IntKind.i64.wrap (-1 - pk (r.bf 1) 9))) ?_;exact dy
 refine aA g ?_;refine bX (fun g=>?_) (fun g=>?_)
 ·refine aA g ?_;refine ep (er 3 (ok 1 (by omega))) ?_;refine gL.intro _ _ (fin (IntKind.i64.wrap (9223372036854775807 - pk (r.bf 1) 3))) ?_;exact dy
 refine aA g ?_;refine bX (fun g=>?_) (fun g=>?_)
 ·refine aA g ?_;refine ep (er 3 (ok 1 (by omega))) ?_;refine gL.intro _ _ (fin (IntKind.i64.wrap (-9223372036854775808+pk (r.bf 1) 3))) ?_;exact dy
 refine aA g ?_;refine ep (er 12 (ok 1 (by omega))) ?_;refine gL.intro _ _ (fin (pk (r.bf 1) 12)) ?_;exact dy
theorem EL (a b c:Int) {u:Nat}(h:u<3):∃y:Int,([[.sc (.int .i64 a)],[.sc (.int .i64 b)],[.sc (.int .i64 c)]]:List (List AV))[u]?=some [.sc (.int .i64 y)]:=by
 match u,h with
 | 0,_=>exact⟨a,rfl⟩
 | 1,_=>exact⟨b,rfl⟩
 | 2,_=>exact⟨c,rfl⟩
theorem IV (l:List bQ) (i:Nat) (x:bQ) (e:List AV) (h:e=x.bH):(l.map bQ.bH).set i e=(l.set i x).map bQ.bH:=by rw[h,List.map_set]
def tK (s:et) (l:List bQ) (R:Dr):ak:=[(1000000,0,one ⟨2,[R.cs],0,false⟩),(1000001,0,one ⟨4,l.map bQ.bH,2,false⟩),(4,0,one ⟨5,[s.cs],0,false⟩),(6,0,one ⟨5,[[vI 0,vI 0,vI 0,vI 0,vI 0]],0,false⟩)]
attribute [go_sem] tK
def WZ (r:Dr) (n:Nat) (res:AV) (σ:ak):Prop:=∃(s:et) (l:List bQ) (R:Dr),(res=.aZ [.agg s.cs,.aw 0 0 [] 4 0 l.length]/\σ=[(1000000,0,one ⟨2,[R.cs],0,false⟩),(0,0,one ⟨4,l.map bQ.bH,2,false⟩)])/\l.length<=n+6/\R.ok (r.p+60)
theorem ahc (r:Dr) (s0:et) (l0:List bQ) (h:r.ok 800000000) (sS:l0.length<=500):∃res σ,WZ r l0.length res σ/\aY Tryz.prog 103 [(1000000,0,one ⟨2,[r.cs],0,false⟩),(1000001,0,one ⟨4,l0.map bQ.bH,2,false⟩)] [vD,.agg s0.cs,.aw 1000001 0 [] 4 0 l0.length] res σ:=by
 refine aF Uc true Tryz.f103 ?_;conv=>enter[1];reduce
 refine vm Tryz.f103 124 [.cell 6 28,.tmp 7] (WZ r l0.length) (by kernel_rfl) (by decide +kernel) (by kernel_rfl) rfl ?_;have hb:=h.1;have hp:=h.2;refine au ?_;refine aE.intro (er 9 (h.le (by omega))) ?_;generalize pk r 9=k;refine au ?_;obtain⟨R,e3⟩:∃R:Dr,R=r.nx:=⟨_,rfl⟩;have hl:l0.length=l0.length:=rfl;have hR:R.ok (r.p+1):=by rw[e3];exact⟨hb,Nat.le_refl _⟩
 have e4:r.p+1=R.p:=by rw[e3];rfl
 have e5:r.b=R.b:=by rw[e3];rfl
 rw[e4,e5];clear e3 e4 e5;have gK:=hR.1;have lX:=hR.2;have di:∀i,i<=20->(R.bf i).ok 1000000000:=fun i hi=>(hR.bf i).le (by omega)
 refine kM (fun z=>∃(s:et) (l:List bQ) (R:Dr),l.length=l0.length/\R.ok (r.p+5)/\z=⟨124,[(0,vD),(2,.aw 1000001 0 [] 4 0 l.length),(4,.ptr 4 0 [] 5 0 0),(6,.ptr 6 0 [] 5 0 0),(8,vI k)],tK s l R,1⟩) ?_ ?_
 ·refine au ?_;refine bX (fun g=>?_) (fun g=>?_)
  ·refine aA g ?_;refine ep (er 8 (di 0 (by omega))) ?_;refine bO.intro (aB.b9 [1000000,1000001] [0,2,4,6,8] _) ?_;refine au ?_;exact⟨{s0 with many:=IntKind.i64.wrap (pk R 8 - 1)},l0,R.bf 1,hl,⟨gK,by show R.p+1<=_;omega⟩,rfl⟩
  refine aA g ?_;refine bO.intro (aB.b9 [1000000,1000001] [0,2,4,6,8] _) ?_;refine au ?_;exact⟨s0,l0,R,hl,hR.le (by omega),rfl⟩
 clear hl hR gK lX di;clear R;rintro z ⟨s,l,R,hl,hR,rfl⟩;have gK:=hR.1;have lX:=hR.2;have di:∀i,i<=20->(R.bf i).ok 1000000000:=fun i hi=>(hR.bf i).le (by omega)
 refine kM (fun z=>∃(s:et) (l:List bQ) (R:Dr),l.length=l0.length/\R.ok (r.p+9)/\z=⟨124,[(0,vD),(2,.aw 1000001 0 [] 4 0 l.length),(4,.ptr 4 0 [] 5 0 0),(6,.ptr 6 0 [] 5 0 0),(8,vI k)],tK s l R,1⟩) ?_ ?_
 ·refine au ?_;refine bX (fun g=>?_) (fun g=>?_)
  ·refine aA g ?_;refine ep (er 7 (di 0 (by omega))) ?_;refine bO.intro (aB.b9 [1000000,1000001] [0,2,4,6,8] _) ?_;refine au ?_;exact⟨{s with eH:=IntKind.i64.wrap (pk R 7 - 1)},l,R.bf 1,hl,⟨gK,by show R.p+1<=_;omega⟩,rfl⟩
  refine aA g ?_;refine bO.intro (aB.b9 [1000000,1000001] [0,2,4,6,8] _) ?_;refine au ?_;exact⟨s,l,R,hl,hR.le (by omega),rfl⟩
 clear hl hR gK lX di;clear s l R;rintro z ⟨s,l,R,hl,hR,rfl⟩;have gK:=hR.1;have lX:=hR.2;have di:∀i,i<=20->(R.bf i).ok 1000000000:=fun i hi=>(hR.bf i).le (by omega)
 refine kM (fun z=>∃(s:et) (l:List bQ) (R:Dr),l.length=l0.length/\R.ok (r.p+13)/\z=⟨124,[(0,vD),(2,.aw 1000001 0 [] 4 0 l.length),(4,.ptr 4 0 [] 5 0 0),(6,.ptr 6 0 [] 5 0 0),(8,vI k)],tK s l R,1⟩) ?_ ?_
 ·refine au ?_;refine bX (fun g=>?_) (fun g=>?_)
  ·refine aA g ?_;have q:=fO (n:=3) (di 0 (by omega)) (by omega);have p:=er 3 (di 0 (by omega));have e0:R.bf 0=R:=rfl;rw[e0]at q p;obtain⟨u,hu⟩:∃u:Nat,pk R 3=u:=⟨(pk R 3).toNat,by omega⟩;rw[hu]at p q;have u1:u<3:=by omega
   have u2:(u:Int)<((3:Nat):Int):=by omega
   obtain⟨y,hy⟩:=EL 0 3 4 u1;refine ji p u1 u2 hy ?_;refine bO.intro (aB.b9 [1000000,1000001] [0,2,4,6,8] _) ?_;refine au ?_;exact⟨{s with bB:=y},l,R.bf 1,hl,⟨gK,by show R.p+1<=_;omega⟩,rfl⟩
  refine aA g ?_;refine bO.intro (aB.b9 [1000000,1000001] [0,2,4,6,8] _) ?_;refine au ?_;exact⟨s,l,R,hl,hR.le (by omega),rfl⟩
 clear hl hR gK lX di;clear s l R;rintro z ⟨s,l,R,hl,hR,rfl⟩;have gK:=hR.1;have lX:=hR.2;have di:∀i,i<=20->(R.bf i).ok 1000000000:=fun i hi=>(hR.bf i).le (by omega)
 refine kM (fun z=>∃(s:et) (l:List bQ) (R:Dr),l.length=l0.length/\R.ok (r.p+17)/\z=⟨124,[(0,vD),(2,.aw 1000001 0 [] 4 0 l.length),(4,.ptr 4 0 [] 5 0 0),(6,.ptr 6 0 [] 5 0 0),(8,vI k)],tK s l R,1⟩) ?_ ?_
 ·refine au ?_;refine bX (fun g=>?_) (fun g=>?_)
  ·refine aA g ?_;have q:=fO (n:=3) (di 0 (by omega)) (by omega);have p:=er 3 (di 0 (by omega));have e0:R.bf 0=R:=rfl;rw[e0]at q p;obtain⟨u,hu⟩:∃u:Nat,pk R 3=u:=⟨(pk R 3).toNat,by omega⟩;rw[hu]at p q;have u1:u<3:=by omega
   have u2:(u:Int)<((3:Nat):Int):=by omega
   obtain⟨y,hy⟩:=EL 0 64 65 u1;refine ji p u1 u2 hy ?_;refine bO.intro (aB.b9 [1000000,1000001] [0,2,4,6,8] _) ?_;refine au ?_;exact⟨{s with room:=y},l,R.bf 1,hl,⟨gK,by show R.p+1<=_;omega⟩,rfl⟩
  refine aA g ?_;refine bO.intro (aB.b9 [1000000,1000001] [0,2,4,6,8] _) ?_;refine au ?_;exact⟨s,l,R,hl,hR.le (by omega),rfl⟩
 clear hl hR gK lX di;clear s l R;rintro z ⟨s,l,R,hl,hR,rfl⟩;have gK:=hR.1;have lX:=hR.2;have di:∀i,i<=20->(R.bf i).ok 1000000000:=fun i hi=>(hR.bf i).le (by omega)
 refine kM (fun z=>∃(s:et) (l:List bQ) (R:Dr),l.length=l0.length/\R.ok (r.p+21)/\z=⟨124,[(0,vD),(2,.aw 1000001 0 [] 4 0 l.length),(4,.ptr 4 0 [] 5 0 0),(6,.ptr 6 0 [] 5 0 0),(8,vI k)],tK s l R,1⟩) ?_ ?_
 ·refine au ?_;refine bX (fun g=>?_) (fun g=>?_)
  ·refine aA g ?_;have q:=fO (n:=3) (di 0 (by omega)) (by omega);have p:=er 3 (di 0 (by omega));have e0:R.bf 0=R:=rfl;rw[e0]at q p;obtain⟨u,hu⟩:∃u:Nat,pk R 3=u:=⟨(pk R 3).toNat,by omega⟩;rw[hu]at p q;have u1:u<3:=by omega
   have u2:(u:Int)<((3:Nat):Int):=by omega
   obtain⟨y,hy⟩:=EL 0 64 65 u1;refine ji p u1 u2 hy ?_;refine bO.intro (aB.b9 [1000000,1000001] [0,2,4,6,8] _) ?_;refine au ?_;exact⟨{s with inbox:=y},l,R.bf 1,hl,⟨gK,by show R.p+1<=_;omega⟩,rfl⟩
  refine aA g ?_;refine bO.intro (aB.b9 [1000000,1000001] [0,2,4,6,8] _) ?_;refine au ?_;exact⟨s,l,R,hl,hR.le (by omega),rfl⟩
 clear hl hR gK lX di;clear s l R;rintro z ⟨s,l,R,hl,hR,rfl⟩;have gK:=hR.1;have lX:=hR.2;have di:∀i,i<=20->(R.bf i).ok 1000000000:=fun i hi=>(hR.bf i).le (by omega)
 refine kM (fun z=>∃(s:et) (l:List bQ) (R:Dr),l.length=l0.length/\R.ok (r.p+31)/\z=⟨124,[(0,vD),(2,.aw 1000001 0 [] 4 0 l.length),(4,.ptr 4 0 [] 5 0 0),(6,.ptr 6 0 [] 5 0 0),(8,vI k)],tK s l R,1⟩) ?_ ?_
 ·refine au ?_;cases e:(k==5) with
  | false=>
   refine qd e ?_;refine bO.intro (aB.b9 [1000000,1000001] [0,2,4,6,8] _) ?_;refine au ?_;exact⟨s,l,R,hl,hR.le (by omega),rfl⟩
  | true=>
   by_cases h0:(l.length:Int)>0
   ·have q:=fO (n:=(l.length:Int)) (di 0 (by omega)) (by omega);have p:=er (l.length:Int) (di 0 (by omega));have e0:R.bf 0=R:=rfl;rw[e0]at q p;obtain⟨u,hu⟩:∃u:Nat,pk R (l.length:Int)=u:=⟨(pk R (l.length:Int)).toNat,by omega⟩;rw[hu]at p q;have vr:u<l.length:=by omega
    have Ci:(u:Int)<(l.length:Int):=by omega
    have bY:l[u]?=some l[u]:=bm vr;obtain⟨res,σ,⟨a,Q,⟨rfl,rfl⟩,hQ⟩,gU⟩:=agP (R.bf 3) ((hR.bf 3).le (by omega));have hQ2:=hQ.2;have aD:=IV l u ⟨IntKind.i64.wrap (pk (R.bf 1) 16 - 1),pk (R.bf 2) 3,a,⟨#[]⟩⟩ _ rfl;simp only[bQ.bH]at aD;refine gI e h0 ?_;refine ep p ?_;refine ep (er 16 (di 1 (by omega))) ?_;refine ep (er 3 (di 2 (by omega))) ?_;refine aE.intro gU ?_;refine dP vr Ci bY aD ?_;refine bO.intro (aB.b9 [1000000,1000001] [0,2,4,6,8] _) ?_;refine au ?_;exact⟨s,l.set u ⟨IntKind.i64.wrap (pk (R.bf 1) 16 - 1),pk (R.bf 2) 3,a,⟨#[]⟩⟩,Q,by rw[List.length_set];exact hl,⟨hQ.1,by have e:(R.bf 3).p=R.p+3:=rfl;omega⟩,by rw[List.length_set]<;>rfl⟩
   refine gI e h0 ?_;refine bO.intro (aB.b9 [1000000,1000001] [0,2,4,6,8] _) ?_;refine au ?_;exact⟨s,l,R,hl,hR.le (by omega),rfl⟩
 clear hl hR gK lX di;clear s l R;rintro z ⟨s,l,R,hl,hR,rfl⟩;have gK:=hR.1;have lX:=hR.2;have di:∀i,i<=20->(R.bf i).ok 1000000000:=fun i hi=>(hR.bf i).le (by omega)
 refine kM (fun z=>∃(s:et) (l:List bQ) (R:Dr),l.length=l0.length/\R.ok (r.p+41)/\z=⟨124,[(0,vD),(2,.aw 1000001 0 [] 4 0 l.length),(4,.ptr 4 0 [] 5 0 0),(6,.ptr 6 0 [] 5 0 0),(8,vI k)],tK s l R,1⟩) ?_ ?_
 ·refine au ?_;cases e:(k==6) with
  | false=>
   refine qd e ?_;refine bO.intro (aB.b9 [1000000,1000001] [0,2,4,6,8] _) ?_;refine au ?_;exact⟨s,l,R,hl,hR.le (by omega),rfl⟩
  | true=>
   by_cases h0:(l.length:Int)>0
   ·have q:=fO (n:=(l.length:Int)) (di 0 (by omega)) (by omega);have p:=er (l.length:Int) (di 0 (by omega));have e0:R.bf 0=R:=rfl;rw[e0]at q p;obtain⟨u,hu⟩:∃u:Nat,pk R (l.length:Int)=u:=⟨(pk R (l.length:Int)).toNat,by omega⟩;rw[hu]at p q;have vr:u<l.length:=by omega
    have Ci:(u:Int)<(l.length:Int):=by omega
    have bY:l[u]?=some l[u]:=bm vr;have q2:=fO (n:=3) (di 1 (by omega)) (by omega);have p2:=er 3 (di 1 (by omega));obtain⟨v,hv⟩:∃v:Nat,pk (R.bf 1) 3=v:=⟨(pk (R.bf 1) 3).toNat,by omega⟩;rw[hv]at p2 q2;have v1:v<3:=by omega
    have v2:(v:Int)<((3:Nat):Int):=by omega
    obtain⟨y,hy⟩:=EL (-1) 20 21 v1;have aD:∀x:bQ,_:=fun x=>IV l u {x with node:=y} _ rfl
    simp only[bQ.bH]at aD;generalize l[u]=x at *;refine gI e h0 ?_;refine ep p ?_;refine aE.intro p2 ?_;simp -implicitDefEqProofs only[go_sem,v1,v2,hy,vr,Ci,bY,aD];refine bO.intro (aB.b9 [1000000,1000001] [0,2,4,6,8] _) ?_;refine au ?_;exact⟨s,l.set u {x with node:=y},R.bf 2,by rw[List.length_set];exact hl,⟨gK,by show R.p+2<=_;omega⟩,by rw[List.length_set]<;>rfl⟩
   refine gI e h0 ?_;refine bO.intro (aB.b9 [1000000,1000001] [0,2,4,6,8] _) ?_;refine au ?_;exact⟨s,l,R,hl,hR.le (by omega),rfl⟩
 clear hl hR gK lX di;clear s l R;rintro z ⟨s,l,R,hl,hR,rfl⟩;have gK:=hR.1;have lX:=hR.2;have di:∀i,i<=20->(R.bf i).ok 1000000000:=fun i hi=>(hR.bf i).le (by omega)
 refine kM (fun z=>∃(s:et) (l:List bQ) (R:Dr),l.length=l0.length/\R.ok (r.p+51)/\z=⟨124,[(0,vD),(2,.aw 1000001 0 [] 4 0 l.length),(4,.ptr 4 0 [] 5 0 0),(6,.ptr 6 0 [] 5 0 0),(8,vI k)],tK s l R,1⟩) ?_ ?_
 ·refine au ?_;cases e:(k==7) with
  | false=>
   refine qd e ?_;refine bO.intro (aB.b9 [1000000,1000001] [0,2,4,6,8] _) ?_;refine au ?_;exact⟨s,l,R,hl,hR.le (by omega),rfl⟩
  | true=>
   by_cases h0:(l.length:Int)>0
   ·have q:=fO (n:=(l.length:Int)) (di 0 (by omega)) (by omega);have p:=er (l.length:Int) (di 0 (by omega));have e0:R.bf 0=R:=rfl;rw[e0]at q p;obtain⟨u,hu⟩:∃u:Nat,pk R (l.length:Int)=u:=⟨(pk R (l.length:Int)).toNat,by omega⟩;rw[hu]at p q;have vr:u<l.length:=by omega
    have Ci:(u:Int)<(l.length:Int):=by omega
    have bY:l[u]?=some l[u]:=bm vr;have q2:=fO (n:=2) (di 1 (by omega)) (by omega);have p2:=er 2 (di 1 (by omega));obtain⟨v,hv⟩:∃v:Nat,pk (R.bf 1) 2=v:=⟨(pk (R.bf 1) 2).toNat,by omega⟩;rw[hv]at p2 q2;have w1:IntKind.i64.wrap (600+(v:Int))=((600+v:Nat):Int):=by rw[aN (by omega)];omega
    have hm:=agO [117] (600+v) (by omega) (by simp);generalize bA (rep [117] (600+v))=t at *;have hb7:(⟨#[117]⟩:ByteArray)=bA [117]:=rfl;have aD:∀x:bQ,_:=fun x=>IV l u {x with text:=t} _ rfl
    simp only[bQ.bH]at aD;generalize l[u]=x at *;refine gI e h0 ?_;refine ep p ?_;refine eK p2 w1 hb7 ?_;refine aq.intro hm ?_;refine dP vr Ci bY aD ?_;refine bO.intro (aB.b9 [1000000,1000001] [0,2,4,6,8] _) ?_;refine au ?_;exact⟨s,l.set u {x with text:=t},R.bf 2,by rw[List.length_set];exact hl,⟨gK,by show R.p+2<=_;omega⟩,by rw[List.length_set]<;>rfl⟩
   refine gI e h0 ?_;refine bO.intro (aB.b9 [1000000,1000001] [0,2,4,6,8] _) ?_;refine au ?_;exact⟨s,l,R,hl,hR.le (by omega),rfl⟩
 clear hl hR gK lX di;clear s l R;rintro z ⟨s,l,R,hl,hR,rfl⟩;have gK:=hR.1;have lX:=hR.2;have di:∀i,i<=20->(R.bf i).ok 1000000000:=fun i hi=>(hR.bf i).le (by omega)
 refine kM (fun z=>∃(l:List bQ),l.length<=l0.length+6/\z=⟨124,[(2,.aw 2 0 [] 4 0 l.length),(4,.ptr 4 0 [] 5 0 0),(6,.ptr 6 0 [] 5 0 0)],[(1000000,0,one ⟨2,[R.cs],0,false⟩),(2,0,one ⟨4,l.map bQ.bH,2,false⟩),(4,0,one ⟨5,[s.cs],0,false⟩),(6,0,one ⟨5,[[vI 0,vI 0,vI 0,vI 0,vI 0]],0,false⟩)],1⟩) ?_ ?_
 ·refine au ?_;refine bX (fun g=>?_) (fun g=>?_)
  ·have ha:=EO l (by omega);refine b8 g ha ?_;refine im (fun m z=>∃(i:Nat) (l:List bQ),(i<=5/\l.length=l0.length+1+i)/\m=5 - i/\z=⟨124,[(2,.aw 2 0 [] 4 0 l.length),(4,.ptr 4 0 [] 5 0 0),(6,.ptr 6 0 [] 5 0 0),(9,vI i)],[(1000000,0,one ⟨2,[R.cs],0,false⟩),(2,0,one ⟨4,l.map bQ.bH,2,false⟩),(4,0,one ⟨5,[s.cs],0,false⟩),(6,0,one ⟨5,[[vI 0,vI 0,vI 0,vI 0,vI 0]],0,false⟩)],1⟩) 5 (bO.intro (aB.b9 [1000000] [2,4,6,9] _) ?_) ?_
   ·refine au ?_;refine⟨0,l++[⟨13,0,0,⟨#[]⟩⟩],⟨by omega,by rw[List.length_append,hl];rfl⟩,rfl,?_⟩;simp only[gj,bQ.bH];try rfl
   clear ha hl;clear l;rintro m z ⟨i,l,⟨hi,hl⟩,rfl,rfl⟩;have ha:=EO l (by omega);rcases bp i 5 with ab|bM
   ·have ah:(i:Int)<5:=by omega
    have w1:IntKind.i64.wrap (1+(i:Int))=1+(i:Int):=aN (by omega);have w2:IntKind.i64.wrap ((i:Int)+1)=((i+1:Nat):Int):=by rw[aN (by omega)];omega
    refine dP ah w1 w2 ha ?_;refine fh.intro (5 - (i+1)) (by omega) (aB.b9 [1000000] [2,4,6,9] _) ?_;refine au ?_;refine⟨i+1,l++[⟨9,1+(i:Int),0,⟨#[]⟩⟩],⟨ab,by rw[List.length_append,hl];rfl⟩,rfl,?_⟩;simp only[gj,bQ.bH];try rfl
   have ah:¬((i:Int)<5):=by omega
   refine aA ah ?_;refine bO.intro (aB.b9 [1000000] [2,4,6] _) ?_;refine au ?_;exact⟨l,by omega,rfl⟩
  refine aA g ?_;refine bO.intro (aB.b9 [1000000] [2,4,6] _) ?_;refine au ?_;exact⟨l,by omega,rfl⟩
 clear hl;clear l;rintro z ⟨l,hl,rfl⟩;refine au ?_;refine gL.intro (.aZ [.agg s.cs,.aw 0 0 [] 4 0 l.length]) [(1000000,0,one ⟨2,[R.cs],0,false⟩),(0,0,one ⟨4,l.map bQ.bH,2,false⟩)] ⟨s,l,R,⟨rfl,rfl⟩,hl,hR.le (by omega)⟩ ?_;refine au ?_
 first|exact True.intro|rfl|exact⟨rfl,rfl⟩
def Ub:cc:=⟨[(71,.cm [false]),(92,.cm [true,false]),(93,.cm [false]),(101,.cm [false]),(102,.cm [false]),(103,.cm [true,false,true])],cw,cz,false⟩
def Ie (n:Nat) (res:AV) (σ:ak):Prop:=∃(s:et) (l:List bQ),(res=.aZ [.agg s.cs,.aw 0 0 [] 4 0 l.length]/\σ=[(0,0,one ⟨4,l.map bQ.bH,2,false⟩)])/\l.length<=n
theorem afP (l:List UInt8) (hl:l.length<=maxLen):∃res σ,Ie 86 res σ/\aY Tryz.prog 71 [] [.ro 1 (l.map cE)] res σ:=by
 refine aF Ub false Tryz.f71 ?_;conv=>enter[1];reduce
 refine vm Tryz.f71 25 [.cell 2 28,.tmp 3] (Ie 86) (by kernel_rfl) (by decide +kernel) (by kernel_rfl) rfl ?_;obtain⟨res,σ,⟨s,L,⟨rfl,rfl⟩,hs,hL,-⟩,Gq⟩:=ahd l hl;have h0:(Dr.mk (l.take 2000) 0).ok 0:=⟨List.length_take_le _ _,Nat.le_refl _⟩;have dE:=VV l hl;generalize Dr.mk (l.take 2000) 0=r at *;refine au ?_;refine ep Gq ?_;refine ep dE ?_;refine ep (er 7 (h0.le (by omega))) ?_;refine bX (fun g=>?_) (fun g=>?_)
 ·obtain⟨res,σ,⟨s2,L2,R2,⟨rfl,rfl⟩,hL2,-⟩,KF⟩:=ahc r.nx s L (h0.nx.le (by omega)) (by omega);refine aA g ?_;refine ep KF ?_;refine gL.intro (.aZ [.agg s2.cs,.aw 0 0 [] 4 0 L2.length]) [(0,0,one ⟨4,L2.map bQ.bH,2,false⟩)] ⟨s2,L2,⟨rfl,rfl⟩,by omega⟩ ?_;refine au ?_
  first|exact True.intro|rfl|exact⟨rfl,rfl⟩
 refine aA g ?_;refine gL.intro (.aZ [.agg s.cs,.aw 0 0 [] 4 0 L.length]) [(0,0,one ⟨4,L.map bQ.bH,2,false⟩)] ⟨s,L,⟨rfl,rfl⟩,by omega⟩ ?_;refine au ?_
 first|exact True.intro|rfl|exact⟨rfl,rfl⟩
theorem afT (l:List UInt8) (hl:l.length<=maxLen):∃res σ,Ie 700 res σ/\aY Tryz.prog 32 [] [.ro 1 (l.map cE)] res σ:=by
 refine aF Ub true Tryz.f32 ?_;conv=>enter[1];reduce
 refine vm Tryz.f32 41 [.cell 2 28,.tmp 3] (Ie 700) (by kernel_rfl) (by decide +kernel) (by kernel_rfl) rfl ?_;obtain⟨res,σ,⟨s,L,⟨rfl,rfl⟩,hL⟩,Gq⟩:=afP l hl;refine au ?_;refine ep Gq ?_;refine kM (fun z=>∃(L:List bQ),L.length<=700/\z=⟨41,[(2,.ptr 2 0 [] 5 0 0),(4,.ptr 4 0 [] 5 0 0),(5,.aw 5 0 [] 4 0 L.length)],[(2,0,one ⟨5,[[vI 0,vI 0,vI 0,vI 0,vI 0]],0,false⟩),(4,0,one ⟨5,[s.cs],0,false⟩),(5,0,one ⟨4,L.map bQ.bH,2,false⟩)],1⟩) ?_ ?_
 ·refine au ?_;by_cases h3:(l.length:Int)>3
  ·obtain⟨a,b,t,rfl⟩:∃a b t,l=a::b::t:=by
    match l,h3 with
    | a::b::t,_=>exact⟨a,b,t,rfl⟩
   have i0:(0:Int)<((t.length+1+1:Nat):Int):=by omega
   have i1:(1:Int)<((t.length+1+1:Nat):Int):=by omega
   have nJ:((t.length+1+1:Nat):Int)>3:=h3;simp -implicitDefEqProofs only[go_sem,nJ,i0,i1,List.map_cons,List.length_cons,cE,bb];refine fv (fun g=>?_) (fun g=>?_)
   ·simp -implicitDefEqProofs only[go_sem,g,i0,i1,List.map_cons,List.length_cons,cE,bb];refine bX (fun g2=>?_) (fun g2=>?_)
    ·refine aA g2 ?_;refine im (fun m z=>∃(L:List bQ),L.length<=700/\m=700 - L.length/\z=⟨41,[(0,.ro 1 ((a::b::t).map cE)),(2,.ptr 2 0 [] 5 0 0),(4,.ptr 4 0 [] 5 0 0),(5,.aw 5 0 [] 4 0 L.length)],[(2,0,one ⟨5,[[vI 0,vI 0,vI 0,vI 0,vI 0]],0,false⟩),(4,0,one ⟨5,[s.cs],0,false⟩),(5,0,one ⟨4,L.map bQ.bH,2,false⟩)],1⟩) (700 - L.length) (bO.intro (aB.b9 [] [0,2,4,5] _) ?_) ?_
     ·refine au ?_;exact⟨L,by omega,rfl,rfl⟩
     clear Gq hL;clear L;rintro m z ⟨L,hL,rfl,rfl⟩;have ha:=EO L (by omega);have dH:b.toNat%2<2:=Nat.mod_lt _ (by decide);have hv:IntKind.i64.wrap ((b.toNat:Int).tmod 2)=((b.toNat%2:Nat):Int):=by
      rw[Int.tmod_eq_emod_of_nonneg (by omega),aN (by omega)];omega
     have hw:IntKind.i64.wrap (600+((b.toNat%2:Nat):Int))=((600+b.toNat%2:Nat):Int):=by
      rw[aN (by omega)];omega
     by_cases ab:(L.length:Int)<((600+b.toNat%2:Nat):Int)
     ·simp -implicitDefEqProofs only[go_sem,i0,i1,List.map_cons,List.length_cons,cE,hv,hw,ab,ha,aT];refine fh.intro (700 - (L.length+1)) (by omega) (aB.b9 [] [0,2,4,5] _) ?_;refine au ?_;refine⟨L++[⟨4,0,0,⟨#[]⟩⟩],by rw[List.length_append];show L.length+1<=700;omega,by rw[List.length_append];rfl,?_⟩;simp only[gj,bQ.bH,cE];try rfl
     simp -implicitDefEqProofs only[go_sem,i0,i1,List.map_cons,List.length_cons,cE,hv,hw,ab,aV];refine bO.intro (aB.b9 [] [2,4,5] _) ?_;refine au ?_;exact⟨L,by omega,rfl⟩
    refine aA g2 ?_;refine bO.intro (aB.b9 [] [2,4,5] _) ?_;refine au ?_;exact⟨L,by omega,rfl⟩
   refine qd g ?_;refine bO.intro (aB.b9 [] [2,4,5] _) ?_;refine au ?_;exact⟨L,by omega,rfl⟩
  refine qd h3 ?_;refine bO.intro (aB.b9 [] [2,4,5] _) ?_;refine au ?_;exact⟨L,by omega,rfl⟩
 rintro z ⟨L,hL,rfl⟩;refine au ?_;refine gL.intro (.aZ [.agg s.cs,.aw 0 0 [] 4 0 L.length]) [(0,0,one ⟨4,L.map bQ.bH,2,false⟩)] ⟨s,L,⟨rfl,rfl⟩,hL⟩ ?_;refine au ?_
 first|exact True.intro|rfl|exact⟨rfl,rfl⟩
end Go.Proofs.YtobpfkgabdeefaaGreat.E
