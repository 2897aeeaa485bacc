/- Plain law: what is read was written; Contracts: letters copied; the root that is read; Contracts: what comes of a letter to a client, in the reference; A client never goes back: the plain law; Contracts: bags that are ok -/
import Derived.Test.YtobpfkgabdeefaaGreatP17
import Derived.Test.YtobpfkgabdeefaaGreatP11
import Derived.Test.YtobpfkgabdeefaaGreatP14
namespace Go.Proofs.YtobpfkgabdeefaaGreat.E
open Go Go.RowKit
set_option linter.unusedVariables false
set_option linter.unusedSimpArgs false
def gu {α:Type} (f:bY→α × bY) (V:α→List UInt8→Prop):Prop:=
 (∀T p,p≤T.length→(f (rd T p)).2.code=0→∃w,p+w.length≤T.length∧T.drop p=w++T.drop (p+w.length)∧(f (rd T p)).2=rd T (p+w.length)∧V (f (rd T p)).1 w)∧∀r:bY,r.code≠0→(f r).2.code≠0
theorem TV (T:List UInt8) {p n:Nat}(h:p+n≤T.length):((T.drop p).take n).length=n∧T.drop p=(T.drop p).take n++T.drop (p+n):=by
 refine⟨by simp;omega,?_⟩;rw[←List.drop_drop,List.take_append_drop]
theorem PS (n:Nat):gu (fun r=>eD r n) (fun s w=>s=bA w∧w.length=n):=by
 refine⟨fun T p hp hc=>?_,fun r h=>by simp only[zm h];exact h⟩;simp only[E7]at hc ⊢;split at hc
 ·exact absurd hc (show ¬(2:Int)=0 by decide)
 rename_i hn;rw[if_neg hn];obtain⟨h1,h2⟩:=TV T (show p+n≤T.length by omega);exact⟨(T.drop p).take n,by rw[h1];omega,by rw[h1];exact h2,by rw[h1],rfl,h1⟩
theorem wL (n:Nat) (lo hi:Int):gu (fun r=>cP r n lo hi) (fun v w=>(lo≤v∧v≤hi∧0≤v)∧w=low v.toNat n):=by
 refine⟨fun T p hp hc=>?_,fun r h=>by simp only[JL h];exact h⟩;rcases bm T.length (p+n) with ab|bH
 ·simp only[QG (show p+n>T.length from ab)]at hc;exact absurd hc (show ¬(2:Int)=0 by decide)
 obtain⟨h1,h2⟩:=TV T bH;simp only[QH bH]at hc ⊢;split at hc
 ·rename_i cc;rw[if_pos cc];have GD:lo≤(nv ((T.drop p).take n):Int)∧(nv ((T.drop p).take n):Int)≤hi:=by simpa[aT]using cc
  refine⟨(T.drop p).take n,by rw[h1];omega,by rw[h1];exact h2,by rw[h1],⟨GD.1,GD.2,by simp only;omega⟩,?_⟩;simp only[Int.toNat_natCast];exact(zJ n _ h1).symm
 exact absurd hc (show ¬(3:Int)=0 by decide)
theorem gu.bind {α β:Type}{f:bY→α × bY}{g:α→bY→β × bY}{V:α→List UInt8→Prop}{W:α→β→List UInt8→Prop}(hf:gu f V) (hg:∀a,gu (g a) (W a)):gu (fun r=>g (f r).1 (f r).2) (fun b w=>∃a w1 w2,w=w1++w2∧V a w1∧W a b w2):=by
 refine⟨fun T p hp hc=>?_,fun r h=>(hg _).2 _ (hf.2 r h)⟩;by_cases h0:(f (rd T p)).2.code=0
 ·obtain⟨w1,a1,a2,a3,a4⟩:=hf.1 T p hp h0;simp only[a3]at hc ⊢;obtain⟨w2,b1,b2,b3,b4⟩:=(hg _).1 T _ a1 hc;refine⟨w1++w2,by rw[List.length_append];omega,?_,?_,_,w1,w2,rfl,a4,b4⟩
  ·rw[a2,b2,List.length_append,List.append_assoc,Nat.add_assoc]
  rw[b3,List.length_append,Nat.add_assoc]
 exact absurd hc ((hg _).2 _ h0)
theorem gu.mono {α:Type}{f:bY→α × bY}{V W:α→List UInt8→Prop}(h:gu f V) (k:∀a w,V a w→W a w):gu f W:=
 ⟨fun T p hp hc=>by obtain⟨w,a1,a2,a3,a4⟩:=h.1 T p hp hc;exact⟨w,a1,a2,a3,k _ _ a4⟩,h.2⟩
theorem aho (l:List UInt8) (h:l.length=32):(qA l).bl=l∧(qA l).ok:=by
 have t:∀i,i+8≤32→j8 (l.drop i) 8=nv ((l.drop i).take 8)∧((l.drop i).take 8).length=8:=fun i hi=>⟨yS 8 _ (by simp;omega),by simp;omega⟩
 obtain⟨a1,a2⟩:=t 0 (by omega);obtain⟨b1,b2⟩:=t 8 (by omega);obtain⟨c1,c2⟩:=t 16 (by omega);obtain⟨d1,d2⟩:=t 24 (by omega);rw[List.drop_zero]at a1 a2;have lt:∀x:List UInt8,x.length=8→nv x<18446744073709551616:=fun x hx=>by
  have:=aaD x;rw[hx]at this;exact Nat.lt_of_lt_of_le this (by decide)
 constructor
 ·unfold qA aW.bl aW.bk;simp only[a1,b1,c1,d1,zJ 8 _ a2,zJ 8 _ b2,zJ 8 _ c2,zJ 8 _ d2];have e0:l=l.take 8++l.drop 8:=(List.take_append_drop 8 l).symm;have e1:l.drop 8=(l.drop 8).take 8++l.drop 16:=by rw[show 16=8+8 from rfl,←List.drop_drop,List.take_append_drop]
  have e2:l.drop 16=(l.drop 16).take 8++l.drop 24:=by rw[show 24=16+8 from rfl,←List.drop_drop,List.take_append_drop]
  have e3:(l.drop 24).take 8=l.drop 24:=List.take_of_length_le (by simp;omega);rw[e3,List.append_assoc,List.append_assoc,←e2,←e1,←e0]
 unfold qA;exact⟨by simp only[a1];exact lt _ a2,by simp only[b1];exact lt _ b2,by simp only[c1];exact lt _ c2,by simp only[d1];exact lt _ d2⟩
theorem Jq:gu jC (fun d w=>w=d.bl∧d.ok):=by
 have h:=PS 32;refine⟨fun T p hp hc=>?_,fun r hr=>h.2 r hr⟩;obtain⟨w,a1,a2,a3,a4,a5⟩:=h.1 T p hp hc;refine⟨w,a1,a2,a3,?_⟩;simp only at a4;have e:(jC (rd T p)).1=qA w:=by
  unfold jC;rw[a4];unfold qR;rw[iU,a5,if_pos rfl,rH]
 rw[e];obtain⟨h1,h2⟩:=aho w a5;exact⟨h1.symm,h2⟩
theorem PU:gu qb (fun s w=>w=pj s∧s.size≤40):=by
 have:=gu.bind (g:=fun(v:Int) r=>eD r v.toNat) (wL 1 0 40) (fun a=>PS a.toNat);refine this.mono ?_;rintro s w ⟨a,w1,w2,rfl,⟨⟨h1,h2,h3⟩,rfl⟩,rfl,h4⟩;unfold pj;rw[iU,rH,h4];exact⟨rfl,by omega⟩
theorem PV:∀n:Nat,gu (f9 n) (fun l w=>l.length=n∧w=jI l∧∀d∈l,d.ok)
 | 0=>⟨fun T p hp hc=>⟨[],by simpa using hp,rfl,rfl,rfl,rfl,by simp[f9]⟩,fun r h=>h⟩
 | n+1=>by
  have:=gu.bind (g:=fun(v:List aW) r=>(v++[(jC r).1],(jC r).2)) (W:=fun a b w=>∃d,b=a++[d]∧w=d.bl∧d.ok) (PV n)
   (fun a=>⟨fun T p hp hc=>by obtain⟨w,a1,a2,a3,a4⟩:=Jq.1 T p hp hc;exact⟨w,a1,a2,a3,_,rfl,a4⟩,Jq.2⟩)
  refine gu.mono this ?_;rintro l w ⟨a,w1,w2,rfl,⟨h1,rfl,h2⟩,d,rfl,rfl,h3⟩;refine⟨by simp[h1],by simp[jI],fun x hx=>?_⟩;rcases List.mem_append.1 hx with hx|hx
  ·exact h2 x hx
  rw[List.mem_singleton.1 hx];exact h3
theorem PT:∀n:Nat,gu (eV n) (fun l w=>l.length=n∧w=jc l∧dX l=true)
 | 0=>⟨fun T p hp hc=>⟨[],by simpa using hp,rfl,rfl,rfl,rfl,rfl⟩,fun r h=>h⟩
 | n+1=>by
  have:=gu.bind (g:=fun(v:List ByteArray) r=>(v++[(qb r).1],(qb r).2)) (W:=fun a b w=>∃d,b=a++[d]∧w=pj d∧d.size≤40) (PT n)
   (fun a=>⟨fun T p hp hc=>by obtain⟨w,a1,a2,a3,a4⟩:=PU.1 T p hp hc;exact⟨w,a1,a2,a3,_,rfl,a4⟩,PU.2⟩)
  refine gu.mono this ?_;rintro l w ⟨a,w1,w2,rfl,⟨h1,rfl,h2⟩,d,rfl,rfl,h3⟩;refine⟨by simp[h1],by simp[jc],?_⟩;simp only[dX,List.all_append,List.all_cons,List.all_nil,Bool.and_true,Bool.and_eq_true,decide_eq_true_eq]at h2 ⊢;exact⟨h2,h3⟩
def kX (p:bY × aM→bY × aM) (V:aM→aM→List UInt8→Prop):Prop:=∀m0,gu (fun r=>sw (p (r,m0))) (V m0)
theorem kX.seq {p q:bY × aM→bY × aM}{V W:aM→aM→List UInt8→Prop}(h:kX p V) (k:kX q W):kX (fun x=>q (p x)) (fun m0 m w=>∃m1 w1 w2,w=w1++w2∧V m0 m1 w1∧W m1 m w2):=
 fun m0=>gu.bind (g:=fun m r=>sw (q (r,m))) (h m0) (fun a=>k a)
theorem kX.of {α:Type}{f:bY→α × bY}{V:α→List UInt8→Prop}(h:gu f V) (u:α→aM→aM):kX (fun x=>((f x.1).2,u (f x.1).1 x.2)) (fun m0 m w=>∃a,m=u a m0∧V a w):=
 fun m0=>⟨fun T p hp hc=>by obtain⟨w,a1,a2,a3,a4⟩:=h.1 T p hp hc;exact⟨w,a1,a2,a3,_,rfl,a4⟩,h.2⟩
theorem EO:kX pS (fun m0 m w=>∃v:Int,m={m0 with bR:=v}∧(1≤v∧v≤1000000∧0≤v)∧w=low v.toNat 3):=kX.of (wL 3 1 1000000) (fun v m=>{m with bR:=v})
theorem EP:kX pF (fun m0 m w=>∃v:Int,m={m0 with from_:=v}∧(0≤v∧v≤256∧0≤v)∧w=low v.toNat 2):=kX.of (wL 2 0 256) (fun v m=>{m with from_:=v})
theorem Bw:kX pZ (fun m0 m w=>∃v:Int,m={m0 with size:=v}∧(0≤v∧v≤256∧0≤v)∧w=low v.toNat 2):=kX.of (wL 2 0 256) (fun v m=>{m with size:=v})
theorem Y6:kX pC (fun m0 m w=>∃v:Int,m={m0 with count:=v}∧(1≤v∧v≤8∧0≤v)∧w=low v.toNat 1):=kX.of (wL 1 1 8) (fun v m=>{m with count:=v})
theorem Jf:kX pR (fun m0 m w=>∃d:aW,m={m0 with root:=d}∧w=d.bl∧d.ok):=kX.of Jq (fun v m=>{m with root:=v})
theorem Y4:kX pP (fun m0 m w=>∃l:List aW,m={m0 with proof:=l}∧l.length≤16∧w=low l.length 1++jI l∧∀d∈l,d.ok):=by
 have:=kX.of (gu.bind (g:=fun(v:Int) r=>f9 v.toNat r) (wL 1 0 16) (fun a=>PV a.toNat)) (fun v m=>{m with proof:=v});intro m0;refine(this m0).mono ?_;rintro m w ⟨l,rfl,a,w1,w2,rfl,⟨⟨h1,h2,h3⟩,rfl⟩,h4,rfl,h5⟩;exact⟨l,rfl,by omega,by rw[h4],h5⟩
theorem Y5:kX pL (fun m0 m w=>∃l:List ByteArray,m={m0 with az:=l}∧l.length≤8∧w=low l.length 1++jc l∧dX l=true):=by
 have:=kX.of (gu.bind (g:=fun(v:Int) r=>eV v.toNat r) (wL 1 0 8) (fun a=>PT a.toNat)) (fun v m=>{m with az:=v});intro m0;refine(this m0).mono ?_;rintro m w ⟨l,rfl,a,w1,w2,rfl,⟨⟨h1,h2,h3⟩,rfl⟩,h4,rfl,h5⟩;exact⟨l,rfl,by omega,by rw[h4],h5⟩
theorem aa2 {k:Nat}(hk:1≤k∧k≤8):gu (fun r=>sw (mz k (r,{aM.zero with kind:=k}))) (fun m w=>m.kind=k∧eQ m=true∧(m.root.ok∧∀d∈m.proof,d.ok)∧gv m=low k 1++w):=by
 have z0:aM.zero.root.ok:=sO;have IZ:∀K:Nat,(K=2∨K=3∨K=6)→∀(m:aM) (w:List UInt8),(∃(m1:aM) (w1 w2:List UInt8),w=w1++w2∧(∃v:Int,m1={{aM.zero with kind:=(K:Int)} with bR:=v}∧(1≤v∧v≤1000000∧0≤v)∧w1=low v.toNat 3)∧∃(m2:aM) (w3 w4:List UInt8),w2=w3++w4∧(∃v:Int,m2={m1 with size:=v}∧(0≤v∧v≤256∧0≤v)∧w3=low v.toNat 2)∧∃d:aW,m={m2 with root:=d}∧w4=d.bl∧d.ok)→m.kind=(K:Int)∧eQ m=true∧(m.root.ok∧∀d∈m.proof,d.ok)∧gv m=low K 1++w:=by
  rintro K hK m w ⟨m1,w1,w2,rfl,⟨v,rfl,hv,rfl⟩,m2,w3,w4,rfl,⟨v2,rfl,dQ,rfl⟩,d,rfl,rfl,hd⟩;refine⟨rfl,?_,⟨hd,by simp[aM.zero]⟩,?_⟩
  ·rcases hK with rfl|rfl|rfl
   ·exact aaw ⟨hv.1,hv.2.1⟩ ⟨dQ.1,dQ.2.1⟩
   ·exact aav ⟨hv.1,hv.2.1⟩ ⟨dQ.1,dQ.2.1⟩
   exact QA ⟨hv.1,hv.2.1⟩ ⟨dQ.1,dQ.2.1⟩
  rcases hK with rfl|rfl|rfl<;>simp[gv,bK,bS,bZ,aM.zero]
 have bW:k=1∨k=2∨k=3∨k=4∨k=5∨k=6∨k=7∨k=8:=by omega
 rcases bW with rfl|rfl|rfl|rfl|rfl|rfl|rfl|rfl
 ·refine gu.mono (EO _) ?_;rintro m w ⟨v,rfl,hv,rfl⟩;exact⟨rfl,aax ⟨hv.1,hv.2.1⟩,⟨z0,by simp[aM.zero]⟩,by simp[gv,bK,bS,aM.zero]⟩
 ·exact gu.mono ((EO.seq (Bw.seq Jf)) _) (IZ 2 (by omega))
 ·exact gu.mono ((EO.seq (Bw.seq Jf)) _) (IZ 3 (by omega))
 ·refine gu.mono ((EP.seq Bw) _) ?_;rintro m w ⟨m1,w1,w2,rfl,⟨v,rfl,hv,rfl⟩,v2,rfl,dQ,rfl⟩;exact⟨rfl,QB ⟨hv.1,hv.2.1⟩ ⟨dQ.1,dQ.2.1⟩,⟨z0,by simp[aM.zero]⟩,by simp[gv,bK,bF,bZ,aM.zero]⟩
 ·refine gu.mono ((EP.seq (Bw.seq Y4)) _) ?_;rintro m w ⟨m1,w1,w2,rfl,⟨v,rfl,hv,rfl⟩,m2,w3,w4,rfl,⟨v2,rfl,dQ,rfl⟩,l,rfl,hl,rfl,hd⟩;exact⟨rfl,aay ⟨hv.1,hv.2.1⟩ ⟨dQ.1,dQ.2.1⟩ hl,⟨z0,hd⟩,by simp[gv,bK,bF,bZ,bP,aM.zero]⟩
 ·exact gu.mono ((EO.seq (Bw.seq Jf)) _) (IZ 6 (by omega))
 ·refine gu.mono ((EP.seq Y6) _) ?_;rintro m w ⟨m1,w1,w2,rfl,⟨v,rfl,hv,rfl⟩,v2,rfl,dQ,rfl⟩;exact⟨rfl,aaA ⟨hv.1,hv.2.1⟩ ⟨dQ.1,dQ.2.1⟩,⟨z0,by simp[aM.zero]⟩,by simp[gv,bK,bF,bC,aM.zero]⟩
 refine gu.mono ((EP.seq Y5) _) ?_;rintro m w ⟨m1,w1,w2,rfl,⟨v,rfl,hv,rfl⟩,l,rfl,hl,rfl,hd⟩;exact⟨rfl,aaz ⟨hv.1,hv.2.1⟩ hl hd,⟨z0,by simp[aM.zero]⟩,by simp[gv,bK,bF,yI,aM.zero]⟩
theorem wq (s:ByteArray) (h:(bV s).2.1=0):eQ (bV s).1=true∧(bV s).1.root.ok∧(∀d∈(bV s).1.proof,d.ok)∧bA (gv (bV s).1)=s:=by
 obtain⟨T,rfl⟩:∃T,s=bA T:=⟨_,HV s⟩;unfold bV at h ⊢;split at h
 ·exact absurd h (show ¬(2:Int)=0 by decide)
 rename_i h0;rw[if_neg h0];split at h
 ·rename_i hk;rw[if_pos hk];have hT:1≤T.length:=by rw[iU]at h0;omega
  have hx:=aa2 hk;have hr:(⟨bA T,1,0,0⟩:bY)=rd T 1:=rfl;rw[hr]at h ⊢;generalize hX:mz (bN (bA T) 0) (rd T 1,{aM.zero with kind:=(bN (bA T) 0:Int)})=X at *;have fJ:=hx.1 T 1 hT;simp only[sw,hX]at fJ;unfold eb at h ⊢;split at h
  ·rename_i hc;rw[if_pos hc];split at h
   ·exact absurd h (show ¬(4:Int)=0 by decide)
   rename_i hp;rw[if_neg hp];obtain⟨w,a1,a2,a3,a4,a5,a6,a7⟩:=fJ hc;refine⟨a5,a6.1,a6.2,?_⟩;rw[a3,iU]at hp;have je:¬1+w.length<T.length:=hp;have acO:T.drop (1+w.length)=[]:=List.drop_of_length_le (by omega);rw[acO,List.append_nil]at a2;rw[a7,←a2];congr 1;cases T with
   | nil=>simp at hT
   | cons b T=>
    have hb:bN (bA (b::T)) 0=b.toNat:=by rw[NB];rfl
    rw[hb];have:low b.toNat 1=[b]:=by simp[low]
    rw[this];rfl
  rename_i hc;exact absurd h hc
 exact absurd h (show ¬(1:Int)=0 by decide)
theorem Ou {s:ByteArray}{m:aM}{c a:Int}(h:bV s=(m,c,a)) (hc:¬c=0):m=.zero:=by
 unfold bV at h;split at h
 ·cases h;rfl
 split at h
 ·unfold eb at h;split at h
  ·split at h
   ·cases h;rfl
   cases h;exact absurd rfl hc
  cases h;rfl
 cases h;rfl
section
set_option maxHeartbeats 4000000
set_option maxRecDepth 10000
set_option linter.unusedSectionVars false
def aeY:bX:=⟨[],[9,10,11],[24,26,30,44,47,50,51,52,57,58,59,62,76,88,138,185,186,187,253,254,297,311],false⟩
theorem aB.wide (l:List aB):fp 3 (l.map aB.cs)=true:=by
 induction l with
 | nil=>rfl
 | cons a l ih=>simp only[List.map_cons,fp,ih,aB.cs];rfl
theorem aB.flat (l:List aB):dx (l.map aB.cs)=2:=by
 induction l with
 | nil=>rfl
 | cons a l ih=>simp only[List.map_cons,dx,ih,aB.cs];rfl
attribute [go_sem] aB.wide aB.flat
theorem oW (l:List aB) (hl:l.length * 32≤140737488355328):aR Tryz.prog 126 [.ro 3 (l.map aB.cs)] (.au 0 0 [] 3 0 l.length) [([],⟨3,l.map aB.cs,2,false⟩)]:=by
 refine aA aeY false Tryz.f126 ?_;conv=>enter[1];reduce
 refine bf Tryz.f126 14 [.tmp 2] (by kernel_rfl) (by decide +kernel) rfl ?_;refine aw ?_;refine b8 (fun h=>?_) (fun h=>?_)
 ·have:l=[]:=by simpa using h
  subst this;exact dt
 have hm:=mm hl (by omega);have hJ:((32:Nat):Int) * (l.length:Int)≤281474976710656∧(l.length:Int)≤9223372036854775807:=by unfold maxLen at hm;omega
 exact rN h hJ
theorem Mz:aR Tryz.prog 126 [.aG] (.au 0 0 [] 3 0 0) [([],⟨3,[],2,false⟩)]:=
 (oW [] (by simp)).arg fun rd vs h=>by
  obtain⟨v,us,rfl,hr,hp⟩:=h.kI;have:us=[]:=List.eq_nil_of_length_eq_zero hp.1.symm;subst this;exact PW.cons (hr.wk (.inr ⟨rfl,3,rfl⟩)) PW.nil
theorem Kc {s:ByteArray}:(bV s).1.root.ok:=by
 generalize hW:bV s=W;obtain⟨m,c,a⟩:=W;by_cases hc:c=0
 ·have:=wq s;rw[hW]at this;exact(this hc).2.1
 have:=Ou hW hc;subst this;exact sO
end
section
set_option maxHeartbeats 4000000
set_option maxRecDepth 10000
set_option linter.unusedSectionVars false
def aeV:bX:=⟨[(242,.cm [false,false,false]),(243,.cm [false,false]),(244,.cm [false])],[9,10,11],[24,26,30,44,47,50,51,52,57,58,59,62,76,88,138,185,186,187,253,254,297,311],false⟩
def bu.zero:bu:=⟨0,0,0,0,.zero,[],.zero⟩
def cU.zero:cU:=⟨.zero,[],[],[]⟩
def iQ (c:bu) (me:Int) (l:aB):Bool:=dC c&&(aT me 1 20&&c8 l)
def vt (c:bu) (l:aB) (W:aM × Int × Int):Bool:=(W.2.1==0)&&((W.1.kind==2)&&((l.from_==0)&&((c.phase==1)&&(W.1.bR==c.bR))))
def sE (c:bu) (l:aB) (W:aM × Int × Int):Bool:=((W.2.1==0)&&((W.1.kind==6)&&(aT l.from_ 1 c.many&&((c.phase==2)&&(W.1.bR==c.bR)))))&&qz ⟨W.1.size,W.1.root⟩ c.goal
def jo (c:bu) (me:Int) (l:aB):cU:=
 if iQ c me l then(if vt c l (bV l.text) then qc c me ⟨(bV l.text).1.size,(bV l.text).1.root⟩ else if sE c l (bV l.text) then qe c l.from_ else .base c) else .zero
theorem sX {c:bu}(h:dC c=true):c.many≤100∧c.bt.length≤100:=by
 simp only[dC,Bool.and_eq_true]at h;obtain⟨h1,h2,h3,h4,h5,h6⟩:=h;have k1:=cf.1 h1;have k2:=cf.1 h2;refine⟨by omega,?_⟩;split at h6
 ·simp only[Bool.and_eq_true,beq_iff_eq]at h6;omega
 simp only[Bool.and_eq_true,decide_eq_true_eq]at h6;omega
theorem Vy (c:bu) (me:Int) (l:aB) (hl:c.bt.length≤maxLen):bb Tryz.prog 189 [] [c.ro,vI me,.agg l.cs] (jo c me l).ta (jo c me l).rZ:=by
 refine aA aeV false Tryz.f189 ?_;conv=>enter[1];reduce
 refine bT Tryz.f189 102 [.cell 6 206] (by kernel_rfl) (by decide +kernel) rfl ?_;unfold jo;cases aF:iQ c me l with
 | false=>
  rw[if_neg (by simp)];simp -implicitDefEqProofs only[go_sem]
  repeat' first|(refine aq.intro (by first|exact yC c hl|exact vR me|exact vQ l) ?_;try simp -implicitDefEqProofs only[go_sem,aZ,aY])|(refine aD.intro (by first|exact yC c hl|exact vR me|exact vQ l) ?_;try simp -implicitDefEqProofs only[go_sem,aZ,aY])|(refine ew (fun h=>?_) (fun h=>?_)<;>try simp -implicitDefEqProofs only[go_sem,aZ,aY,h])|(refine b8 (fun h=>?_) (fun h=>?_)<;>try simp -implicitDefEqProofs only[go_sem,aZ,aY,h])
  all_goals first
   | exact⟨rfl,rfl⟩
   | (exfalso;simp_all[iQ];done)
   | trace_state
 | true=>
  rw[if_pos rfl];simp only[iQ,Bool.and_eq_true]at aF;obtain⟨o1,o2,o3⟩:=aF;obtain⟨qj,lL⟩:=sX o1;have dg:l.text.size≤600:=by
   simp only[c8,Bool.and_eq_true,decide_eq_true_eq]at o3;omega
  have hS:=DA l.text (by omega);have Gp:=Kc (s:=l.text);generalize bV l.text=W at *;obtain⟨m,code,a⟩:=W;refine aw ?_;refine aq.intro (yC c hl) ?_;refine uG o1 ?_;refine aq.intro (vR me) ?_;refine uG o2 ?_;refine aq.intro (vQ l) ?_;refine uG o3 ?_;refine aq.intro hS ?_;cases k0:(code==0)<;>cases ks:(m.bR==c.bR);all_goals simp -implicitDefEqProofs only[go_sem,k0,ks]
  all_goals repeat' first|(refine aq.intro (by first|exact e9 _ _ _|exact Vi c me m lL qj Gp|exact Vh c l.from_ lL|exact Au c lL) ?_;try simp -implicitDefEqProofs only[go_sem,k0,ks,aZ,aY,ek,bU,eo,eO])|(refine aD.intro (by first|exact e9 _ _ _|exact Vi c me m lL qj Gp|exact Vh c l.from_ lL|exact Au c lL) ?_;try simp -implicitDefEqProofs only[go_sem,k0,ks,aZ,aY,ek,bU,eo,eO])|(refine ew (fun h=>?_) (fun h=>?_)<;>try simp -implicitDefEqProofs only[go_sem,k0,ks,aZ,aY,ek,bU,eo,eO,h])|(refine b8 (fun h=>?_) (fun h=>?_)<;>try simp -implicitDefEqProofs only[go_sem,k0,ks,aZ,aY,ek,bU,eo,eO,h])
  all_goals clear hS
  all_goals first
   | (rw[if_neg (by simp_all[vt];done),if_neg (by simp_all[sE,qz];done)];first|exact⟨rfl,rfl⟩|rfl)
   | (rw[if_pos (by simp_all[vt];done)];first|exact⟨rfl,rfl⟩|rfl)
   | (rw[if_neg (by simp_all[vt];done),if_pos (by simp_all[sE,qz];done)];first|exact⟨rfl,rfl⟩|rfl)
   | (exfalso;simp_all;done)
   | (exfalso;simp_all;omega)
   | trace_state
end
structure Kept (c:bu) (me:Int) (t:cU):Prop where
 ok:dC t.cl=true
 aP:c.aP.size≤t.cl.aP.size
 s:t.cl.bR=c.bR
 acc:(t.acc=[]∧t.cl.aP=c.aP)∨(t.acc=[c.goal]∧t.cl.aP=c.goal∧c.aP.size<c.goal.size∧(c.bt.length:Int)+1=c.eK)
 RW:t.bM=[]∨(t.bM=(List.range c.many.toNat).map (fun i:Nat=>aB.mk me ((i:Int)+1) (i6 (zE c t.cl.goal)))∧(1≤c.bR∧c.bR≤1000000)∧(1≤t.cl.goal.size∧t.cl.goal.size≤256)∧t.cl.goal.root.ok)
theorem vv {a b:bh}:ed a b=true↔a=b:=by
 obtain⟨s,⟨x,y,z,u⟩⟩:=a;obtain⟨s',⟨x',y',z',u'⟩⟩:=b;simp only[ed,Bool.and_eq_true,beq_iff_eq,bh.mk.injEq,aW.mk.injEq];omega
structure N5 (c:bu):Prop where
 m:1≤c.many∧c.many≤7
 n:1≤c.eK∧c.eK≤c.many
 t:c.many<2 * c.eK
 s:0≤c.bR∧c.bR≤1000000
 p:lA c.aP=true
 z:0≤c.aP.size∧c.aP.size≤256
theorem Ar {c:bu}(h:dC c=true):N5 c:=by
 simp only[dC,Bool.and_eq_true,decide_eq_true_eq,cf]at h;exact⟨h.1,h.2.1,h.2.2.1,h.2.2.2.1,h.2.2.2.2.1,(FW h.2.2.2.2.1).2⟩
theorem afa {c:bu}(h:dC c=true) (hp:c.phase=1):c.goal=.zero∧c.bt=[]∧1≤c.bR:=by
 simp only[dC,Bool.and_eq_true,decide_eq_true_eq,cf,hp,or_true,if_true,beq_iff_eq,vv]at h;exact⟨h.2.2.2.2.2.1,List.eq_nil_of_length_eq_zero h.2.2.2.2.2.2.1,h.2.2.2.2.2.2.2⟩
theorem ae9 {c:bu}(h:dC c=true) (hp:c.phase=2):1≤c.bR∧(c.aP.size+1≤c.goal.size∧c.goal.size≤256)∧(c.bt.length:Int)<c.eK∧pK c.many c.bt=true:=by
 have e:¬(c.phase=0∨c.phase=1):=by omega
 simp only[dC,Bool.and_eq_true,decide_eq_true_eq,cf,e,if_false]at h;exact⟨h.2.2.2.2.2.2.1,h.2.2.2.2.2.2.2.1,h.2.2.2.2.2.2.2.2.1,h.2.2.2.2.2.2.2.2.2⟩
theorem Uz {c:bu}(h:N5 c) (hp:c.phase=0) (hg:c.goal=.zero) (ha:c.bt=[]):dC c=true:=by
 simp only[dC,Bool.and_eq_true,decide_eq_true_eq,cf,hp,true_or,if_true,beq_iff_eq,vv,ha,List.length_nil];exact⟨h.m,h.n,h.t,h.s,h.p,hg,trivial,h.s.1⟩
theorem Uy {c:bu}(h:N5 c) (hp:c.phase=2) (h1:1≤c.bR) (h2:c.aP.size+1≤c.goal.size∧c.goal.size≤256) (h3:(c.bt.length:Int)<c.eK) (h4:pK c.many c.bt=true):dC c=true:=by
 have e:¬(c.phase=0∨c.phase=1):=by omega
 simp only[dC,Bool.and_eq_true,decide_eq_true_eq,cf,e,if_false];exact⟨h.m,h.n,h.t,h.s,h.p,hp,h1,h2,h3,h4⟩
theorem R8 {c:bu}{me:Int}(h:dC c=true):Kept c me (.base c):=⟨h,Int.le_refl _,rfl,.inl ⟨rfl,rfl⟩,.inl rfl⟩
theorem abT {c:bu}{me:Int}{p:bh}(h:dC c=true) (hp:c.phase=1) (hz:0≤p.size∧p.size≤256) (hr:p.root.ok):Kept c me (qc c me p):=by
 have k:=Ar h;obtain⟨hg,ha,hs⟩:=afa h hp;unfold qc;split
 ·exact R8 h
 rename_i h1;split
 ·exact⟨h,Int.le_refl _,rfl,.inl ⟨rfl,rfl⟩,.inl rfl⟩
 rename_i h2;have e1:p.size≠0:=fun e=>h1 (.inl e)
 have e2:¬p.size<c.aP.size:=fun e=>h1 (.inr (.inl e))
 have hn:=k.n;refine⟨?_,Int.le_refl _,rfl,.inl ⟨rfl,rfl⟩,.inr ⟨rfl,⟨hs,k.s.2⟩,⟨by show 1≤p.size;omega,hz.2⟩,hr⟩⟩;refine Uy ⟨k.m,k.n,k.t,k.s,k.p,k.z⟩ rfl hs ⟨by show c.aP.size+1≤p.size;omega,hz.2⟩ ?_ ?_
 ·show(c.bt.length:Int)<c.eK
  rw[ha];simp;omega
 show pK c.many c.bt=true
 rw[ha];rfl
theorem abU {c:bu}{me w:Int}(h:dC c=true) (hp:c.phase=2) (hw:1≤w∧w≤c.many):Kept c me (qe c w):=by
 have k:=Ar h;obtain⟨hs,hg,ha,hb⟩:=ae9 h hp;have hl:=ahO (w:=w) (Ww hb).1;have kz:=k.z;unfold qe;split
 ·rename_i h1;exact⟨Uy ⟨k.m,k.n,k.t,k.s,k.p,k.z⟩ hp hs hg h1 (ahN hb hw),Int.le_refl _,rfl,.inl ⟨rfl,rfl⟩,.inl rfl⟩
 rename_i h1;refine⟨?_,by show c.aP.size≤c.goal.size;omega,rfl,.inr ⟨rfl,rfl,by omega,by omega⟩,.inl rfl⟩;refine Uz ⟨k.m,k.n,k.t,k.s,?_,by show 0≤c.goal.size∧c.goal.size≤256;omega⟩ rfl rfl rfl;show lA c.goal=true
 unfold lA;rw[cf.2 (by omega),Bool.true_or]
theorem xu {c:bu}{me:Int}{l:aB}(h:iQ c me l=true):Kept c me (jo c me l):=by
 have hc:dC c=true:=by simp only[iQ,Bool.and_eq_true]at h;exact h.1
 unfold jo;rw[if_pos h];split
 ·rename_i h1;simp only[vt,Bool.and_eq_true,beq_iff_eq]at h1;have hw:=wq l.text h1.1;exact abT hc h1.2.2.2.1 (nr.of hw.1).z hw.2.1
 split
 ·rename_i h1;simp only[sE,Bool.and_eq_true,beq_iff_eq,cf]at h1;exact abU hc h1.1.2.2.2.1 h1.1.2.2.1
 exact R8 hc
section
set_option maxHeartbeats 4000000
set_option maxRecDepth 10000
set_option linter.unusedSectionVars false
def vF:bX:=⟨[(127,.cm [false]),(180,.cm [false])],[9,10,11],[24,26,30,44,47,50,51,52,57,58,59,62,76,88,138,185,186,187,253,254,297,311],false⟩
structure ny (room:Int) (l:List aB):Prop where
 r:1≤room∧room≤64
 len:(l.length:Int)≤room
 o:∀x∈l,c8 x=true
theorem ny.n {room:Int}{l:List aB}(h:ny room l):l.length≤64:=by
 have:=h.r;have:=h.len;omega
def ahA (room:Int) (l:List aB):List AV:=[vI room,.ro 3 (l.map aB.cs)]
def jk (room:Int) (l:List aB):AV:=.agg [vI room,.ro 3 (l.map aB.cs)]
attribute [go_sem] ahA jk
theorem DH {room:Int}{l:List aB}(h:ny room l):aR Tryz.prog 159 [jk room l] (vB true) []:=by
 refine aA vF false Tryz.f159 ?_;conv=>enter[1];reduce
 refine bf Tryz.f159 27 [.tmp 2] (by kernel_rfl) (by decide +kernel) rfl ?_;have hn:=h.n;have hl:l.length≤maxLen:=by unfold maxLen;omega
 have hr:aT room 1 64=true:=cf.2 h.r;have hle:(l.length:Int)≤room:=h.len;refine aw ?_;refine cR (fun m s=>∃i:Nat,i≤l.length∧m=l.length - i∧s=⟨27,[(1,.ptr 1 0 [] 2 0 0),(6,.ro 3 (l.map aB.cs)),(7,vI l.length),(8,vI i)],[(1,0,one ⟨2,[[vI room,.ro 3 (l.map aB.cs)]],0,false⟩)],1⟩) l.length ?_ ?_
 ·refine aw ?_;exact⟨0,aQ _,rfl,rfl⟩
 rintro m s ⟨i,hi,rfl,rfl⟩;rcases bm i l.length with ab|bH
 ·have ae:(i:Int)<(l.length:Int):=by omega
  have hg:l[i]?=some l[i]:=bz ab;have hw:=df ab hl;have ho:=h.o _ (List.getElem_mem ab);refine ez ae hg hw ?_;refine aq.intro (vT l[i]) ?_;rw[ho];refine aC hw ?_;exact⟨_,by omega,i+1,ab,rfl,rfl⟩
 have hi:i=l.length:=by omega
 subst hi;have ae:¬((l.length:Int)<(l.length:Int)):=by omega
 refine aC ae ?_;refine aq.intro (dG _ _ _) ?_;rw[hr];exact er hle
theorem Dy {room:Int}{l:List aB}(h:ny room l):aR Tryz.prog 35 [jk room l] (vB true) []:=by
 refine aA vF false Tryz.f35 ?_;conv=>enter[1];reduce
 refine bf Tryz.f35 30 [.tmp 2] (by kernel_rfl) (by decide +kernel) rfl ?_;have hn:=h.n;have hl:l.length≤maxLen:=by unfold maxLen;omega
 have hr:aT room 1 64=true:=cf.2 h.r;have hle:¬((l.length:Int)>room):=by have:=h.len;omega
 refine aw ?_;refine aq.intro (e9 _ _ _) ?_;rw[hr];refine aC hle ?_;refine cR (fun m s=>∃i:Nat,i≤l.length∧m=l.length - i∧s=⟨30,[(1,.ptr 1 0 [] 2 0 0),(3,vI i)],[(1,0,one ⟨2,[[vI room,.ro 3 (l.map aB.cs)]],0,false⟩)],1⟩) l.length ?_ ?_
 ·refine aw ?_;exact⟨0,aQ _,rfl,rfl⟩
 rintro m s ⟨i,hi,rfl,rfl⟩;rcases bm i l.length with ab|bH
 ·have ae:(i:Int)<(l.length:Int):=by omega
  have hg:l[i]?=some l[i]:=bz ab;have hw:=df ab hl;have ho:=h.o _ (List.getElem_mem ab);refine ez ae hg hw ?_;refine aq.intro (vQ l[i]) ?_;rw[ho];refine aC hw ?_;exact⟨_,by omega,i+1,ab,rfl,rfl⟩
 have hi:i=l.length:=by omega
 subst hi;have ae:¬((l.length:Int)<(l.length:Int)):=by omega
 exact er ae
def Wh (room:Int) (l:List aB):AV:=.agg [vI room,.au 0 0 [] 3 0 l.length]
def We (l:List aB):aj:=[(0,0,one ⟨3,l.map aB.cs,2,false⟩)]
attribute [go_sem] Wh We
theorem tO (l:List aB) (h:l.length≤1000):∀x,(l.map aB.cs++[x]).length≤maxLen∧(l.map aB.cs++[x]).length * 32≤140737488355328:=fun x=>du (E:=aB.cs) (l:=l) (xs:=[x]) (b:=32) (n:=1001) (by simp;omega) (by omega) (by omega)
theorem vY (room:Int) (l:List aB) (h:l.length≤1000):bb Tryz.prog 127 [] [jk room l] (jk room l) []:=by
 refine aA vF false Tryz.f127 ?_;conv=>enter[1];reduce
 refine bT Tryz.f127 9 [.cell 2 61] (by kernel_rfl) (by decide +kernel) rfl ?_;refine aw ?_;refine aq.intro (oW l (by omega)) ?_;exact dt
theorem HH (room:Int) (l:List aB) (h:l.length≤1000):bb Tryz.prog 180 [] [jk room l] (Wh room l) (We l):=by
 refine aA vF false Tryz.f180 ?_;conv=>enter[1];reduce
 refine bT Tryz.f180 26 [.cell 2 61] (by kernel_rfl) (by decide +kernel) rfl ?_;have hl:l.length≤maxLen:=by unfold maxLen;omega
 refine aw ?_;refine jX [(2003,3)] (fun m s=>∃i:Nat,i≤l.length∧m=l.length - i∧s=⟨26,[(1,.ptr 1 0 [] 2 0 0),(2,.ptr 2 0 [] 2 0 0),(3,.ptr 3 0 [] 2 0 0),(4,vI i)],[(1,0,one ⟨2,[[vI room,.ro 3 (l.map aB.cs)]],0,false⟩),(2,0,one ⟨2,[[vI 0,.aG]],0,false⟩),(3,0,one ⟨2,[[vI room,.au 10003 0 [] 3 0 (l.take i).length]],0,false⟩),(10003,0,one ⟨3,(l.take i).map aB.cs,2,false⟩)],1⟩) l.length ?_ ?_
 ·refine aw ?_;exact⟨0,aQ _,rfl,rfl⟩
 rintro m s ⟨i,hi,rfl,rfl⟩;rcases bm i l.length with ab|bH
 ·have ae:(i:Int)<(l.length:Int):=by omega
  have hg:l[i]?=some l[i]:=bz ab;have hw:=df ab hl;have ha:=tO (l.take i) (by rw[List.length_take];omega);have ht:l.take (i+1)=l.take i++[l[i]]:=List.take_succ_eq_append_getElem ab;refine eI ae hg hw ha ?_;refine⟨_,by omega,i+1,ab,rfl,?_⟩;rw[ht];simp only[gj,aB.cs];try rfl
 have hi:i=l.length:=by omega
 subst hi;have ae:¬((l.length:Int)<(l.length:Int)):=by omega
 exact wo ae
def lW (room:Int) (l:List aB) (x:aB):List aB:=if (l.length:Int)≥room then l else l++[x]
theorem ny.send {room:Int}{l:List aB}(h:ny room l) {x:aB}(hx:c8 x=true):ny room (lW room l x):=by
 have:=h.len;unfold lW;split
 ·exact h
 rename_i hn;refine⟨h.r,by rw[List.length_append];show((_+1:Nat):Int)≤room;omega,fun y hy=>?_⟩;rcases List.mem_append.1 hy with hy|hy
 ·exact h.o y hy
 rw[List.mem_singleton.1 hy];exact hx
theorem agm {room:Int}{l:List aB}(h:ny room l) {x:aB}(hx:c8 x=true):bb Tryz.prog 212 [] [jk room l,.agg x.cs] (.ba [jk room (lW room l x),vB (!decide ((l.length:Int)≥room))]) []:=by
 refine aA vF false Tryz.f212 ?_;conv=>enter[1];reduce
 refine bT Tryz.f212 33 [.cell 4 61,.tmp 5] (by kernel_rfl) (by decide +kernel) rfl ?_;have hn:=h.n;have ha:=tO l (by omega);refine aw ?_;refine cz (DH h) ?_;refine aq.intro (vT x) ?_;rw[hx];refine aw ?_;by_cases hr:(l.length:Int)≥room
 ·have e:lW room l x=l:=if_pos hr;rw[e];refine aC hr ?_;refine aD.intro (vY room l (by omega)) ?_;exact er hr
 have e:lW room l x=l++[x]:=if_neg hr;rw[e];refine aC hr ?_;refine jm (oW l (by omega)) ha ?_;have hc:=vY room (l++[x]) (by rw[List.length_append];show _+1≤_;omega);simp only[jk,List.map_append,List.map_cons,List.map_nil]at hc;refine aD.intro hc ?_;simp -implicitDefEqProofs only[go_sem,hr,List.map_append,List.map_cons,List.map_nil]
theorem age {room:Int}{l:List aB}(h:ny room l) {x:aB}(hx:c8 x=true):bb Tryz.prog 235 [] [jk room l,.agg x.cs] (.ba [jk room (lW room l x),vB (!decide ((l.length:Int)≥room))]) []:=by
 refine aA vF false Tryz.f235 ?_;conv=>enter[1];reduce
 refine bT Tryz.f235 32 [.cell 4 61,.tmp 5] (by kernel_rfl) (by decide +kernel) rfl ?_;have hn:=h.n;have ha:=tO l (by omega);refine aw ?_;refine cz (Dy h) ?_;refine aq.intro (vQ x) ?_;rw[hx];refine aw ?_;refine eP (HH room l (by omega)) ?_;by_cases hr:(l.length:Int)≥room
 ·have e:lW room l x=l:=if_pos hr;rw[e];exact er hr
 have e:lW room l x=l++[x]:=if_neg hr;rw[e];simp -implicitDefEqProofs only[go_sem,hr,ha,List.map_append,List.map_cons,List.map_nil]
def eE (k:Int) (n:Nat):Nat:=((k.tmod n+n).tmod n).toNat
theorem Q8 {k:Int}{n:Nat}(h0:0<n) (h:n≤1000):IntKind.i64.wrap (k.tmod n)=k.tmod n∧IntKind.i64.wrap (k.tmod n+n)=k.tmod n+n∧IntKind.i64.wrap ((k.tmod n+n).tmod n)=(k.tmod n+n).tmod n∧(k.tmod n+n).tmod n=(eE k n:Int):=by
 have h1:=Int.tmod_lt_of_pos k (show(0:Int)<n by omega);have h2:=Int.lt_tmod_of_pos k (show(0:Int)<n by omega);have h3:0≤(k.tmod n+n).tmod n:=Int.tmod_nonneg _ (by omega);have h4:=Int.tmod_lt_of_pos (k.tmod n+n) (show(0:Int)<n by omega);refine⟨aV (by omega),aV (by omega),aV (by omega),?_⟩;unfold eE;omega
theorem Nj (k:Int) (n:Nat) (h0:0<n) (h:n≤1000):aR Tryz.prog 114 [vI k,vI n] (vI (eE k n:Nat)) []:=by
 refine aA vF false Tryz.f114 ?_;conv=>enter[1];reduce
 refine bf Tryz.f114 12 [.tmp 4] (by kernel_rfl) (by decide +kernel) rfl ?_;obtain⟨a1,a2,a3,a4⟩:=Q8 (k:=k) h0 h;have hz:¬((n:Int)=0):=by omega
 have KI:((n:Int)==0)=false:=by rw[beq_eq_false_iff_ne];omega
 simp -implicitDefEqProofs only[go_sem,a1,a2,a3,a4,hz,KI]
theorem Ni (k:Int) (n:Nat) (h0:0<n) (h:n≤1000):aR Tryz.prog 136 [vI k,vI n] (vI (eE k n:Nat)) []:=by
 refine aA vF false Tryz.f136 ?_;conv=>enter[1];reduce
 refine bf Tryz.f136 12 [.tmp 4] (by kernel_rfl) (by decide +kernel) rfl ?_;obtain⟨a1,a2,a3,a4⟩:=Q8 (k:=k) h0 h;have hz:¬((n:Int)=0):=by omega
 have KI:((n:Int)==0)=false:=by rw[beq_eq_false_iff_ne];omega
 simp -implicitDefEqProofs only[go_sem,a1,a2,a3,a4,hz,KI]
end
end Go.Proofs.YtobpfkgabdeefaaGreat.E
