/- Plain law: what is read was written. -/
import Derived.Test.YtpjpkmhaffmbmaaGreatQ25
namespace Go.Proofs.YtpjpkmhaffmbmaaGreat.E
open Go Go.RowKit
set_option linter.unusedVariables false
set_option linter.unusedSimpArgs false
def RdI {α:Type} (f:MRd→α × MRd) (V:α→List UInt8→Prop):Prop:=
 (∀T p,p≤T.length→(f (rd T p)).2.code=0→∃w,p+w.length≤T.length∧T.drop p=w++T.drop (p+w.length)∧(f (rd T p)).2=rd T (p+w.length)∧V (f (rd T p)).1 w)∧∀r:MRd,r.code≠0→(f r).2.code≠0
theorem zdA (T:List UInt8) {p n:Nat} (h:p+n≤T.length):((T.drop p).take n).length=n∧T.drop p=(T.drop p).take n++T.drop (p+n):=by
 refine ⟨by simp;omega,?_⟩
 rw [←List.drop_drop,List.take_append_drop]
theorem zjz (n:Nat):RdI (fun r=>xS r n) (fun s w=>s=bA w∧w.length=n):=by
 refine ⟨fun T p hp hc=>?_,fun r h=>by simp only [zas h];exact h⟩
 simp only [zg4] at hc ⊢
 split at hc
 ·exact absurd hc (show ¬(2:Int)=0 by decide)
 ·rename_i hn
  rw [if_neg hn]
  obtain ⟨h1,h2⟩:=zdA T (show p+n≤T.length by omega)
  exact ⟨(T.drop p).take n,by rw [h1];omega,by rw [h1];exact h2,by rw [h1],rfl,h1⟩
theorem wo (n:Nat) (lo hi:Int):RdI (fun r=>yq r n lo hi) (fun v w=>(lo≤v∧v≤hi∧0≤v)∧w=low v.toNat n):=by
 refine ⟨fun T p hp hc=>?_,fun r h=>by simp only [zgd h];exact h⟩
 rcases Nat.lt_or_ge T.length (p+n) with hlt | hge
 ·simp only [zm2 (show p+n>T.length from hlt)] at hc
  exact absurd hc (show ¬(2:Int)=0 by decide)
 ·obtain ⟨h1,h2⟩:=zdA T hge
  simp only [zm3 hge] at hc ⊢
  split at hc
  ·rename_i hin
   rw [if_pos hin]
   have hin':lo≤(nv ((T.drop p).take n):Int)∧(nv ((T.drop p).take n):Int)≤hi:=by simpa [mIn] using hin
   refine ⟨(T.drop p).take n,by rw [h1];omega,by rw [h1];exact h2,by rw [h1],⟨hin'.1,hin'.2,by simp only;omega⟩,?_⟩
   simp only [Int.toNat_natCast]
   exact (zdm n _ h1).symm
  ·exact absurd hc (show ¬(3:Int)=0 by decide)
theorem RdI.bind {α β:Type} {f:MRd→α × MRd} {g:α→MRd→β × MRd} {V:α→List UInt8→Prop} {W:α→β→List UInt8→Prop} (hf:RdI f V) (hg:∀a,RdI (g a) (W a)):RdI (fun r=>g (f r).1 (f r).2) (fun b w=>∃a w1 w2,w=w1++w2∧V a w1∧W a b w2):=by
 refine ⟨fun T p hp hc=>?_,fun r h=>(hg _).2 _ (hf.2 r h)⟩
 by_cases h0:(f (rd T p)).2.code=0
 ·obtain ⟨w1,a1,a2,a3,a4⟩:=hf.1 T p hp h0
  simp only [a3] at hc ⊢
  obtain ⟨w2,b1,b2,b3,b4⟩:=(hg _).1 T _ a1 hc
  refine ⟨w1++w2,by rw [List.length_append];omega,?_,?_,_,w1,w2,rfl,a4,b4⟩
  ·rw [a2,b2,List.length_append,List.append_assoc,Nat.add_assoc]
  ·rw [b3,List.length_append,Nat.add_assoc]
 ·exact absurd hc ((hg _).2 _ h0)
theorem RdI.mono {α:Type} {f:MRd→α × MRd} {V W:α→List UInt8→Prop} (h:RdI f V) (k:∀a w,V a w→W a w):RdI f W:=
 ⟨fun T p hp hc=>by obtain ⟨w,a1,a2,a3,a4⟩:=h.1 T p hp hc;exact ⟨w,a1,a2,a3,k _ _ a4⟩,h.2⟩
theorem zpm (l:List UInt8) (h:l.length=32):(ziK l).bl=l∧(ziK l).ok:=by
 have t:∀i,i+8≤32→qb (l.drop i) 8=nv ((l.drop i).take 8)∧((l.drop i).take 8).length=8:=fun i hi=>⟨qo 8 _ (by simp;omega),by simp;omega⟩
 obtain ⟨a1,a2⟩:=t 0 (by omega)
 obtain ⟨b1,b2⟩:=t 8 (by omega)
 obtain ⟨c1,c2⟩:=t 16 (by omega)
 obtain ⟨d1,d2⟩:=t 24 (by omega)
 rw [List.drop_zero] at a1 a2
 have lt:∀x:List UInt8,x.length=8→nv x<18446744073709551616:=fun x hx=>by
  have:=nv_lt x
  rw [hx] at this
  exact Nat.lt_of_lt_of_le this (by decide)
 constructor
 ·unfold ziK MDig.bl MDig.bk
  simp only [a1,b1,c1,d1,zdm 8 _ a2,zdm 8 _ b2,zdm 8 _ c2,zdm 8 _ d2]
  have e0:l=l.take 8++l.drop 8:=(List.take_append_drop 8 l).symm
  have e1:l.drop 8=(l.drop 8).take 8++l.drop 16:=by rw [show 16=8+8 from rfl,←List.drop_drop,List.take_append_drop]
  have e2:l.drop 16=(l.drop 16).take 8++l.drop 24:=by rw [show 24=16+8 from rfl,←List.drop_drop,List.take_append_drop]
  have e3:(l.drop 24).take 8=l.drop 24:=List.take_of_length_le (by simp;omega)
  rw [e3,List.append_assoc,List.append_assoc,←e2,←e1,←e0]
 ·unfold ziK
  exact ⟨by simp only [a1];exact lt _ a2,by simp only [b1];exact lt _ b2,by simp only [c1];exact lt _ c2,by simp only [d1];exact lt _ d2⟩
theorem rdI_dig:RdI xL (fun d w=>w=d.bl∧d.ok):=by
 have h:=zjz 32
 refine ⟨fun T p hp hc=>?_,fun r hr=>h.2 r hr⟩
 obtain ⟨w,a1,a2,a3,a4,a5⟩:=h.1 T p hp hc
 refine ⟨w,a1,a2,a3,?_⟩
 simp only at a4
 have e:(xL (rd T p)).1=ziK w:=by
  unfold xL
  rw [a4]
  unfold yL
  rw [zU,a5,if_pos rfl,xQ]
 rw [e]
 obtain ⟨h1,h2⟩:=zpm w a5
 exact ⟨h1.symm,h2⟩
theorem rdI_leaf:RdI zbd (fun s w=>w=zaD s∧s.size≤40):=by
 have:=RdI.bind (g:=fun (v:Int) r=>xS r v.toNat) (wo 1 0 40) (fun a=>zjz a.toNat)
 refine this.mono ?_
 rintro s w ⟨a,w1,w2,rfl,⟨⟨h1,h2,h3⟩,rfl⟩,rfl,h4⟩
 unfold zaD
 rw [zU,xQ,h4]
 exact ⟨rfl,by omega⟩
theorem zg3:∀n:Nat,RdI (yP n) (fun l w=>l.length=n∧w=xP l∧∀d∈l,d.ok)
 | 0=>⟨fun T p hp hc=>⟨[],by simpa using hp,rfl,rfl,rfl,rfl,by simp [yP]⟩,fun r h=>h⟩
 | n+1=>by
  have:=RdI.bind (g:=fun (v:List MDig) r=>(v++[(xL r).1],(xL r).2)) (W:=fun a b w=>∃d,b=a++[d]∧w=d.bl∧d.ok) (zg3 n)
   (fun a=>⟨fun T p hp hc=>by obtain ⟨w,a1,a2,a3,a4⟩:=rdI_dig.1 T p hp hc;exact ⟨w,a1,a2,a3,_,rfl,a4⟩,rdI_dig.2⟩)
  refine RdI.mono this ?_
  rintro l w ⟨a,w1,w2,rfl,⟨h1,rfl,h2⟩,d,rfl,rfl,h3⟩
  refine ⟨by simp [h1],by simp [xP],fun x hx=>?_⟩
  rcases List.mem_append.1 hx with hx | hx
  ·exact h2 x hx
  ·rw [List.mem_singleton.1 hx];exact h3
theorem zeP:∀n:Nat,RdI (zP n) (fun l w=>l.length=n∧w=yA l∧zt l=true)
 | 0=>⟨fun T p hp hc=>⟨[],by simpa using hp,rfl,rfl,rfl,rfl,rfl⟩,fun r h=>h⟩
 | n+1=>by
  have:=RdI.bind (g:=fun (v:List ByteArray) r=>(v++[(zbd r).1],(zbd r).2)) (W:=fun a b w=>∃d,b=a++[d]∧w=zaD d∧d.size≤40) (zeP n)
   (fun a=>⟨fun T p hp hc=>by obtain ⟨w,a1,a2,a3,a4⟩:=rdI_leaf.1 T p hp hc;exact ⟨w,a1,a2,a3,_,rfl,a4⟩,rdI_leaf.2⟩)
  refine RdI.mono this ?_
  rintro l w ⟨a,w1,w2,rfl,⟨h1,rfl,h2⟩,d,rfl,rfl,h3⟩
  refine ⟨by simp [h1],by simp [yA],?_⟩
  simp only [zt,List.all_append,List.all_cons,List.all_nil,Bool.and_true,Bool.and_eq_true,decide_eq_true_eq] at h2 ⊢
  exact ⟨h2,h3⟩
def RdPI (p:MRd × MMsg→MRd × MMsg) (V:MMsg→MMsg→List UInt8→Prop):Prop:=∀m0,RdI (fun r=>sw (p (r,m0))) (V m0)
theorem RdPI.seq {p q:MRd × MMsg→MRd × MMsg} {V W:MMsg→MMsg→List UInt8→Prop} (h:RdPI p V) (k:RdPI q W):RdPI (fun x=>q (p x)) (fun m0 m w=>∃m1 w1 w2,w=w1++w2∧V m0 m1 w1∧W m1 m w2):=
 fun m0=>RdI.bind (g:=fun m r=>sw (q (r,m))) (h m0) (fun a=>k a)
theorem RdPI.of {α:Type} {f:MRd→α × MRd} {V:α→List UInt8→Prop} (h:RdI f V) (u:α→MMsg→MMsg):RdPI (fun x=>((f x.1).2,u (f x.1).1 x.2)) (fun m0 m w=>∃a,m=u a m0∧V a w):=
 fun m0=>⟨fun T p hp hc=>by obtain ⟨w,a1,a2,a3,a4⟩:=h.1 T p hp hc;exact ⟨w,a1,a2,a3,_,rfl,a4⟩,h.2⟩
theorem riS:RdPI pS (fun m0 m w=>∃v:Int,m={m0 with session:=v}∧(1≤v∧v≤1000000∧0≤v)∧w=low v.toNat 3):=RdPI.of (wo 3 1 1000000) (fun v m=>{m with session:=v})
theorem riF:RdPI pF (fun m0 m w=>∃v:Int,m={m0 with from_:=v}∧(0≤v∧v≤256∧0≤v)∧w=low v.toNat 2):=RdPI.of (wo 2 0 256) (fun v m=>{m with from_:=v})
theorem riZ:RdPI pZ (fun m0 m w=>∃v:Int,m={m0 with size:=v}∧(0≤v∧v≤256∧0≤v)∧w=low v.toNat 2):=RdPI.of (wo 2 0 256) (fun v m=>{m with size:=v})
theorem riC:RdPI pC (fun m0 m w=>∃v:Int,m={m0 with count:=v}∧(1≤v∧v≤8∧0≤v)∧w=low v.toNat 1):=RdPI.of (wo 1 1 8) (fun v m=>{m with count:=v})
theorem riR:RdPI pR (fun m0 m w=>∃d:MDig,m={m0 with root:=d}∧w=d.bl∧d.ok):=RdPI.of rdI_dig (fun v m=>{m with root:=v})
theorem riP:RdPI pP (fun m0 m w=>∃l:List MDig,m={m0 with proof:=l}∧l.length≤16∧w=low l.length 1++xP l∧∀d∈l,d.ok):=by
 have:=RdPI.of (RdI.bind (g:=fun (v:Int) r=>yP v.toNat r) (wo 1 0 16) (fun a=>zg3 a.toNat)) (fun v m=>{m with proof:=v})
 intro m0
 refine (this m0).mono ?_
 rintro m w ⟨l,rfl,a,w1,w2,rfl,⟨⟨h1,h2,h3⟩,rfl⟩,h4,rfl,h5⟩
 exact ⟨l,rfl,by omega,by rw [h4],h5⟩
theorem riL:RdPI pL (fun m0 m w=>∃l:List ByteArray,m={m0 with leaves:=l}∧l.length≤8∧w=low l.length 1++yA l∧zt l=true):=by
 have:=RdPI.of (RdI.bind (g:=fun (v:Int) r=>zP v.toNat r) (wo 1 0 8) (fun a=>zeP a.toNat)) (fun v m=>{m with leaves:=v})
 intro m0
 refine (this m0).mono ?_
 rintro m w ⟨l,rfl,a,w1,w2,rfl,⟨⟨h1,h2,h3⟩,rfl⟩,h4,rfl,h5⟩
 exact ⟨l,rfl,by omega,by rw [h4],h5⟩
theorem zqP {k:Nat} (hk:1≤k∧k≤8):RdI (fun r=>sw (xu k (r,{MMsg.zero with kind:=k}))) (fun m w=>m.kind=k∧zC m=true∧(m.root.ok∧∀d∈m.proof,d.ok)∧wbL m=low k 1++w):=by
 have z0:MMsg.zero.root.ok:=yy
 have szr:∀K:Nat,(K=2∨K=3∨K=6)→∀(m:MMsg) (w:List UInt8),(∃(m1:MMsg) (w1 w2:List UInt8),w=w1++w2∧(∃v:Int,m1={{MMsg.zero with kind:=(K:Int)} with session:=v}∧(1≤v∧v≤1000000∧0≤v)∧w1=low v.toNat 3)∧∃(m2:MMsg) (w3 w4:List UInt8),w2=w3++w4∧(∃v:Int,m2={m1 with size:=v}∧(0≤v∧v≤256∧0≤v)∧w3=low v.toNat 2)∧∃d:MDig,m={m2 with root:=d}∧w4=d.bl∧d.ok)→m.kind=(K:Int)∧zC m=true∧(m.root.ok∧∀d∈m.proof,d.ok)∧wbL m=low K 1++w:=by
  rintro K hK m w ⟨m1,w1,w2,rfl,⟨v,rfl,hv,rfl⟩,m2,w3,w4,rfl,⟨v2,rfl,hv2,rfl⟩,d,rfl,rfl,hd⟩
  refine ⟨rfl,?_,⟨hd,by simp [MMsg.zero]⟩,?_⟩
  ·rcases hK with rfl | rfl | rfl
   ·exact zgc ⟨hv.1,hv.2.1⟩ ⟨hv2.1,hv2.2.1⟩
   ·exact zgb ⟨hv.1,hv.2.1⟩ ⟨hv2.1,hv2.2.1⟩
   ·exact zdU ⟨hv.1,hv.2.1⟩ ⟨hv2.1,hv2.2.1⟩
  ·rcases hK with rfl | rfl | rfl<;>simp [wbL,bK,bS,bZ,MMsg.zero]
 have hk':k=1∨k=2∨k=3∨k=4∨k=5∨k=6∨k=7∨k=8:=by omega
 rcases hk' with rfl | rfl | rfl | rfl | rfl | rfl | rfl | rfl
 ·refine RdI.mono (riS _) ?_
  rintro m w ⟨v,rfl,hv,rfl⟩
  exact ⟨rfl,ok_s ⟨hv.1,hv.2.1⟩,⟨z0,by simp [MMsg.zero]⟩,by simp [wbL,bK,bS,MMsg.zero]⟩
 ·exact RdI.mono ((riS.seq (riZ.seq riR)) _) (szr 2 (by omega))
 ·exact RdI.mono ((riS.seq (riZ.seq riR)) _) (szr 3 (by omega))
 ·refine RdI.mono ((riF.seq riZ) _) ?_
  rintro m w ⟨m1,w1,w2,rfl,⟨v,rfl,hv,rfl⟩,v2,rfl,hv2,rfl⟩
  exact ⟨rfl,zoc ⟨hv.1,hv.2.1⟩ ⟨hv2.1,hv2.2.1⟩,⟨z0,by simp [MMsg.zero]⟩,by simp [wbL,bK,bF,bZ,MMsg.zero]⟩
 ·refine RdI.mono ((riF.seq (riZ.seq riP)) _) ?_
  rintro m w ⟨m1,w1,w2,rfl,⟨v,rfl,hv,rfl⟩,m2,w3,w4,rfl,⟨v2,rfl,hv2,rfl⟩,l,rfl,hl,rfl,hd⟩
  exact ⟨rfl,zjQ ⟨hv.1,hv.2.1⟩ ⟨hv2.1,hv2.2.1⟩ hl,⟨z0,hd⟩,by simp [wbL,bK,bF,bZ,bP,MMsg.zero]⟩
 ·exact RdI.mono ((riS.seq (riZ.seq riR)) _) (szr 6 (by omega))
 ·refine RdI.mono ((riF.seq riC) _) ?_
  rintro m w ⟨m1,w1,w2,rfl,⟨v,rfl,hv,rfl⟩,v2,rfl,hv2,rfl⟩
  exact ⟨rfl,zqH ⟨hv.1,hv.2.1⟩ ⟨hv2.1,hv2.2.1⟩,⟨z0,by simp [MMsg.zero]⟩,by simp [wbL,bK,bF,bC,MMsg.zero]⟩
 ·refine RdI.mono ((riF.seq riL) _) ?_
  rintro m w ⟨m1,w1,w2,rfl,⟨v,rfl,hv,rfl⟩,l,rfl,hl,rfl,hd⟩
  exact ⟨rfl,zlX ⟨hv.1,hv.2.1⟩ hl hd,⟨z0,by simp [MMsg.zero]⟩,by simp [wbL,bK,bF,bL_,MMsg.zero]⟩
theorem qC (s:ByteArray) (h:(zj s).2.1=0):zC (zj s).1=true∧(zj s).1.root.ok∧(∀d∈(zj s).1.proof,d.ok)∧bA (wbL (zj s).1)=s:=by
 obtain ⟨T,rfl⟩:∃T,s=bA T:=⟨_,zmI s⟩
 unfold zj at h ⊢
 split at h
 ·exact absurd h (show ¬(2:Int)=0 by decide)
 ·rename_i h0
  rw [if_neg h0]
  split at h
  ·rename_i hk
   rw [if_pos hk]
   have hT:1≤T.length:=by rw [zU] at h0;omega
   have hx:=zqP hk
   have hr:(⟨bA T,1,0,0⟩:MRd)=rd T 1:=rfl
   rw [hr] at h ⊢
   generalize hX:xu (bN (bA T) 0) (rd T 1,{MMsg.zero with kind:=(bN (bA T) 0:Int)})=X at *
   have hx1:=hx.1 T 1 hT
   simp only [sw,hX] at hx1
   unfold xo at h ⊢
   split at h
   ·rename_i hc
    rw [if_pos hc]
    split at h
    ·exact absurd h (show ¬(4:Int)=0 by decide)
    ·rename_i hp
     rw [if_neg hp]
     obtain ⟨w,a1,a2,a3,a4,a5,a6,a7⟩:=hx1 hc
     refine ⟨a5,a6.1,a6.2,?_⟩
     rw [a3,zU] at hp
     have hp':¬1+w.length<T.length:=hp
     have hnil:T.drop (1+w.length)=[]:=List.drop_of_length_le (by omega)
     rw [hnil,List.append_nil] at a2
     rw [a7,←a2]
     congr 1
     cases T with
     | nil=>simp at hT
     | cons b T=>
      have hb:bN (bA (b::T)) 0=b.toNat:=by rw [zpr];rfl
      rw [hb]
      have:low b.toNat 1=[b]:=by simp [low]
      rw [this]
      rfl
   ·rename_i hc
    exact absurd h hc
  ·exact absurd h (show ¬(1:Int)=0 by decide)
theorem zlu {s:ByteArray} {m:MMsg} {c a:Int} (h:zj s=(m,c,a)) (hc:¬c=0):m=.zero:=by
 unfold zj at h
 split at h
 ·cases h;rfl
 ·split at h
  ·unfold xo at h
   split at h
   ·split at h
    ·cases h;rfl
    ·cases h;exact absurd rfl hc
   ·cases h;rfl
  ·cases h;rfl
end Go.Proofs.YtpjpkmhaffmbmaaGreat.E
