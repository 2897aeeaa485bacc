/- Plain law: what is read was written; Contracts: letters copied; the root that is read; Contracts: what comes of a letter to a client, in the reference; A client never goes back: the plain law; Contracts: bags that are ok -/
import Derived.Test.YtobpfkgabdeefaaGreatQ17
import Derived.Test.YtobpfkgabdeefaaGreatQ14
namespace Go.Proofs.YtobpfkgabdeefaaGreat.E
open Go Go.RowKit
set_option linter.unusedVariables false
set_option linter.unusedSimpArgs false
def gM {α:Type} (f:ch->α × ch) (V:α->List UInt8->Prop):Prop:=
 (∀T p,p<=T.length->(f (rd T p)).2.code=0->∃w,p+w.length<=T.length/\T.drop p=w++T.drop (p+w.length)/\(f (rd T p)).2=rd T (p+w.length)/\V (f (rd T p)).1 w)/\∀r:ch,r.code≠0->(f r).2.code≠0
theorem T1 (T:List UInt8) {p n:Nat}(h:p+n<=T.length):((T.drop p).take n).length=n/\T.drop p=(T.drop p).take n++T.drop (p+n):=by
 refine⟨by simp;omega,?_⟩;rw[<-List.drop_drop,List.take_append_drop]
theorem P0 (n:Nat):gM (fun r=>eR r n) (fun s w=>s=bA w/\w.length=n):=by
 refine⟨fun T p hp hc=>?_,fun r h=>by simp only[zh h];exact h⟩;simp only[Fa]at hc ⊢;split at hc
 ·exact absurd hc (show ¬(2:Int)=0 by decide)
 rename_i hn;rw[if_neg hn];obtain⟨h1,h2⟩:=T1 T (show p+n<=T.length by omega);exact⟨(T.drop p).take n,by rw[h1];omega,by rw[h1];exact h2,by rw[h1],rfl,h1⟩
theorem xf (n:Nat) (lo hi:Int):gM (fun r=>cV r n lo hi) (fun v w=>(lo<=v/\v<=hi/\0<=v)/\w=low v.toNat n):=by
 refine⟨fun T p hp hc=>?_,fun r h=>by simp only[JG h];exact h⟩;rcases bp T.length (p+n) with ab|bM
 ·simp only[QM (show p+n>T.length from ab)]at hc;exact absurd hc (show ¬(2:Int)=0 by decide)
 obtain⟨h1,h2⟩:=T1 T bM;simp only[QN bM]at hc ⊢;split at hc
 ·rename_i cq;rw[if_pos cq];have GD:lo<=(nv ((T.drop p).take n):Int)/\(nv ((T.drop p).take n):Int)<=hi:=by simpa[aS]using cq
  refine⟨(T.drop p).take n,by rw[h1];omega,by rw[h1];exact h2,by rw[h1],⟨GD.1,GD.2,by simp only;omega⟩,?_⟩;simp only[Int.toNat_natCast];exact(zA n _ h1).symm
 exact absurd hc (show ¬(3:Int)=0 by decide)
theorem gM.bind {α β:Type}{f:ch->α × ch}{g:α->ch->β × ch}{V:α->List UInt8->Prop}{W:α->β->List UInt8->Prop}(hf:gM f V) (hg:∀a,gM (g a) (W a)):gM (fun r=>g (f r).1 (f r).2) (fun b w=>∃a w1 w2,w=w1++w2/\V a w1/\W a b w2):=by
 refine⟨fun T p hp hc=>?_,fun r h=>(hg _).2 _ (hf.2 r h)⟩;by_cases h0:(f (rd T p)).2.code=0
 ·obtain⟨w1,a1,a2,a3,a4⟩:=hf.1 T p hp h0;simp only[a3]at hc ⊢;obtain⟨w2,b1,b2,b3,b4⟩:=(hg _).1 T _ a1 hc;refine⟨w1++w2,by rw[List.length_append];omega,?_,?_,_,w1,w2,rfl,a4,b4⟩
  ·rw[a2,b2,List.length_append,List.append_assoc,Nat.add_assoc]
  rw[b3,List.length_append,Nat.add_assoc]
 exact absurd hc ((hg _).2 _ h0)
theorem gM.mono {α:Type}{f:ch->α × ch}{V W:α->List UInt8->Prop}(h:gM f V) (k:∀a w,V a w->W a w):gM f W:=
 ⟨fun T p hp hc=>by obtain⟨w,a1,a2,a3,a4⟩:=h.1 T p hp hc;exact⟨w,a1,a2,a3,k _ _ a4⟩,h.2⟩
theorem ahD (l:List UInt8) (h:l.length=32):(qO l).bl=l/\(qO l).ok:=by
 have t:∀i,i+8<=32->kA (l.drop i) 8=nv ((l.drop i).take 8)/\((l.drop i).take 8).length=8:=fun i hi=>⟨yR 8 _ (by simp;omega),by simp;omega⟩
 obtain⟨a1,a2⟩:=t 0 (by omega);obtain⟨b1,b2⟩:=t 8 (by omega);obtain⟨c1,c2⟩:=t 16 (by omega);obtain⟨d1,d2⟩:=t 24 (by omega);rw[List.drop_zero]at a1 a2;have lt:∀x:List UInt8,x.length=8->nv x<18446744073709551616:=fun x hx=>by
  have:=aaT x;rw[hx]at this;exact Nat.lt_of_lt_of_le this (by decide)
 constructor
 ·unfold qO aX.bl aX.bk;simp only[a1,b1,c1,d1,zA 8 _ a2,zA 8 _ b2,zA 8 _ c2,zA 8 _ d2];have e0:l=l.take 8++l.drop 8:=(List.take_append_drop 8 l).symm;have e1:l.drop 8=(l.drop 8).take 8++l.drop 16:=by rw[show 16=8+8 from rfl,<-List.drop_drop,List.take_append_drop]
  have e2:l.drop 16=(l.drop 16).take 8++l.drop 24:=by rw[show 24=16+8 from rfl,<-List.drop_drop,List.take_append_drop]
  have e3:(l.drop 24).take 8=l.drop 24:=List.take_of_length_le (by simp;omega);rw[e3,List.append_assoc,List.append_assoc,<-e2,<-e1,<-e0]
 unfold qO;exact⟨by simp only[a1];exact lt _ a2,by simp only[b1];exact lt _ b2,by simp only[c1];exact lt _ c2,by simp only[d1];exact lt _ d2⟩
theorem Jl:gM jS (fun d w=>w=d.bl/\d.ok):=by
 have h:=P0 32;refine⟨fun T p hp hc=>?_,fun r hr=>h.2 r hr⟩;obtain⟨w,a1,a2,a3,a4,a5⟩:=h.1 T p hp hc;refine⟨w,a1,a2,a3,?_⟩;simp only at a4;have e:(jS (rd T p)).1=qO w:=by
  unfold jS;rw[a4];unfold rh;rw[iY,a5,if_pos rfl,r5]
 rw[e];obtain⟨h1,h2⟩:=ahD w a5;exact⟨h1.symm,h2⟩
theorem P3:gM qp (fun s w=>w=pE s/\s.size<=40):=by
 have:=gM.bind (g:=fun(v:Int) r=>eR r v.toNat) (xf 1 0 40) (fun a=>P0 a.toNat);refine this.mono ?_;rintro s w ⟨a,w1,w2,rfl,⟨⟨h1,h2,h3⟩,rfl⟩,rfl,h4⟩;unfold pE;rw[iY,r5,h4];exact⟨rfl,by omega⟩
theorem P4:∀n:Nat,gM (gC n) (fun l w=>l.length=n/\w=j5 l/\∀d∈l,d.ok)
 | 0=>⟨fun T p hp hc=>⟨[],by simpa using hp,rfl,rfl,rfl,rfl,by simp[gC]⟩,fun r h=>h⟩
 | n+1=>by
  have:=gM.bind (g:=fun(v:List aX) r=>(v++[(jS r).1],(jS r).2)) (W:=fun a b w=>∃d,b=a++[d]/\w=d.bl/\d.ok) (P4 n)
   (fun a=>⟨fun T p hp hc=>by obtain⟨w,a1,a2,a3,a4⟩:=Jl.1 T p hp hc;exact⟨w,a1,a2,a3,_,rfl,a4⟩,Jl.2⟩)
  refine gM.mono this ?_;rintro l w ⟨a,w1,w2,rfl,⟨h1,rfl,h2⟩,d,rfl,rfl,h3⟩;refine⟨by simp[h1],by simp[j5],fun x hx=>?_⟩;rcases List.mem_append.1 hx with hx|hx
  ·exact h2 x hx
  rw[List.mem_singleton.1 hx];exact h3
theorem P2:∀n:Nat,gM (fq n) (fun l w=>l.length=n/\w=jx l/\ec l=true)
 | 0=>⟨fun T p hp hc=>⟨[],by simpa using hp,rfl,rfl,rfl,rfl,rfl⟩,fun r h=>h⟩
 | n+1=>by
  have:=gM.bind (g:=fun(v:List ByteArray) r=>(v++[(qp r).1],(qp r).2)) (W:=fun a b w=>∃d,b=a++[d]/\w=pE d/\d.size<=40) (P2 n)
   (fun a=>⟨fun T p hp hc=>by obtain⟨w,a1,a2,a3,a4⟩:=P3.1 T p hp hc;exact⟨w,a1,a2,a3,_,rfl,a4⟩,P3.2⟩)
  refine gM.mono this ?_;rintro l w ⟨a,w1,w2,rfl,⟨h1,rfl,h2⟩,d,rfl,rfl,h3⟩;refine⟨by simp[h1],by simp[jx],?_⟩;simp only[ec,List.all_append,List.all_cons,List.all_nil,Bool.and_true,Bool.and_eq_true,decide_eq_true_eq]at h2 ⊢;exact⟨h2,h3⟩
def lB (p:ch × aJ->ch × aJ) (V:aJ->aJ->List UInt8->Prop):Prop:=∀m0,gM (fun r=>sw (p (r,m0))) (V m0)
theorem lB.seq {p q:ch × aJ->ch × aJ}{V W:aJ->aJ->List UInt8->Prop}(h:lB p V) (k:lB q W):lB (fun x=>q (p x)) (fun m0 m w=>∃m1 w1 w2,w=w1++w2/\V m0 m1 w1/\W m1 m w2):=
 fun m0=>gM.bind (g:=fun m r=>sw (q (r,m))) (h m0) (fun a=>k a)
theorem lB.of {α:Type}{f:ch->α × ch}{V:α->List UInt8->Prop}(h:gM f V) (u:α->aJ->aJ):lB (fun x=>((f x.1).2,u (f x.1).1 x.2)) (fun m0 m w=>∃a,m=u a m0/\V a w):=
 fun m0=>⟨fun T p hp hc=>by obtain⟨w,a1,a2,a3,a4⟩:=h.1 T p hp hc;exact⟨w,a1,a2,a3,_,rfl,a4⟩,h.2⟩
theorem ET:lB pS (fun m0 m w=>∃v:Int,m={m0 with bU:=v}/\(1<=v/\v<=1000000/\0<=v)/\w=low v.toNat 3):=lB.of (xf 3 1 1000000) (fun v m=>{m with bU:=v})
theorem EU:lB pF (fun m0 m w=>∃v:Int,m={m0 with from_:=v}/\(0<=v/\v<=256/\0<=v)/\w=low v.toNat 2):=lB.of (xf 2 0 256) (fun v m=>{m with from_:=v})
theorem Bo:lB pZ (fun m0 m w=>∃v:Int,m={m0 with size:=v}/\(0<=v/\v<=256/\0<=v)/\w=low v.toNat 2):=lB.of (xf 2 0 256) (fun v m=>{m with size:=v})
theorem Zi:lB pC (fun m0 m w=>∃v:Int,m={m0 with count:=v}/\(1<=v/\v<=8/\0<=v)/\w=low v.toNat 1):=lB.of (xf 1 1 8) (fun v m=>{m with count:=v})
theorem Ja:lB pR (fun m0 m w=>∃d:aX,m={m0 with root:=d}/\w=d.bl/\d.ok):=lB.of Jl (fun v m=>{m with root:=v})
theorem Zg:lB pP (fun m0 m w=>∃l:List aX,m={m0 with proof:=l}/\l.length<=16/\w=low l.length 1++j5 l/\∀d∈l,d.ok):=by
 have:=lB.of (gM.bind (g:=fun(v:Int) r=>gC v.toNat r) (xf 1 0 16) (fun a=>P4 a.toNat)) (fun v m=>{m with proof:=v});intro m0;refine(this m0).mono ?_;rintro m w ⟨l,rfl,a,w1,w2,rfl,⟨⟨h1,h2,h3⟩,rfl⟩,h4,rfl,h5⟩;exact⟨l,rfl,by omega,by rw[h4],h5⟩
theorem Zh:lB pL (fun m0 m w=>∃l:List ByteArray,m={m0 with az:=l}/\l.length<=8/\w=low l.length 1++jx l/\ec l=true):=by
 have:=lB.of (gM.bind (g:=fun(v:Int) r=>fq v.toNat r) (xf 1 0 8) (fun a=>P2 a.toNat)) (fun v m=>{m with az:=v});intro m0;refine(this m0).mono ?_;rintro m w ⟨l,rfl,a,w1,w2,rfl,⟨⟨h1,h2,h3⟩,rfl⟩,h4,rfl,h5⟩;exact⟨l,rfl,by omega,by rw[h4],h5⟩
theorem abh {k:Nat}(hk:1<=k/\k<=8):gM (fun r=>sw (mP k (r,{aJ.zero with kind:=k}))) (fun m w=>m.kind=k/\fi m=true/\(m.root.ok/\∀d∈m.proof,d.ok)/\gO m=low k 1++w):=by
 have z0:aJ.zero.root.ok:=pX;have IS:∀K:Nat,(K=2\/K=3\/K=6)->∀(m:aJ) (w:List UInt8),(∃(m1:aJ) (w1 w2:List UInt8),w=w1++w2/\(∃v:Int,m1={{aJ.zero with kind:=(K:Int)} with bU:=v}/\(1<=v/\v<=1000000/\0<=v)/\w1=low v.toNat 3)/\∃(m2:aJ) (w3 w4:List UInt8),w2=w3++w4/\(∃v:Int,m2={m1 with size:=v}/\(0<=v/\v<=256/\0<=v)/\w3=low v.toNat 2)/\∃d:aX,m={m2 with root:=d}/\w4=d.bl/\d.ok)->m.kind=(K:Int)/\fi m=true/\(m.root.ok/\∀d∈m.proof,d.ok)/\gO m=low K 1++w:=by
  rintro K hK m w ⟨m1,w1,w2,rfl,⟨v,rfl,hv,rfl⟩,m2,w3,w4,rfl,⟨v2,rfl,dH,rfl⟩,d,rfl,rfl,hd⟩;refine⟨rfl,?_,⟨hd,by simp[aJ.zero]⟩,?_⟩
  ·rcases hK with rfl|rfl|rfl
   ·exact aaI ⟨hv.1,hv.2.1⟩ ⟨dH.1,dH.2.1⟩
   ·exact aaH ⟨hv.1,hv.2.1⟩ ⟨dH.1,dH.2.1⟩
   exact QG ⟨hv.1,hv.2.1⟩ ⟨dH.1,dH.2.1⟩
  rcases hK with rfl|rfl|rfl<;>simp[gO,bK,bS,bZ,aJ.zero]
 have bV:k=1\/k=2\/k=3\/k=4\/k=5\/k=6\/k=7\/k=8:=by omega
 rcases bV with rfl|rfl|rfl|rfl|rfl|rfl|rfl|rfl
 ·refine gM.mono (ET _) ?_;rintro m w ⟨v,rfl,hv,rfl⟩;exact⟨rfl,aaJ ⟨hv.1,hv.2.1⟩,⟨z0,by simp[aJ.zero]⟩,by simp[gO,bK,bS,aJ.zero]⟩
 ·exact gM.mono ((ET.seq (Bo.seq Ja)) _) (IS 2 (by omega))
 ·exact gM.mono ((ET.seq (Bo.seq Ja)) _) (IS 3 (by omega))
 ·refine gM.mono ((EU.seq Bo) _) ?_;rintro m w ⟨m1,w1,w2,rfl,⟨v,rfl,hv,rfl⟩,v2,rfl,dH,rfl⟩;exact⟨rfl,QH ⟨hv.1,hv.2.1⟩ ⟨dH.1,dH.2.1⟩,⟨z0,by simp[aJ.zero]⟩,by simp[gO,bK,bF,bZ,aJ.zero]⟩
 ·refine gM.mono ((EU.seq (Bo.seq Zg)) _) ?_;rintro m w ⟨m1,w1,w2,rfl,⟨v,rfl,hv,rfl⟩,m2,w3,w4,rfl,⟨v2,rfl,dH,rfl⟩,l,rfl,hl,rfl,hd⟩;exact⟨rfl,aaK ⟨hv.1,hv.2.1⟩ ⟨dH.1,dH.2.1⟩ hl,⟨z0,hd⟩,by simp[gO,bK,bF,bZ,bP,aJ.zero]⟩
 ·exact gM.mono ((ET.seq (Bo.seq Ja)) _) (IS 6 (by omega))
 ·refine gM.mono ((EU.seq Zi) _) ?_;rintro m w ⟨m1,w1,w2,rfl,⟨v,rfl,hv,rfl⟩,v2,rfl,dH,rfl⟩;exact⟨rfl,aaM ⟨hv.1,hv.2.1⟩ ⟨dH.1,dH.2.1⟩,⟨z0,by simp[aJ.zero]⟩,by simp[gO,bK,bF,bC,aJ.zero]⟩
 refine gM.mono ((EU.seq Zh) _) ?_;rintro m w ⟨m1,w1,w2,rfl,⟨v,rfl,hv,rfl⟩,l,rfl,hl,rfl,hd⟩;exact⟨rfl,aaL ⟨hv.1,hv.2.1⟩ hl hd,⟨z0,by simp[aJ.zero]⟩,by simp[gO,bK,bF,yG,aJ.zero]⟩
theorem wI (s:ByteArray) (h:(cf s).2.1=0):fi (cf s).1=true/\(cf s).1.root.ok/\(∀d∈(cf s).1.proof,d.ok)/\bA (gO (cf s).1)=s:=by
 obtain⟨T,rfl⟩:∃T,s=bA T:=⟨_,HV s⟩;unfold cf at h ⊢;split at h
 ·exact absurd h (show ¬(2:Int)=0 by decide)
 rename_i h0;rw[if_neg h0];split at h
 ·rename_i hk;rw[if_pos hk];have hT:1<=T.length:=by rw[iY]at h0;omega
  have hx:=abh hk;have hr:(⟨bA T,1,0,0⟩:ch)=rd T 1:=rfl;rw[hr]at h ⊢;generalize hX:mP (bN (bA T) 0) (rd T 1,{aJ.zero with kind:=(bN (bA T) 0:Int)})=X at *;have fQ:=hx.1 T 1 hT;simp only[sw,hX]at fQ;unfold ek at h ⊢;split at h
  ·rename_i hc;rw[if_pos hc];split at h
   ·exact absurd h (show ¬(4:Int)=0 by decide)
   rename_i hp;rw[if_neg hp];obtain⟨w,a1,a2,a3,a4,a5,a6,a7⟩:=fQ hc;refine⟨a5,a6.1,a6.2,?_⟩;rw[a3,iY]at hp;have jy:¬1+w.length<T.length:=hp;have ac7:T.drop (1+w.length)=[]:=List.drop_of_length_le (by omega);rw[ac7,List.append_nil]at a2;rw[a7,<-a2];congr 1;cases T with
   | nil=>simp at hT
   | cons b T=>
    have hb:bN (bA (b::T)) 0=b.toNat:=by rw[Nl];rfl
    rw[hb];have:low b.toNat 1=[b]:=by simp[low]
    rw[this];rfl
  rename_i hc;exact absurd h hc
 exact absurd h (show ¬(1:Int)=0 by decide)
theorem Od {s:ByteArray}{m:aJ}{c a:Int}(h:cf s=(m,c,a)) (hc:¬c=0):m=.zero:=by
 unfold cf at h;split at h
 ·cases h;rfl
 split at h
 ·unfold ek at h;split at h
  ·split at h
   ·cases h;rfl
   cases h;exact absurd rfl hc
  cases h;rfl
 cases h;rfl
section
set_option maxHeartbeats 4000000
set_option maxRecDepth 10000
set_option linter.unusedSectionVars false
def aff:cc:=⟨[],cw,cz,false⟩
theorem aC.wide (l:List aC):fN 3 (l.map aC.cs)=true:=by
 induction l with
 | nil=>rfl
 | cons a l ih=>simp only[List.map_cons,fN,ih,aC.cs];rfl
theorem aC.flat (l:List aC):dJ (l.map aC.cs)=2:=by
 induction l with
 | nil=>rfl
 | cons a l ih=>simp only[List.map_cons,dJ,ih,aC.cs];rfl
attribute [go_sem] aC.wide aC.flat
theorem pe (l:List aC) (hl:l.length * 32<=140737488355328):ba Tryz.prog 126 [.ro 3 (l.map aC.cs)] (.aw 0 0 [] 3 0 l.length) [([],⟨3,l.map aC.cs,2,false⟩)]:=by
 refine aF aff false Tryz.f126 ?_;conv=>enter[1];reduce
 refine bu Tryz.f126 14 [.tmp 2] (by kernel_rfl) (by decide +kernel) rfl ?_;refine au ?_;refine bX (fun h=>?_) (fun h=>?_)
 ·have:l=[]:=by simpa using h
  subst this;exact dy
 have hm:=pA hl (by omega);have jz:((32:Nat):Int) * (l.length:Int)<=281474976710656/\(l.length:Int)<=9223372036854775807:=by unfold maxLen at hm;omega
 exact uO h jz
theorem Mn:ba Tryz.prog 126 [.aG] (.aw 0 0 [] 3 0 0) [([],⟨3,[],2,false⟩)]:=
 (pe [] (by simp)).arg fun rd vs h=>by
  obtain⟨v,us,rfl,hr,hp⟩:=h.kV;have:us=[]:=List.eq_nil_of_length_eq_zero hp.1.symm;subst this;exact PW.cons (hr.wk (.inr ⟨rfl,3,rfl⟩)) PW.nil
theorem J7 {s:ByteArray}:(cf s).1.root.ok:=by
 generalize hW:cf s=W;obtain⟨m,c,a⟩:=W;by_cases hc:c=0
 ·have:=wI s;rw[hW]at this;exact(this hc).2.1
 have:=Od hW hc;subst this;exact pX
end
section
set_option maxHeartbeats 4000000
set_option maxRecDepth 10000
set_option linter.unusedSectionVars false
def afc:cc:=⟨[(242,.cm [false,false,false]),(243,.cm [false,false]),(244,.cm [false])],cw,cz,false⟩
def bw.zero:bw:=⟨0,0,0,0,.zero,[],.zero⟩
def cW.zero:cW:=⟨.zero,[],[],[]⟩
def jc (c:bw) (me:Int) (l:aC):Bool:=dG c&&(aS me 1 20&&df l)
def vH (c:bw) (l:aC) (W:aJ × Int × Int):Bool:=(W.2.1==0)&&((W.1.kind==2)&&((l.from_==0)&&((c.phase==1)&&(W.1.bU==c.bU))))
def sX (c:bw) (l:aC) (W:aJ × Int × Int):Bool:=((W.2.1==0)&&((W.1.kind==6)&&(aS l.from_ 1 c.many&&((c.phase==2)&&(W.1.bU==c.bU)))))&&qN ⟨W.1.size,W.1.root⟩ c.goal
def jH (c:bw) (me:Int) (l:aC):cW:=
 if jc c me l then(if vH c l (cf l.text) then qq c me ⟨(cf l.text).1.size,(cf l.text).1.root⟩ else if sX c l (cf l.text) then qt c l.from_ else .base c) else .zero
theorem rT {c:bw}(h:dG c=true):c.many<=100/\c.bj.length<=100:=by
 simp only[dG,Bool.and_eq_true]at h;obtain⟨h1,h2,h3,h4,h5,h6⟩:=h;have k1:=cr.1 h1;have k2:=cr.1 h2;refine⟨by omega,?_⟩;split at h6
 ·simp only[Bool.and_eq_true,beq_iff_eq]at h6;omega
 simp only[Bool.and_eq_true,decide_eq_true_eq]at h6;omega
theorem VA (c:bw) (me:Int) (l:aC) (hl:c.bj.length<=maxLen):aY Tryz.prog 189 [] [c.ro,vI me,.agg l.cs] (jH c me l).tt (jH c me l).sA:=by
 refine aF afc false Tryz.f189 ?_;conv=>enter[1];reduce
 refine bI Tryz.f189 102 [.cell 6 206] (by kernel_rfl) (by decide +kernel) rfl ?_;unfold jH;cases aI:jc c me l with
 | false=>
  rw[if_neg (by simp)];simp -implicitDefEqProofs only[go_sem]
  repeat' first|(refine aq.intro (by first|exact we c hl|exact wg me|exact wc l) ?_;try simp -implicitDefEqProofs only[go_sem,aT,aV])|(refine aE.intro (by first|exact we c hl|exact wg me|exact wc l) ?_;try simp -implicitDefEqProofs only[go_sem,aT,aV])|(refine fv (fun h=>?_) (fun h=>?_)<;>try simp -implicitDefEqProofs only[go_sem,aT,aV,h])|(refine bX (fun h=>?_) (fun h=>?_)<;>try simp -implicitDefEqProofs only[go_sem,aT,aV,h])
  all_goals first
   | exact⟨rfl,rfl⟩
   | (exfalso;simp_all[jc];done)
 | true=>
  rw[if_pos rfl];simp only[jc,Bool.and_eq_true]at aI;obtain⟨o1,o2,o3⟩:=aI;obtain⟨pJ,lV⟩:=rT o1;have dv:l.text.size<=600:=by
   simp only[df,Bool.and_eq_true,decide_eq_true_eq]at o3;omega
  have hS:=Dw l.text (by omega);have Gr:=J7 (s:=l.text);generalize cf l.text=W at *;obtain⟨m,code,a⟩:=W;refine au ?_;refine aq.intro (we c hl) ?_;refine uM o1 ?_;refine aq.intro (wg me) ?_;refine uM o2 ?_;refine aq.intro (wc l) ?_;refine uM o3 ?_;refine aq.intro hS ?_;cases k0:(code==0)<;>cases ks:(m.bU==c.bU);all_goals simp -implicitDefEqProofs only[go_sem,k0,ks]
  all_goals repeat' first|(refine aq.intro (by first|exact fG _ _ _|exact Vj c me m lV pJ Gr|exact Vi c l.from_ lV|exact Ao c lV) ?_;try simp -implicitDefEqProofs only[go_sem,k0,ks,aT,aV,eC,bW,eD,fg])|(refine aE.intro (by first|exact fG _ _ _|exact Vj c me m lV pJ Gr|exact Vi c l.from_ lV|exact Ao c lV) ?_;try simp -implicitDefEqProofs only[go_sem,k0,ks,aT,aV,eC,bW,eD,fg])|(refine fv (fun h=>?_) (fun h=>?_)<;>try simp -implicitDefEqProofs only[go_sem,k0,ks,aT,aV,eC,bW,eD,fg,h])|(refine bX (fun h=>?_) (fun h=>?_)<;>try simp -implicitDefEqProofs only[go_sem,k0,ks,aT,aV,eC,bW,eD,fg,h])
  all_goals clear hS
  all_goals first
   | (rw[if_neg (by simp_all[vH];done),if_neg (by simp_all[sX,qN];done)];first|exact⟨rfl,rfl⟩|rfl)
   | (rw[if_pos (by simp_all[vH];done)];first|exact⟨rfl,rfl⟩|rfl)
   | (rw[if_neg (by simp_all[vH];done),if_pos (by simp_all[sX,qN];done)];first|exact⟨rfl,rfl⟩|rfl)
   | (exfalso;simp_all;done)
   | (exfalso;simp_all;omega)
end
structure Kept (c:bw) (me:Int) (t:cW):Prop where
 ok:dG t.cl=true
 aP:c.aP.size<=t.cl.aP.size
 s:t.cl.bU=c.bU
 acc:(t.acc=[]/\t.cl.aP=c.aP)\/(t.acc=[c.goal]/\t.cl.aP=c.goal/\c.aP.size<c.goal.size/\(c.bj.length:Int)+1=c.eH)
 RZ:t.bR=[]\/(t.bR=(List.range c.many.toNat).map (fun i:Nat=>aC.mk me ((i:Int)+1) (gy (zy c t.cl.goal)))/\(1<=c.bU/\c.bU<=1000000)/\(1<=t.cl.goal.size/\t.cl.goal.size<=256)/\t.cl.goal.root.ok)
theorem vN {a b:cg}:eu a b=true<->a=b:=by
 obtain⟨s,⟨x,y,z,u⟩⟩:=a;obtain⟨s',⟨x',y',z',u'⟩⟩:=b;simp only[eu,Bool.and_eq_true,beq_iff_eq,cg.mk.injEq,aX.mk.injEq];omega
structure NQ (c:bw):Prop where
 m:1<=c.many/\c.many<=7
 n:1<=c.eH/\c.eH<=c.many
 t:c.many<2 * c.eH
 s:0<=c.bU/\c.bU<=1000000
 p:lL c.aP=true
 z:0<=c.aP.size/\c.aP.size<=256
theorem Am {c:bw}(h:dG c=true):NQ c:=by
 simp only[dG,Bool.and_eq_true,decide_eq_true_eq,cr]at h;exact⟨h.1,h.2.1,h.2.2.1,h.2.2.2.1,h.2.2.2.2.1,(FV h.2.2.2.2.1).2⟩
theorem aft {c:bw}(h:dG c=true) (hp:c.phase=1):c.goal=.zero/\c.bj=[]/\1<=c.bU:=by
 simp only[dG,Bool.and_eq_true,decide_eq_true_eq,cr,hp,or_true,if_true,beq_iff_eq,vN]at h;exact⟨h.2.2.2.2.2.1,List.eq_nil_of_length_eq_zero h.2.2.2.2.2.2.1,h.2.2.2.2.2.2.2⟩
theorem afs {c:bw}(h:dG c=true) (hp:c.phase=2):1<=c.bU/\(c.aP.size+1<=c.goal.size/\c.goal.size<=256)/\(c.bj.length:Int)<c.eH/\qa c.many c.bj=true:=by
 have e:¬(c.phase=0\/c.phase=1):=by omega
 simp only[dG,Bool.and_eq_true,decide_eq_true_eq,cr,e,if_false]at h;exact⟨h.2.2.2.2.2.2.1,h.2.2.2.2.2.2.2.1,h.2.2.2.2.2.2.2.2.1,h.2.2.2.2.2.2.2.2.2⟩
theorem UG {c:bw}(h:NQ c) (hp:c.phase=0) (hg:c.goal=.zero) (ha:c.bj=[]):dG c=true:=by
 simp only[dG,Bool.and_eq_true,decide_eq_true_eq,cr,hp,true_or,if_true,beq_iff_eq,vN,ha,List.length_nil];exact⟨h.m,h.n,h.t,h.s,h.p,hg,trivial,h.s.1⟩
theorem UF {c:bw}(h:NQ c) (hp:c.phase=2) (h1:1<=c.bU) (h2:c.aP.size+1<=c.goal.size/\c.goal.size<=256) (h3:(c.bj.length:Int)<c.eH) (h4:qa c.many c.bj=true):dG c=true:=by
 have e:¬(c.phase=0\/c.phase=1):=by omega
 simp only[dG,Bool.and_eq_true,decide_eq_true_eq,cr,e,if_false];exact⟨h.m,h.n,h.t,h.s,h.p,hp,h1,h2,h3,h4⟩
theorem Sc {c:bw}{me:Int}(h:dG c=true):Kept c me (.base c):=⟨h,Int.le_refl _,rfl,.inl ⟨rfl,rfl⟩,.inl rfl⟩
theorem acf {c:bw}{me:Int}{p:cg}(h:dG c=true) (hp:c.phase=1) (hz:0<=p.size/\p.size<=256) (hr:p.root.ok):Kept c me (qq c me p):=by
 have k:=Am h;obtain⟨hg,ha,hs⟩:=aft h hp;unfold qq;split
 ·exact Sc h
 rename_i h1;split
 ·exact⟨h,Int.le_refl _,rfl,.inl ⟨rfl,rfl⟩,.inl rfl⟩
 rename_i h2;have e1:p.size≠0:=fun e=>h1 (.inl e)
 have e2:¬p.size<c.aP.size:=fun e=>h1 (.inr (.inl e))
 have hn:=k.n;refine⟨?_,Int.le_refl _,rfl,.inl ⟨rfl,rfl⟩,.inr ⟨rfl,⟨hs,k.s.2⟩,⟨by show 1<=p.size;omega,hz.2⟩,hr⟩⟩;refine UF ⟨k.m,k.n,k.t,k.s,k.p,k.z⟩ rfl hs ⟨by show c.aP.size+1<=p.size;omega,hz.2⟩ ?_ ?_
 ·show(c.bj.length:Int)<c.eH
  rw[ha];simp;omega
 show qa c.many c.bj=true
 rw[ha];rfl
theorem acg {c:bw}{me w:Int}(h:dG c=true) (hp:c.phase=2) (hw:1<=w/\w<=c.many):Kept c me (qt c w):=by
 have k:=Am h;obtain⟨hs,hg,ha,hb⟩:=afs h hp;have hl:=ah4 (w:=w) (WD hb).1;have kz:=k.z;unfold qt;split
 ·rename_i h1;exact⟨UF ⟨k.m,k.n,k.t,k.s,k.p,k.z⟩ hp hs hg h1 (ah3 hb hw),Int.le_refl _,rfl,.inl ⟨rfl,rfl⟩,.inl rfl⟩
 rename_i h1;refine⟨?_,by show c.aP.size<=c.goal.size;omega,rfl,.inr ⟨rfl,rfl,by omega,by omega⟩,.inl rfl⟩;refine UG ⟨k.m,k.n,k.t,k.s,?_,by show 0<=c.goal.size/\c.goal.size<=256;omega⟩ rfl rfl rfl;show lL c.goal=true
 unfold lL;rw[cr.2 (by omega),Bool.true_or]
theorem xA {c:bw}{me:Int}{l:aC}(h:jc c me l=true):Kept c me (jH c me l):=by
 have hc:dG c=true:=by simp only[jc,Bool.and_eq_true]at h;exact h.1
 unfold jH;rw[if_pos h];split
 ·rename_i h1;simp only[vH,Bool.and_eq_true,beq_iff_eq]at h1;have hw:=wI l.text h1.1;exact acf hc h1.2.2.2.1 (nR.of hw.1).z hw.2.1
 split
 ·rename_i h1;simp only[sX,Bool.and_eq_true,beq_iff_eq,cr]at h1;exact acg hc h1.1.2.2.2.1 h1.1.2.2.1
 exact Sc hc
section
set_option maxHeartbeats 4000000
set_option maxRecDepth 10000
set_option linter.unusedSectionVars false
def vV:cc:=⟨[(127,.cm [false]),(180,.cm [false])],cw,cz,false⟩
structure nk (room:Int) (l:List aC):Prop where
 r:1<=room/\room<=64
 len:(l.length:Int)<=room
 o:∀x∈l,df x=true
theorem nk.n {room:Int}{l:List aC}(h:nk room l):l.length<=64:=by
 have:=h.r;have:=h.len;omega
def iL (room:Int) (l:List aC):AV:=.agg [vI room,.ro 3 (l.map aC.cs)]
attribute [go_sem] iL
theorem DD {room:Int}{l:List aC}(h:nk room l):ba Tryz.prog 159 [iL room l] (vB true) []:=by
 refine aF vV false Tryz.f159 ?_;conv=>enter[1];reduce
 refine bu Tryz.f159 27 [.tmp 2] (by kernel_rfl) (by decide +kernel) rfl ?_;have hn:=h.n;have hl:l.length<=maxLen:=by unfold maxLen;omega
 have hr:aS room 1 64=true:=cr.2 h.r;have hle:(l.length:Int)<=room:=h.len;refine au ?_;refine dq (fun m s=>∃i:Nat,i<=l.length/\m=l.length - i/\s=⟨27,[(1,.ptr 1 0 [] 2 0 0),(6,.ro 3 (l.map aC.cs)),(7,vI l.length),(8,vI i)],[(1,0,one ⟨2,[[vI room,.ro 3 (l.map aC.cs)]],0,false⟩)],1⟩) l.length ?_ ?_
 ·refine au ?_;exact⟨0,aR _,rfl,rfl⟩
 rintro m s ⟨i,hi,rfl,rfl⟩;rcases bp i l.length with ab|bM
 ·have ah:(i:Int)<(l.length:Int):=by omega
  have hg:l[i]?=some l[i]:=bm ab;have hw:=dx ab hl;have ho:=h.o _ (List.getElem_mem ab);refine eV ah hg hw ?_;refine aq.intro (wh l[i]) ?_;rw[ho];refine aA hw ?_;exact⟨_,by omega,i+1,ab,rfl,rfl⟩
 have hi:i=l.length:=by omega
 subst hi;have ah:¬((l.length:Int)<(l.length:Int)):=by omega
 refine aA ah ?_;refine aq.intro (dQ _ _ _) ?_;rw[hr];exact eE hle
theorem yA {room:Int}{l:List aC}(h:nk room l):ba Tryz.prog 35 [iL room l] (vB true) []:=by
 refine aF vV false Tryz.f35 ?_;conv=>enter[1];reduce
 refine bu Tryz.f35 30 [.tmp 2] (by kernel_rfl) (by decide +kernel) rfl ?_;have hn:=h.n;have hl:l.length<=maxLen:=by unfold maxLen;omega
 have hr:aS room 1 64=true:=cr.2 h.r;have hle:¬((l.length:Int)>room):=by have:=h.len;omega
 refine au ?_;refine aq.intro (fG _ _ _) ?_;rw[hr];refine aA hle ?_;refine dq (fun m s=>∃i:Nat,i<=l.length/\m=l.length - i/\s=⟨30,[(1,.ptr 1 0 [] 2 0 0),(3,vI i)],[(1,0,one ⟨2,[[vI room,.ro 3 (l.map aC.cs)]],0,false⟩)],1⟩) l.length ?_ ?_
 ·refine au ?_;exact⟨0,aR _,rfl,rfl⟩
 rintro m s ⟨i,hi,rfl,rfl⟩;rcases bp i l.length with ab|bM
 ·have ah:(i:Int)<(l.length:Int):=by omega
  have hg:l[i]?=some l[i]:=bm ab;have hw:=dx ab hl;have ho:=h.o _ (List.getElem_mem ab);refine eV ah hg hw ?_;refine aq.intro (wc l[i]) ?_;rw[ho];refine aA hw ?_;exact⟨_,by omega,i+1,ab,rfl,rfl⟩
 have hi:i=l.length:=by omega
 subst hi;have ah:¬((l.length:Int)<(l.length:Int)):=by omega
 exact eE ah
def Wo (room:Int) (l:List aC):AV:=.agg [vI room,.aw 0 0 [] 3 0 l.length]
def Wn (l:List aC):ak:=[(0,0,one ⟨3,l.map aC.cs,2,false⟩)]
attribute [go_sem] Wo Wn
theorem tZ (l:List aC) (h:l.length<=1000):∀x,(l.map aC.cs++[x]).length<=maxLen/\(l.map aC.cs++[x]).length * 32<=140737488355328:=fun x=>ed (E:=aC.cs) (l:=l) (xs:=[x]) (b:=32) (n:=1001) (by simp;omega) (by omega) (by omega)
theorem wm (room:Int) (l:List aC) (h:l.length<=1000):aY Tryz.prog 127 [] [iL room l] (iL room l) []:=by
 refine aF vV false Tryz.f127 ?_;conv=>enter[1];reduce
 refine bI Tryz.f127 9 [.cell 2 61] (by kernel_rfl) (by decide +kernel) rfl ?_;refine au ?_;refine aq.intro (pe l (by omega)) ?_;exact dy
theorem HI (room:Int) (l:List aC) (h:l.length<=1000):aY Tryz.prog 180 [] [iL room l] (Wo room l) (Wn l):=by
 refine aF vV false Tryz.f180 ?_;conv=>enter[1];reduce
 refine bI Tryz.f180 26 [.cell 2 61] (by kernel_rfl) (by decide +kernel) rfl ?_;have hl:l.length<=maxLen:=by unfold maxLen;omega
 refine au ?_;refine mj [(2003,3)] (fun m s=>∃i:Nat,i<=l.length/\m=l.length - i/\s=⟨26,[(1,.ptr 1 0 [] 2 0 0),(2,.ptr 2 0 [] 2 0 0),(3,.ptr 3 0 [] 2 0 0),(4,vI i)],[(1,0,one ⟨2,[[vI room,.ro 3 (l.map aC.cs)]],0,false⟩),(2,0,one ⟨2,[[vI 0,.aG]],0,false⟩),(3,0,one ⟨2,[[vI room,.aw 10003 0 [] 3 0 (l.take i).length]],0,false⟩),(10003,0,one ⟨3,(l.take i).map aC.cs,2,false⟩)],1⟩) l.length ?_ ?_
 ·refine au ?_;exact⟨0,aR _,rfl,rfl⟩
 rintro m s ⟨i,hi,rfl,rfl⟩;rcases bp i l.length with ab|bM
 ·have ah:(i:Int)<(l.length:Int):=by omega
  have hg:l[i]?=some l[i]:=bm ab;have hw:=dx ab hl;have ha:=tZ (l.take i) (by rw[List.length_take];omega);have ht:l.take (i+1)=l.take i++[l[i]]:=List.take_succ_eq_append_getElem ab;refine dP ah hg hw ha ?_;refine⟨_,by omega,i+1,ab,rfl,?_⟩;rw[ht];simp only[gj,aC.cs];try rfl
 have hi:i=l.length:=by omega
 subst hi;have ah:¬((l.length:Int)<(l.length:Int)):=by omega
 exact uN ah
def mh (room:Int) (l:List aC) (x:aC):List aC:=if (l.length:Int)>=room then l else l++[x]
theorem nk.send {room:Int}{l:List aC}(h:nk room l) {x:aC}(hx:df x=true):nk room (mh room l x):=by
 have:=h.len;unfold mh;split
 ·exact h
 rename_i hn;refine⟨h.r,by rw[List.length_append];show((_+1:Nat):Int)<=room;omega,fun y hy=>?_⟩;rcases List.mem_append.1 hy with hy|hy
 ·exact h.o y hy
 rw[List.mem_singleton.1 hy];exact hx
theorem agw {room:Int}{l:List aC}(h:nk room l) {x:aC}(hx:df x=true):aY Tryz.prog 212 [] [iL room l,.agg x.cs] (.aZ [iL room (mh room l x),vB (!decide ((l.length:Int)>=room))]) []:=by
 refine aF vV false Tryz.f212 ?_;conv=>enter[1];reduce
 refine bI Tryz.f212 33 [.cell 4 61,.tmp 5] (by kernel_rfl) (by decide +kernel) rfl ?_;have hn:=h.n;have ha:=tZ l (by omega);refine au ?_;refine cT (DD h) ?_;refine aq.intro (wh x) ?_;rw[hx];refine au ?_;by_cases hr:(l.length:Int)>=room
 ·have e:mh room l x=l:=if_pos hr;rw[e];refine aA hr ?_;refine aE.intro (wm room l (by omega)) ?_;exact eE hr
 have e:mh room l x=l++[x]:=if_neg hr;rw[e];refine aA hr ?_;refine jj (pe l (by omega)) ha ?_;have hc:=wm room (l++[x]) (by rw[List.length_append];show _+1<=_;omega);simp only[iL,List.map_append,List.map_cons,List.map_nil]at hc;refine aE.intro hc ?_;simp -implicitDefEqProofs only[go_sem,hr,List.map_append,List.map_cons,List.map_nil]
theorem agp {room:Int}{l:List aC}(h:nk room l) {x:aC}(hx:df x=true):aY Tryz.prog 235 [] [iL room l,.agg x.cs] (.aZ [iL room (mh room l x),vB (!decide ((l.length:Int)>=room))]) []:=by
 refine aF vV false Tryz.f235 ?_;conv=>enter[1];reduce
 refine bI Tryz.f235 32 [.cell 4 61,.tmp 5] (by kernel_rfl) (by decide +kernel) rfl ?_;have hn:=h.n;have ha:=tZ l (by omega);refine au ?_;refine cT (yA h) ?_;refine aq.intro (wc x) ?_;rw[hx];refine au ?_;refine ep (HI room l (by omega)) ?_;by_cases hr:(l.length:Int)>=room
 ·have e:mh room l x=l:=if_pos hr;rw[e];exact eE hr
 have e:mh room l x=l++[x]:=if_neg hr;rw[e];simp -implicitDefEqProofs only[go_sem,hr,ha,List.map_append,List.map_cons,List.map_nil]
def eP (k:Int) (n:Nat):Nat:=((k.tmod n+n).tmod n).toNat
theorem Re {k:Int}{n:Nat}(h0:0<n) (h:n<=1000):IntKind.i64.wrap (k.tmod n)=k.tmod n/\IntKind.i64.wrap (k.tmod n+n)=k.tmod n+n/\IntKind.i64.wrap ((k.tmod n+n).tmod n)=(k.tmod n+n).tmod n/\(k.tmod n+n).tmod n=(eP k n:Int):=by
 have h1:=Int.tmod_lt_of_pos k (show(0:Int)<n by omega);have h2:=Int.lt_tmod_of_pos k (show(0:Int)<n by omega);have h3:0<=(k.tmod n+n).tmod n:=Int.tmod_nonneg _ (by omega);have h4:=Int.tmod_lt_of_pos (k.tmod n+n) (show(0:Int)<n by omega);refine⟨aN (by omega),aN (by omega),aN (by omega),?_⟩;unfold eP;omega
theorem M3 (k:Int) (n:Nat) (h0:0<n) (h:n<=1000):ba Tryz.prog 114 [vI k,vI n] (vI (eP k n:Nat)) []:=by
 refine aF vV false Tryz.f114 ?_;conv=>enter[1];reduce
 refine bu Tryz.f114 12 [.tmp 4] (by kernel_rfl) (by decide +kernel) rfl ?_;obtain⟨a1,a2,a3,a4⟩:=Re (k:=k) h0 h;have hz:¬((n:Int)=0):=by omega
 have Ky:((n:Int)==0)=false:=by rw[beq_eq_false_iff_ne];omega
 simp -implicitDefEqProofs only[go_sem,a1,a2,a3,a4,hz,Ky]
theorem M1 (k:Int) (n:Nat) (h0:0<n) (h:n<=1000):ba Tryz.prog 136 [vI k,vI n] (vI (eP k n:Nat)) []:=by
 refine aF vV false Tryz.f136 ?_;conv=>enter[1];reduce
 refine bu Tryz.f136 12 [.tmp 4] (by kernel_rfl) (by decide +kernel) rfl ?_;obtain⟨a1,a2,a3,a4⟩:=Re (k:=k) h0 h;have hz:¬((n:Int)=0):=by omega
 have Ky:((n:Int)==0)=false:=by rw[beq_eq_false_iff_ne];omega
 simp -implicitDefEqProofs only[go_sem,a1,a2,a3,a4,hz,Ky]
end
end Go.Proofs.YtobpfkgabdeefaaGreat.E
