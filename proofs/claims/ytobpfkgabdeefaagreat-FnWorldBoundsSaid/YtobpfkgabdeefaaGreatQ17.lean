/- Plain law: what is written is what is read; Plain law: messages that are written are read, cut short or made longer they are refused; what is read was written -/
import Derived.Test.YtobpfkgabdeefaaGreatQ9
namespace Go.Proofs.YtobpfkgabdeefaaGreat.E
open Go Go.RowKit
set_option linter.unusedVariables false
set_option linter.unusedSimpArgs false
theorem Xz {m:aJ}(h:nR m):1<=(gO m).length/\(gO m).length<=600:=by
 have h1:=Hl m.proof;have h2:=F8 m.az h.lo;have h3:=h.p;have h4:=h.l;unfold gO
 repeat' split
 all_goals simp only[bK,bS,bF,bZ,bC,bP,yG,gY,mE,List.length_append]
 all_goals omega
def nv (l:List UInt8):Nat:=l.foldl (fun a b=>a * 256+b.toNat) 0
theorem BI (l:List UInt8) (b:UInt8):nv (l++[b])=nv l * 256+b.toNat:=by simp[nv]
theorem zr:∀(n v:Nat),v<256 ^ n->nv (low v n)=v
 | 0,v,h=>by
  have:v=0:=by simpa using h
  subst this;rfl
 | n+1,v,h=>by
  rw[F1,BI,zr n (v/256) (by rw[Nat.pow_succ]at h;exact Nat.div_lt_of_lt_mul (by rw[Nat.mul_comm];exact h))];have:(UInt8.ofNat (v%256)).toNat=v%256:=by simp
  rw[this];omega
theorem zA:∀(n:Nat) (l:List UInt8),l.length=n->low (nv l) n=l
 | 0,l,h=>by
  have:=List.eq_nil_of_length_eq_zero h;subst this;rfl
 | n+1,l,h=>by
  have bJ:l≠[]:=by intro e;subst e;simp at h
  obtain⟨l',b,rfl⟩:∃l' b,l=l'++[b]:=⟨l.dropLast,l.getLast bJ,(List.dropLast_concat_getLast bJ).symm⟩;have h':l'.length=n:=by simpa using h
  have hb:b.toNat<256:=b.toNat_lt;rw[F1,BI,show(nv l' * 256+b.toNat)/256=nv l' by omega,show(nv l' * 256+b.toNat)%256=b.toNat by omega,zA n l' h'];simp
theorem aaT (l:List UInt8):nv l<256 ^ l.length:=by
 suffices ∀n (l:List UInt8),l.length=n->nv l<256 ^ n from this _ l rfl
 intro n;induction n with
 | zero=>intro l h;have:=List.eq_nil_of_length_eq_zero h;subst this;simp[nv]
 | succ n ih=>
  intro l h;have bJ:l≠[]:=by intro e;subst e;simp at h
  obtain⟨l',b,rfl⟩:∃l' b,l=l'++[b]:=⟨l.dropLast,l.getLast bJ,(List.dropLast_concat_getLast bJ).symm⟩;have:=ih l' (by simpa using h);have hb:b.toNat<256:=b.toNat_lt;rw[BI,Nat.pow_succ];omega
theorem Nl (l:List UInt8) (i:Nat):bN (bA l) i=bL l i:=by
 have:=Nk (bA l) 0 i;rw[Nat.zero_add,List.drop_zero,r5]at this;exact this
theorem aaW (l:List UInt8) (k:Nat) (h:k<=l.length):kh (bA l) k=nv (l.take k):=by
 induction k with
 | zero=>rfl
 | succ k ih=>
  rw[kh,ih (by omega),List.take_succ_eq_append_getElem (show k<l.length by omega),BI,Nl];have:bL l k=l[k].toNat:=by simp[bL,show k<l.length by omega]
  rw[this,Nat.mul_comm]
theorem ahQ (l:List UInt8) (a b:Nat):(bA l).extract a b=bA ((l.drop a).take (b - a)):=Aw (by rw[r5,ByteArray.data_extract];simp[bA])
def rd (T:List UInt8) (p:Nat):ch:=⟨bA T,p,0,0⟩
theorem Fa (T:List UInt8) (p n:Nat):eR (rd T p) n=if p+n>T.length then(⟨#[]⟩,⟨bA T,p,2,(T.length:Int)⟩) else(bA ((T.drop p).take n),rd T (p+n)):=by
 unfold eR rd;rw[if_pos rfl];simp only[iY];split
 ·rfl
 rw[ahQ,show p+n - p=n by omega]
theorem zh {r:ch}(h:r.code≠0) (n:Nat):eR r n=(⟨#[]⟩,r):=by unfold eR;rw[if_neg h]
theorem QN {T:List UInt8}{p n:Nat}{lo hi:Int}(h:p+n<=T.length):cV (rd T p) n lo hi=if aS (nv ((T.drop p).take n)) lo hi then((nv ((T.drop p).take n):Int),rd T (p+n)) else(0,⟨bA T,p+n,3,(p:Int)⟩):=by
 have hl:((T.drop p).take n).length=n:=by simp;omega
 have hn:=aaW ((T.drop p).take n) n (by omega);rw[List.take_of_length_le (show((T.drop p).take n).length<=n by omega)]at hn;unfold cV;rw[Fa,if_neg (show ¬p+n>T.length by omega)];simp only[iY,hl,hn];rw[if_pos (show(rd T (p+n)).code=0 from rfl)];rfl
theorem JG {r:ch}(h:r.code≠0) (n:Nat) (lo hi:Int):cV r n lo hi=(0,r):=by
 unfold cV;rw[zh h];exact if_neg h
theorem QM {T:List UInt8}{p n:Nat}{lo hi:Int}(h:p+n>T.length):cV (rd T p) n lo hi=(0,⟨bA T,p,2,(T.length:Int)⟩):=by
 unfold cV;rw[Fa,if_pos h];exact if_neg (show ¬(2:Int)=0 by decide)
def Sh (T:List UInt8) (r:ch):Prop:=r.code=2/\r.at_=T.length
def P1 (T:List UInt8) (N:Nat) (R:List UInt8) (r:ch):Prop:=∃p S,r=rd T p/\p<=T.length/\R=T.drop p++S/\p+R.length=N
theorem O0 {T w R S:List UInt8}{p:Nat}(h:w++R=T.drop p++S) (hle:p+w.length<=T.length):(T.drop p).take w.length=w/\R=T.drop (p+w.length)++S:=by
 have hl:w.length<=(T.drop p).length:=by simp;omega
 have h1:=congrArg (List.take w.length) h;have h2:=congrArg (List.drop w.length) h;rw[List.take_left,List.take_append_of_le_length hl]at h1;rw[List.drop_left,List.drop_append_of_le_length hl,List.drop_drop]at h2;exact⟨h1.symm,h2⟩
def lY {α:Type} (f:ch->α × ch) (w:List UInt8) (a:α):Prop:=
 (∀T N R r,P1 T N (w++R) r->(P1 T N R (f r).2/\(f r).1=a)\/(Sh T (f r).2/\T.length<N))/\∀T r,Sh T r->Sh T (f r).2
theorem Sh.ne {T:List UInt8}{r:ch}(h:Sh T r):r.code≠0:=by rw[h.1];decide
theorem PV (w:List UInt8) (n:Nat) (hn:n=w.length):lY (fun r=>eR r n) w (bA w):=by
 subst hn;refine⟨?_,fun T r h=>by simp only[zh h.ne];exact h⟩;rintro T N R r ⟨p,S,rfl,hp,hR,hN⟩;simp only[Fa];rw[List.length_append]at hN;split
 ·exact .inr ⟨⟨rfl,rfl⟩,by omega⟩
 obtain⟨h1,h2⟩:=O0 hR (by omega);exact .inl ⟨⟨p+w.length,S,rfl,by omega,h2,by omega⟩,by simp only[h1]⟩
theorem xe (n v:Nat) (lo hi:Int) (hv:v<256 ^ n) (cq:aS v lo hi=true):lY (fun r=>cV r n lo hi) (low v n) (v:Int):=by
 refine⟨?_,fun T r h=>by simp only[JG h.ne];exact h⟩;rintro T N R r ⟨p,S,rfl,hp,hR,hN⟩;rw[List.length_append,gY]at hN;rcases bp T.length (p+n) with ab|bM
 ·simp only[QM (show p+n>T.length from ab)];exact .inr ⟨⟨rfl,rfl⟩,by omega⟩
 obtain⟨h1,h2⟩:=O0 hR (by rw[gY];omega);rw[gY]at h1 h2;simp only[QN bM,h1,zr n v hv,cq,if_true];exact .inl ⟨⟨p+n,S,rfl,by omega,h2,by omega⟩,trivial⟩
theorem lY.bind {α β:Type}{f:ch->α × ch}{g:α->ch->β × ch}{w w':List UInt8}{a:α}{b:β}(hf:lY f w a) (hg:lY (g a) w' b) (aD:∀a' T r,Sh T r->Sh T (g a' r).2):lY (fun r=>g (f r).1 (f r).2) (w++w') b:=by
 refine⟨fun T N R r h=>?_,fun T r h=>aD _ _ _ (hf.2 T r h)⟩;rw[List.append_assoc]at h;rcases hf.1 T N _ r h with ⟨h1,h2⟩|⟨h1,h2⟩
 ·simp only[h2];exact hg.1 T N R _ h1
 exact .inr ⟨aD _ _ _ h1,h2⟩
theorem yR:∀(k:Nat) (l:List UInt8),k<=l.length->kA l k=nv (l.take k)
 | 0,l,h=>rfl
 | k+1,l,h=>by
  rw[kA,yR k l (by omega),List.take_succ_eq_append_getElem (show k<l.length by omega),BI];have:bL l k=l[k].toNat:=by simp[bL,show k<l.length by omega]
  rw[this]
theorem aeA (d:aX) (h:d.ok):qO d.bl=d:=by
 have e:d.bl=low d.a 8++(low d.b 8++(low d.c 8++low d.d 8)):=by simp[aX.bl,aX.bk]
 have l8:=F2;obtain⟨a,b,c,dd⟩:=d;obtain⟨ha,hb,hc,hd⟩:=h;simp only at *;unfold qO;rw[e];rw[yR 8 _ (by simp[l8]),yR 8 _ (by simp[l8]),yR 8 _ (by simp[l8]),yR 8 _ (by simp[l8])];have d8:∀(x:Nat) (l:List UInt8),(low x 8++l).drop 8=l:=fun x l=>List.drop_left' (l8 x)
 have t8:∀(x:Nat) (l:List UInt8),(low x 8++l).take 8=low x 8:=fun x l=>List.take_left' (l8 x)
 have d16:∀(l:List UInt8),l.drop 16=(l.drop 8).drop 8:=fun l=>by rw[List.drop_drop]
 have d24:∀(l:List UInt8),l.drop 24=((l.drop 8).drop 8).drop 8:=fun l=>by rw[List.drop_drop,List.drop_drop]
 rw[d16,d24,d8,d8,d8,t8,t8,t8,List.take_of_length_le (by rw[l8];omega)];have p8:(256:Nat) ^ 8=18446744073709551616:=by decide
 rw[zr 8 a (by omega),zr 8 b (by omega),zr 8 c (by omega),zr 8 dd (by omega)]
theorem PZ (d:aX) (h:d.ok):lY jS d.bl d:=by
 have:=PV d.bl 32 (mE d).symm;refine⟨fun T N R r hr=>?_,fun T r hs=>this.2 T r hs⟩;rcases this.1 T N R r hr with ⟨h1,h2⟩|h1
 ·refine .inl ⟨h1,?_⟩;simp only at h2;unfold jS;rw[h2];unfold rh;rw[iY,mE,if_pos rfl,r5];exact aeA d h
 exact .inr h1
theorem YN (T:List UInt8) (r:ch) (h:Sh T r):Sh T (qp r).2:=by
 unfold qp;rw[JG h.ne];simp only[zh h.ne];exact h
theorem Zz (s:ByteArray) (h:s.size<=40):lY qp (pE s) s:=by
 have h1:=xe 1 s.size 0 40 (by omega) (by simp[aS];omega);have h2:=PV s.data.toList ((s.size:Int).toNat) (by rw[Array.length_toList];rfl);have:=lY.bind (g:=fun v r=>eR r v.toNat) h1 h2 (fun a' T r h=>by simp only[zh h.ne];exact h);rw[<-HV s]at this;exact this
theorem PY:∀(n:Nat) (l:List aX),l.length=n->(∀d∈l,d.ok)->lY (gC n) (j5 l) l
 | 0,l,h,_=>by
  have:=List.eq_nil_of_length_eq_zero h;subst this;exact⟨fun T N R r hr=>.inl ⟨hr,rfl⟩,fun T r hs=>hs⟩
 | n+1,l,h,hd=>by
  have bJ:l≠[]:=by intro e;subst e;simp at h
  obtain⟨l',d,rfl⟩:∃l' b,l=l'++[b]:=⟨l.dropLast,l.getLast bJ,(List.dropLast_concat_getLast bJ).symm⟩;have ih:=PY n l' (by simpa using h) (fun x hx=>hd x (by simp[hx]));have h1:=PZ d (hd d (by simp));have:=lY.bind (g:=fun(v:List aX) r=>(v++[(jS r).1],(jS r).2)) (b:=l'++[d]) ih (w':=d.bl) ⟨fun T N R r hr=>by
   rcases h1.1 T N R r hr with ⟨k1,k2⟩|k
   ·exact .inl ⟨k1,by simp only[k2]⟩
   exact .inr k,fun T r hs=>h1.2 T r hs⟩ (fun a' T r hs=>h1.2 T r hs)
  have e:j5 (l'++[d])=j5 l'++d.bl:=by simp[j5]
  rw[e];exact this
theorem PX:∀(n:Nat) (l:List ByteArray),l.length=n->ec l=true->lY (fq n) (jx l) l
 | 0,l,h,_=>by
  have:=List.eq_nil_of_length_eq_zero h;subst this;exact⟨fun T N R r hr=>.inl ⟨hr,rfl⟩,fun T r hs=>hs⟩
 | n+1,l,h,hd=>by
  have bJ:l≠[]:=by intro e;subst e;simp at h
  obtain⟨l',d,rfl⟩:∃l' b,l=l'++[b]:=⟨l.dropLast,l.getLast bJ,(List.dropLast_concat_getLast bJ).symm⟩;simp only[ec,List.all_append,List.all_cons,List.all_nil,Bool.and_true,Bool.and_eq_true,decide_eq_true_eq]at hd;have ih:=PX n l' (by simpa using h) hd.1;have h1:=Zz d hd.2;have:=lY.bind (g:=fun(v:List ByteArray) r=>(v++[(qp r).1],(qp r).2)) (b:=l'++[d]) ih (w':=pE d) ⟨fun T N R r hr=>by
   rcases h1.1 T N R r hr with ⟨k1,k2⟩|k
   ·exact .inl ⟨k1,by simp only[k2]⟩
   exact .inr k,fun T r hs=>h1.2 T r hs⟩ (fun a' T r hs=>h1.2 T r hs)
  have e:jx (l'++[d])=jx l'++pE d:=by simp[jx]
  rw[e];exact this
def sw (x:ch × aJ):aJ × ch:=(x.2,x.1)
def lC (p:ch × aJ->ch × aJ) (w:List UInt8) (u:aJ->aJ):Prop:=∀m0,lY (fun r=>sw (p (r,m0))) w (u m0)
theorem lC.seq {p q:ch × aJ->ch × aJ}{w w':List UInt8}{u u':aJ->aJ}(h:lC p w u) (k:lC q w' u'):lC (fun x=>q (p x)) (w++w') (fun m=>u' (u m)):=by
 intro m0;exact lY.bind (g:=fun m r=>sw (q (r,m))) (h m0) (k (u m0)) (fun a' T r hs=>(k a').2 T r hs)
theorem lC.of {α:Type}{f:ch->α × ch}{w:List UInt8}{a:α}(h:lY f w a) (u:α->aJ->aJ):lC (fun x=>((f x.1).2,u (f x.1).1 x.2)) w (u a):=by
 intro m0;refine⟨fun T N R r hr=>?_,fun T r hs=>h.2 T r hs⟩;rcases h.1 T N R r hr with ⟨h1,h2⟩|h1
 ·exact .inl ⟨h1,by simp only[sw,h2]⟩
 exact .inr h1
theorem tn {v:Int}(h:0<=v):((v.toNat:Nat):Int)=v:=Int.toNat_of_nonneg h
theorem E5 {v:Int}(h:1<=v/\v<=1000000):lC pS (low v.toNat 3) (fun m=>{m with bU:=v}):=by
 have:=lC.of (xe 3 v.toNat 1 1000000 (by omega) (by rw[tn (by omega)];simp[aS,h.1,h.2])) (fun v m=>{m with bU:=v});rw[tn (by omega)]at this;exact this
theorem E6 {v:Int}(h:0<=v/\v<=256):lC pF (low v.toNat 2) (fun m=>{m with from_:=v}):=by
 have:=lC.of (xe 2 v.toNat 0 256 (by omega) (by rw[tn (by omega)];simp[aS,h.1,h.2])) (fun v m=>{m with from_:=v});rw[tn (by omega)]at this;exact this
theorem Bu {v:Int}(h:0<=v/\v<=256):lC pZ (low v.toNat 2) (fun m=>{m with size:=v}):=by
 have:=lC.of (xe 2 v.toNat 0 256 (by omega) (by rw[tn (by omega)];simp[aS,h.1,h.2])) (fun v m=>{m with size:=v});rw[tn (by omega)]at this;exact this
theorem ZC {v:Int}(h:1<=v/\v<=8):lC pC (low v.toNat 1) (fun m=>{m with count:=v}):=by
 have:=lC.of (xe 1 v.toNat 1 8 (by omega) (by rw[tn (by omega)];simp[aS,h.1,h.2])) (fun v m=>{m with count:=v});rw[tn (by omega)]at this;exact this
theorem Jk {d:aX}(h:d.ok):lC pR d.bl (fun m=>{m with root:=d}):=lC.of (PZ d h) (fun v m=>{m with root:=v})
theorem YO (n:Nat) (T:List UInt8) (r:ch) (h:Sh T r):Sh T (gC n r).2:=by
 induction n with
 | zero=>exact h
 | succ n ih=>
  show Sh T (eR (gC n r).2 32).2
  rw[zh ih.ne];exact ih
theorem YM (n:Nat) (T:List UInt8) (r:ch) (h:Sh T r):Sh T (fq n r).2:=by
 induction n with
 | zero=>exact h
 | succ n ih=>exact YN T _ ih
theorem ZA {l:List aX}(h:l.length<=16) (hd:∀d∈l,d.ok):lC pP (low l.length 1++j5 l) (fun m=>{m with proof:=l}):=by
 have h1:=xe 1 l.length 0 16 (by omega) (by simp[aS];omega);exact lC.of (lY.bind (g:=fun v r=>gC v.toNat r) h1 (PY _ l rfl hd) (fun a' T r hs=>YO _ T r hs)) (fun v m=>{m with proof:=v})
theorem ZB {l:List ByteArray}(h:l.length<=8) (hd:ec l=true):lC pL (low l.length 1++jx l) (fun m=>{m with az:=l}):=by
 have h1:=xe 1 l.length 0 8 (by omega) (by simp[aS];omega);exact lC.of (lY.bind (g:=fun v r=>fq v.toNat r) h1 (PX _ l rfl hd) (fun a' T r hs=>YM _ T r hs)) (fun v m=>{m with az:=v})
def wK (m:aJ):List UInt8:=(gO m).drop 1
theorem Of {m:aJ}(h:aS m.kind 1 8=true):gO m=UInt8.ofNat m.kind.toNat::wK m/\(UInt8.ofNat m.kind.toNat).toNat=m.kind.toNat:=by
 have hk:1<=m.kind/\m.kind<=8:=by simpa[aS]using h
 have e:low m.kind.toNat 1=[UInt8.ofNat m.kind.toNat]:=by
  simp only[low,Nat.pow_zero,Nat.div_one];rw[Nat.mod_eq_of_lt (by omega)]
 refine⟨?_,by simp;omega⟩;unfold wK gO bK;rw[e]
 repeat' split
 all_goals rfl
theorem aeC {d:aX}(h:te d gh=true):d=gh:=by
 obtain⟨a,b,c,e⟩:=d;simp only[te,gh,Bool.and_eq_true,Bool.not_eq_true',bne_eq_false_iff_eq]at h;unfold gh;congr 1<;>omega
theorem aax (m:aJ) (aI:fi m=true) (hr:m.root.ok) (hd:∀d∈m.proof,d.ok):lY (fun r=>sw (mP m.kind.toNat (r,{aJ.zero with kind:=m.kind}))) (wK m) m:=by
 obtain⟨k,se,fr,si,ro,co,pr,le⟩:=m;have hk:=nR.of aI;simp only[fi,Bool.and_eq_true]at aI;obtain⟨h0,hs,hf,hz,hR,hc,hp,hl,iU⟩:=aI;simp only at h0 hs hf hz hR hc hp hl iU hr hd;rcases kinds k with rfl|rfl|rfl|rfl|rfl|rfl|rfl|rfl|⟨h1,h2,h3,h4,h5,h6,h7,h8⟩
 case inr.inr.inr.inr.inr.inr.inr.inr=>simp[aS]at h0;omega
 all_goals simp only[sQ,kj,if_true,if_false,Bool.false_eq_true,beq_iff_eq,Bool.false_or,Bool.true_or,aS,Bool.and_eq_true,decide_eq_true_eq]at hs hf hz hR hc hp hl
 all_goals first|(have pH:=aeC hR;subst pH)|skip
 all_goals subst_vars
 all_goals first|(have hpr:pr=[]:=List.eq_nil_of_length_eq_zero (by omega);subst hpr)|skip
 all_goals first|(have hle:le=[]:=List.eq_nil_of_length_eq_zero (by omega);subst hle)|skip
 ·exact E5 hs _
 ·exact((E5 hs).seq ((Bu hz).seq (Jk hr))) _
 ·exact((E5 hs).seq ((Bu hz).seq (Jk hr))) _
 ·exact((E6 hf).seq (Bu hz)) _
 ·exact((E6 hf).seq ((Bu hz).seq (ZA (by omega) hd))) _
 ·exact((E5 hs).seq ((Bu hz).seq (Jk hr))) _
 ·exact((E6 hf).seq (ZC hc)) _
 exact((E6 hf).seq (ZB (by omega) iU)) _
theorem Xq (m:aJ) (aI:fi m=true) (hr:m.root.ok) (hd:∀d∈m.proof,d.ok) (T' X S:List UInt8) (h:wK m++X=T'++S):
  ∃x,cf (bA (UInt8.ofNat m.kind.toNat::T'))=ek (bA (UInt8.ofNat m.kind.toNat::T')) x/\((P1 (UInt8.ofNat m.kind.toNat::T') ((gO m).length+X.length) X x.1/\x.2=m)\/(Sh (UInt8.ofNat m.kind.toNat::T') x.1/\T'.length+1<(gO m).length+X.length)):=by
 have hk:=nR.of aI;obtain⟨hw,hu⟩:=Of hk.k;have hk8:1<=m.kind/\m.kind<=8:=by have:=hk.k;simpa[aS]using this
 have hb:bN (bA (UInt8.ofNat m.kind.toNat::T')) 0=m.kind.toNat:=by
  rw[Nl];exact hu
 refine⟨mP m.kind.toNat (rd (UInt8.ofNat m.kind.toNat::T') 1,{aJ.zero with kind:=m.kind}),?_,?_⟩
 ·unfold cf;rw[if_neg (by rw[iY];simp),hb,if_pos (by omega),Int.toNat_of_nonneg (by omega)];rfl
 have hP:P1 (UInt8.ofNat m.kind.toNat::T') ((gO m).length+X.length) (wK m++X) (rd (UInt8.ofNat m.kind.toNat::T') 1):=by
  refine⟨1,S,rfl,by simp,h,?_⟩;rw[hw];simp only[List.length_append,List.length_cons];omega
 rcases(aax m aI hr hd).1 _ _ X _ hP with h1|h1
 ·exact .inl h1
 refine .inr ⟨h1.1,?_⟩;have:=h1.2
 simpa using this
theorem Xr {m:aJ}(aI:fi m=true) (hr:m.root.ok) (hd:∀d∈m.proof,d.ok):cf (bA (gO m))=(m,0,0):=by
 obtain⟨hw,hu⟩:=Of (nR.of aI).k;obtain⟨⟨r,m'⟩,h1,h2⟩:=Xq m aI hr hd (wK m) [] [] rfl;rw[<-hw]at h1 h2;rw[h1];have hl:(gO m).length=(wK m).length+1:=by rw[hw];rfl
 rcases h2 with ⟨⟨p,S,rfl,hp,hR,hN⟩,hm⟩|⟨_,h2⟩
 ·obtain rfl:m'=m:=hm;have hpe:p=(gO m').length:=by simpa using hN
  unfold ek rd;rw[if_pos rfl,if_neg (by rw[iY];simp only;omega)]
 simp at h2;omega
end Go.Proofs.YtobpfkgabdeefaaGreat.E
