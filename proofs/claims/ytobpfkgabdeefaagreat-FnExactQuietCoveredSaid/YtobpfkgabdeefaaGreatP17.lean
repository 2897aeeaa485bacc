/- Plain law: what is written is what is read; Plain law: messages that are written are read, cut short or made longer they are refused; what is read was written -/
import Derived.Test.YtobpfkgabdeefaaGreatP9
namespace Go.Proofs.YtobpfkgabdeefaaGreat.E
open Go Go.RowKit
set_option linter.unusedVariables false
set_option linter.unusedSimpArgs false
theorem Xq {m:aM}(h:nr m):1≤(gv m).length∧(gv m).length≤600:=by
 have h1:=Hf m.proof;have h2:=F6 m.az h.lo;have h3:=h.p;have h4:=h.l;unfold gv
 repeat' split
 all_goals simp only[bK,bS,bF,bZ,bC,bP,yI,gJ,l9,List.length_append]
 all_goals omega
def nv (l:List UInt8):Nat:=l.foldl (fun a b=>a * 256+b.toNat) 0
theorem BP (l:List UInt8) (b:UInt8):nv (l++[b])=nv l * 256+b.toNat:=by simp[nv]
theorem zz:∀(n v:Nat),v<256 ^ n→nv (low v n)=v
 | 0,v,h=>by
  have:v=0:=by simpa using h
  subst this;rfl
 | n+1,v,h=>by
  rw[F1,BP,zz n (v/256) (by rw[Nat.pow_succ]at h;exact Nat.div_lt_of_lt_mul (by rw[Nat.mul_comm];exact h))];have:(UInt8.ofNat (v%256)).toNat=v%256:=by simp
  rw[this];omega
theorem zJ:∀(n:Nat) (l:List UInt8),l.length=n→low (nv l) n=l
 | 0,l,h=>by
  have:=List.eq_nil_of_length_eq_zero h;subst this;rfl
 | n+1,l,h=>by
  have bO:l≠[]:=by intro e;subst e;simp at h
  obtain⟨l',b,rfl⟩:∃l' b,l=l'++[b]:=⟨l.dropLast,l.getLast bO,(List.dropLast_concat_getLast bO).symm⟩;have h':l'.length=n:=by simpa using h
  have hb:b.toNat<256:=b.toNat_lt;rw[F1,BP,show(nv l' * 256+b.toNat)/256=nv l' by omega,show(nv l' * 256+b.toNat)%256=b.toNat by omega,zJ n l' h'];simp
theorem aaD (l:List UInt8):nv l<256 ^ l.length:=by
 suffices ∀n (l:List UInt8),l.length=n→nv l<256 ^ n from this _ l rfl
 intro n;induction n with
 | zero=>intro l h;have:=List.eq_nil_of_length_eq_zero h;subst this;simp[nv]
 | succ n ih=>
  intro l h;have bO:l≠[]:=by intro e;subst e;simp at h
  obtain⟨l',b,rfl⟩:∃l' b,l=l'++[b]:=⟨l.dropLast,l.getLast bO,(List.dropLast_concat_getLast bO).symm⟩;have:=ih l' (by simpa using h);have hb:b.toNat<256:=b.toNat_lt;rw[BP,Nat.pow_succ];omega
theorem NB (l:List UInt8) (i:Nat):bN (bA l) i=bL l i:=by
 have:=NA (bA l) 0 i;rw[Nat.zero_add,List.drop_zero,rH]at this;exact this
theorem aaG (l:List UInt8) (k:Nat) (h:k≤l.length):jR (bA l) k=nv (l.take k):=by
 induction k with
 | zero=>rfl
 | succ k ih=>
  rw[jR,ih (by omega),List.take_succ_eq_append_getElem (show k<l.length by omega),BP,NB];have:bL l k=l[k].toNat:=by simp[bL,show k<l.length by omega]
  rw[this,Nat.mul_comm]
theorem ahD (l:List UInt8) (a b:Nat):(bA l).extract a b=bA ((l.drop a).take (b - a)):=AB (by rw[rH,ByteArray.data_extract];simp[bA])
def rd (T:List UInt8) (p:Nat):bY:=⟨bA T,p,0,0⟩
theorem E7 (T:List UInt8) (p n:Nat):eD (rd T p) n=if p+n>T.length then(⟨#[]⟩,⟨bA T,p,2,(T.length:Int)⟩) else(bA ((T.drop p).take n),rd T (p+n)):=by
 unfold eD rd;rw[if_pos rfl];simp only[iU];split
 ·rfl
 rw[ahD,show p+n - p=n by omega]
theorem zm {r:bY}(h:r.code≠0) (n:Nat):eD r n=(⟨#[]⟩,r):=by unfold eD;rw[if_neg h]
theorem QH {T:List UInt8}{p n:Nat}{lo hi:Int}(h:p+n≤T.length):cP (rd T p) n lo hi=if aT (nv ((T.drop p).take n)) lo hi then((nv ((T.drop p).take n):Int),rd T (p+n)) else(0,⟨bA T,p+n,3,(p:Int)⟩):=by
 have hl:((T.drop p).take n).length=n:=by simp;omega
 have hn:=aaG ((T.drop p).take n) n (by omega);rw[List.take_of_length_le (show((T.drop p).take n).length≤n by omega)]at hn;unfold cP;rw[E7,if_neg (show ¬p+n>T.length by omega)];simp only[iU,hl,hn];rw[if_pos (show(rd T (p+n)).code=0 from rfl)];rfl
theorem JL {r:bY}(h:r.code≠0) (n:Nat) (lo hi:Int):cP r n lo hi=(0,r):=by
 unfold cP;rw[zm h];exact if_neg h
theorem QG {T:List UInt8}{p n:Nat}{lo hi:Int}(h:p+n>T.length):cP (rd T p) n lo hi=(0,⟨bA T,p,2,(T.length:Int)⟩):=by
 unfold cP;rw[E7,if_pos h];exact if_neg (show ¬(2:Int)=0 by decide)
def Sh (T:List UInt8) (r:bY):Prop:=r.code=2∧r.at_=T.length
def P1 (T:List UInt8) (N:Nat) (R:List UInt8) (r:bY):Prop:=∃p S,r=rd T p∧p≤T.length∧R=T.drop p++S∧p+R.length=N
theorem O8 {T w R S:List UInt8}{p:Nat}(h:w++R=T.drop p++S) (hle:p+w.length≤T.length):(T.drop p).take w.length=w∧R=T.drop (p+w.length)++S:=by
 have hl:w.length≤(T.drop p).length:=by simp;omega
 have h1:=congrArg (List.take w.length) h;have h2:=congrArg (List.drop w.length) h;rw[List.take_left,List.take_append_of_le_length hl]at h1;rw[List.drop_left,List.drop_append_of_le_length hl,List.drop_drop]at h2;exact⟨h1.symm,h2⟩
def lQ {α:Type} (f:bY→α × bY) (w:List UInt8) (a:α):Prop:=
 (∀T N R r,P1 T N (w++R) r→(P1 T N R (f r).2∧(f r).1=a)∨(Sh T (f r).2∧T.length<N))∧∀T r,Sh T r→Sh T (f r).2
theorem Sh.ne {T:List UInt8}{r:bY}(h:Sh T r):r.code≠0:=by rw[h.1];decide
theorem PN (w:List UInt8) (n:Nat) (hn:n=w.length):lQ (fun r=>eD r n) w (bA w):=by
 subst hn;refine⟨?_,fun T r h=>by simp only[zm h.ne];exact h⟩;rintro T N R r ⟨p,S,rfl,hp,hR,hN⟩;simp only[E7];rw[List.length_append]at hN;split
 ·exact .inr ⟨⟨rfl,rfl⟩,by omega⟩
 obtain⟨h1,h2⟩:=O8 hR (by omega);exact .inl ⟨⟨p+w.length,S,rfl,by omega,h2,by omega⟩,by simp only[h1]⟩
theorem wK (n v:Nat) (lo hi:Int) (hv:v<256 ^ n) (cc:aT v lo hi=true):lQ (fun r=>cP r n lo hi) (low v n) (v:Int):=by
 refine⟨?_,fun T r h=>by simp only[JL h.ne];exact h⟩;rintro T N R r ⟨p,S,rfl,hp,hR,hN⟩;rw[List.length_append,gJ]at hN;rcases bm T.length (p+n) with ab|bH
 ·simp only[QG (show p+n>T.length from ab)];exact .inr ⟨⟨rfl,rfl⟩,by omega⟩
 obtain⟨h1,h2⟩:=O8 hR (by rw[gJ];omega);rw[gJ]at h1 h2;simp only[QH bH,h1,zz n v hv,cc,if_true];exact .inl ⟨⟨p+n,S,rfl,by omega,h2,by omega⟩,trivial⟩
theorem lQ.bind {α β:Type}{f:bY→α × bY}{g:α→bY→β × bY}{w w':List UInt8}{a:α}{b:β}(hf:lQ f w a) (hg:lQ (g a) w' b) (aE:∀a' T r,Sh T r→Sh T (g a' r).2):lQ (fun r=>g (f r).1 (f r).2) (w++w') b:=by
 refine⟨fun T N R r h=>?_,fun T r h=>aE _ _ _ (hf.2 T r h)⟩;rw[List.append_assoc]at h;rcases hf.1 T N _ r h with ⟨h1,h2⟩|⟨h1,h2⟩
 ·simp only[h2];exact hg.1 T N R _ h1
 exact .inr ⟨aE _ _ _ h1,h2⟩
theorem yS:∀(k:Nat) (l:List UInt8),k≤l.length→j8 l k=nv (l.take k)
 | 0,l,h=>rfl
 | k+1,l,h=>by
  rw[j8,yS k l (by omega),List.take_succ_eq_append_getElem (show k<l.length by omega),BP];have:bL l k=l[k].toNat:=by simp[bL,show k<l.length by omega]
  rw[this]
theorem aeo (d:aW) (h:d.ok):qA d.bl=d:=by
 have e:d.bl=low d.a 8++(low d.b 8++(low d.c 8++low d.d 8)):=by simp[aW.bl,aW.bk]
 have l8:=F2;obtain⟨a,b,c,dd⟩:=d;obtain⟨ha,hb,hc,hd⟩:=h;simp only at *;unfold qA;rw[e];rw[yS 8 _ (by simp[l8]),yS 8 _ (by simp[l8]),yS 8 _ (by simp[l8]),yS 8 _ (by simp[l8])];have d8:∀(x:Nat) (l:List UInt8),(low x 8++l).drop 8=l:=fun x l=>List.drop_left' (l8 x)
 have t8:∀(x:Nat) (l:List UInt8),(low x 8++l).take 8=low x 8:=fun x l=>List.take_left' (l8 x)
 have d16:∀(l:List UInt8),l.drop 16=(l.drop 8).drop 8:=fun l=>by rw[List.drop_drop]
 have d24:∀(l:List UInt8),l.drop 24=((l.drop 8).drop 8).drop 8:=fun l=>by rw[List.drop_drop,List.drop_drop]
 rw[d16,d24,d8,d8,d8,t8,t8,t8,List.take_of_length_le (by rw[l8];omega)];have p8:(256:Nat) ^ 8=18446744073709551616:=by decide
 rw[zz 8 a (by omega),zz 8 b (by omega),zz 8 c (by omega),zz 8 dd (by omega)]
theorem PR (d:aW) (h:d.ok):lQ jC d.bl d:=by
 have:=PN d.bl 32 (l9 d).symm;refine⟨fun T N R r hr=>?_,fun T r hs=>this.2 T r hs⟩;rcases this.1 T N R r hr with ⟨h1,h2⟩|h1
 ·refine .inl ⟨h1,?_⟩;simp only at h2;unfold jC;rw[h2];unfold qR;rw[iU,l9,if_pos rfl,rH];exact aeo d h
 exact .inr h1
theorem YC (T:List UInt8) (r:bY) (h:Sh T r):Sh T (qb r).2:=by
 unfold qb;rw[JL h.ne];simp only[zm h.ne];exact h
theorem Zn (s:ByteArray) (h:s.size≤40):lQ qb (pj s) s:=by
 have h1:=wK 1 s.size 0 40 (by omega) (by simp[aT];omega);have h2:=PN s.data.toList ((s.size:Int).toNat) (by rw[Array.length_toList];rfl);have:=lQ.bind (g:=fun v r=>eD r v.toNat) h1 h2 (fun a' T r h=>by simp only[zm h.ne];exact h);rw[←HV s]at this;exact this
theorem PQ:∀(n:Nat) (l:List aW),l.length=n→(∀d∈l,d.ok)→lQ (f9 n) (jI l) l
 | 0,l,h,_=>by
  have:=List.eq_nil_of_length_eq_zero h;subst this;exact⟨fun T N R r hr=>.inl ⟨hr,rfl⟩,fun T r hs=>hs⟩
 | n+1,l,h,hd=>by
  have bO:l≠[]:=by intro e;subst e;simp at h
  obtain⟨l',d,rfl⟩:∃l' b,l=l'++[b]:=⟨l.dropLast,l.getLast bO,(List.dropLast_concat_getLast bO).symm⟩;have ih:=PQ n l' (by simpa using h) (fun x hx=>hd x (by simp[hx]));have h1:=PR d (hd d (by simp));have:=lQ.bind (g:=fun(v:List aW) r=>(v++[(jC r).1],(jC r).2)) (b:=l'++[d]) ih (w':=d.bl) ⟨fun T N R r hr=>by
   rcases h1.1 T N R r hr with ⟨k1,k2⟩|k
   ·exact .inl ⟨k1,by simp only[k2]⟩
   exact .inr k,fun T r hs=>h1.2 T r hs⟩ (fun a' T r hs=>h1.2 T r hs)
  have e:jI (l'++[d])=jI l'++d.bl:=by simp[jI]
  rw[e];exact this
theorem PO:∀(n:Nat) (l:List ByteArray),l.length=n→dX l=true→lQ (eV n) (jc l) l
 | 0,l,h,_=>by
  have:=List.eq_nil_of_length_eq_zero h;subst this;exact⟨fun T N R r hr=>.inl ⟨hr,rfl⟩,fun T r hs=>hs⟩
 | n+1,l,h,hd=>by
  have bO:l≠[]:=by intro e;subst e;simp at h
  obtain⟨l',d,rfl⟩:∃l' b,l=l'++[b]:=⟨l.dropLast,l.getLast bO,(List.dropLast_concat_getLast bO).symm⟩;simp only[dX,List.all_append,List.all_cons,List.all_nil,Bool.and_true,Bool.and_eq_true,decide_eq_true_eq]at hd;have ih:=PO n l' (by simpa using h) hd.1;have h1:=Zn d hd.2;have:=lQ.bind (g:=fun(v:List ByteArray) r=>(v++[(qb r).1],(qb r).2)) (b:=l'++[d]) ih (w':=pj d) ⟨fun T N R r hr=>by
   rcases h1.1 T N R r hr with ⟨k1,k2⟩|k
   ·exact .inl ⟨k1,by simp only[k2]⟩
   exact .inr k,fun T r hs=>h1.2 T r hs⟩ (fun a' T r hs=>h1.2 T r hs)
  have e:jc (l'++[d])=jc l'++pj d:=by simp[jc]
  rw[e];exact this
def sw (x:bY × aM):aM × bY:=(x.2,x.1)
def kY (p:bY × aM→bY × aM) (w:List UInt8) (u:aM→aM):Prop:=∀m0,lQ (fun r=>sw (p (r,m0))) w (u m0)
theorem kY.seq {p q:bY × aM→bY × aM}{w w':List UInt8}{u u':aM→aM}(h:kY p w u) (k:kY q w' u'):kY (fun x=>q (p x)) (w++w') (fun m=>u' (u m)):=by
 intro m0;exact lQ.bind (g:=fun m r=>sw (q (r,m))) (h m0) (k (u m0)) (fun a' T r hs=>(k a').2 T r hs)
theorem kY.of {α:Type}{f:bY→α × bY}{w:List UInt8}{a:α}(h:lQ f w a) (u:α→aM→aM):kY (fun x=>((f x.1).2,u (f x.1).1 x.2)) w (u a):=by
 intro m0;refine⟨fun T N R r hr=>?_,fun T r hs=>h.2 T r hs⟩;rcases h.1 T N R r hr with ⟨h1,h2⟩|h1
 ·exact .inl ⟨h1,by simp only[sw,h2]⟩
 exact .inr h1
theorem tn {v:Int}(h:0≤v):((v.toNat:Nat):Int)=v:=Int.toNat_of_nonneg h
theorem E0 {v:Int}(h:1≤v∧v≤1000000):kY pS (low v.toNat 3) (fun m=>{m with bR:=v}):=by
 have:=kY.of (wK 3 v.toNat 1 1000000 (by omega) (by rw[tn (by omega)];simp[aT,h.1,h.2])) (fun v m=>{m with bR:=v});rw[tn (by omega)]at this;exact this
theorem E3 {v:Int}(h:0≤v∧v≤256):kY pF (low v.toNat 2) (fun m=>{m with from_:=v}):=by
 have:=kY.of (wK 2 v.toNat 0 256 (by omega) (by rw[tn (by omega)];simp[aT,h.1,h.2])) (fun v m=>{m with from_:=v});rw[tn (by omega)]at this;exact this
theorem BB {v:Int}(h:0≤v∧v≤256):kY pZ (low v.toNat 2) (fun m=>{m with size:=v}):=by
 have:=kY.of (wK 2 v.toNat 0 256 (by omega) (by rw[tn (by omega)];simp[aT,h.1,h.2])) (fun v m=>{m with size:=v});rw[tn (by omega)]at this;exact this
theorem Zq {v:Int}(h:1≤v∧v≤8):kY pC (low v.toNat 1) (fun m=>{m with count:=v}):=by
 have:=kY.of (wK 1 v.toNat 1 8 (by omega) (by rw[tn (by omega)];simp[aT,h.1,h.2])) (fun v m=>{m with count:=v});rw[tn (by omega)]at this;exact this
theorem Jp {d:aW}(h:d.ok):kY pR d.bl (fun m=>{m with root:=d}):=kY.of (PR d h) (fun v m=>{m with root:=v})
theorem YD (n:Nat) (T:List UInt8) (r:bY) (h:Sh T r):Sh T (f9 n r).2:=by
 induction n with
 | zero=>exact h
 | succ n ih=>
  show Sh T (eD (f9 n r).2 32).2
  rw[zm ih.ne];exact ih
theorem YB (n:Nat) (T:List UInt8) (r:bY) (h:Sh T r):Sh T (eV n r).2:=by
 induction n with
 | zero=>exact h
 | succ n ih=>exact YC T _ ih
theorem Zo {l:List aW}(h:l.length≤16) (hd:∀d∈l,d.ok):kY pP (low l.length 1++jI l) (fun m=>{m with proof:=l}):=by
 have h1:=wK 1 l.length 0 16 (by omega) (by simp[aT];omega);exact kY.of (lQ.bind (g:=fun v r=>f9 v.toNat r) h1 (PQ _ l rfl hd) (fun a' T r hs=>YD _ T r hs)) (fun v m=>{m with proof:=v})
theorem Zp {l:List ByteArray}(h:l.length≤8) (hd:dX l=true):kY pL (low l.length 1++jc l) (fun m=>{m with az:=l}):=by
 have h1:=wK 1 l.length 0 8 (by omega) (by simp[aT];omega);exact kY.of (lQ.bind (g:=fun v r=>eV v.toNat r) h1 (PO _ l rfl hd) (fun a' T r hs=>YB _ T r hs)) (fun v m=>{m with az:=v})
def wx (m:aM):List UInt8:=(gv m).drop 1
theorem Ow {m:aM}(h:aT m.kind 1 8=true):gv m=UInt8.ofNat m.kind.toNat::wx m∧(UInt8.ofNat m.kind.toNat).toNat=m.kind.toNat:=by
 have hk:1≤m.kind∧m.kind≤8:=by simpa[aT]using h
 have e:low m.kind.toNat 1=[UInt8.ofNat m.kind.toNat]:=by
  simp only[low,Nat.pow_zero,Nat.div_one];rw[Nat.mod_eq_of_lt (by omega)]
 refine⟨?_,by simp;omega⟩;unfold wx gv bK;rw[e]
 repeat' split
 all_goals rfl
theorem aer {d:aW}(h:oT d gr=true):d=gr:=by
 obtain⟨a,b,c,e⟩:=d;simp only[oT,gr,Bool.and_eq_true,Bool.not_eq_true',bne_eq_false_iff_eq]at h;unfold gr;congr 1<;>omega
theorem aao (m:aM) (aF:eQ m=true) (hr:m.root.ok) (hd:∀d∈m.proof,d.ok):lQ (fun r=>sw (mz m.kind.toNat (r,{aM.zero with kind:=m.kind}))) (wx m) m:=by
 obtain⟨k,se,fr,si,ro,co,pr,le⟩:=m;have hk:=nr.of aF;simp only[eQ,Bool.and_eq_true]at aF;obtain⟨h0,hs,hf,hz,hR,hc,hp,hl,jt⟩:=aF;simp only at h0 hs hf hz hR hc hp hl jt hr hd;rcases kinds k with rfl|rfl|rfl|rfl|rfl|rfl|rfl|rfl|⟨h1,h2,h3,h4,h5,h6,h7,h8⟩
 case inr.inr.inr.inr.inr.inr.inr.inr=>simp[aT]at h0;omega
 all_goals simp only[sB,jU,if_true,if_false,Bool.false_eq_true,beq_iff_eq,Bool.false_or,Bool.true_or,aT,Bool.and_eq_true,decide_eq_true_eq]at hs hf hz hR hc hp hl
 all_goals first|(have pv:=aer hR;subst pv)|skip
 all_goals subst_vars
 all_goals first|(have hpr:pr=[]:=List.eq_nil_of_length_eq_zero (by omega);subst hpr)|skip
 all_goals first|(have hle:le=[]:=List.eq_nil_of_length_eq_zero (by omega);subst hle)|skip
 ·exact E0 hs _
 ·exact((E0 hs).seq ((BB hz).seq (Jp hr))) _
 ·exact((E0 hs).seq ((BB hz).seq (Jp hr))) _
 ·exact((E3 hf).seq (BB hz)) _
 ·exact((E3 hf).seq ((BB hz).seq (Zo (by omega) hd))) _
 ·exact((E0 hs).seq ((BB hz).seq (Jp hr))) _
 ·exact((E3 hf).seq (Zq hc)) _
 exact((E3 hf).seq (Zp (by omega) jt)) _
theorem Xh (m:aM) (aF:eQ m=true) (hr:m.root.ok) (hd:∀d∈m.proof,d.ok) (T' X S:List UInt8) (h:wx m++X=T'++S):
  ∃x,bV (bA (UInt8.ofNat m.kind.toNat::T'))=eb (bA (UInt8.ofNat m.kind.toNat::T')) x∧((P1 (UInt8.ofNat m.kind.toNat::T') ((gv m).length+X.length) X x.1∧x.2=m)∨(Sh (UInt8.ofNat m.kind.toNat::T') x.1∧T'.length+1<(gv m).length+X.length)):=by
 have hk:=nr.of aF;obtain⟨hw,hu⟩:=Ow hk.k;have hk8:1≤m.kind∧m.kind≤8:=by have:=hk.k;simpa[aT]using this
 have hb:bN (bA (UInt8.ofNat m.kind.toNat::T')) 0=m.kind.toNat:=by
  rw[NB];exact hu
 refine⟨mz m.kind.toNat (rd (UInt8.ofNat m.kind.toNat::T') 1,{aM.zero with kind:=m.kind}),?_,?_⟩
 ·unfold bV;rw[if_neg (by rw[iU];simp),hb,if_pos (by omega),Int.toNat_of_nonneg (by omega)];rfl
 have hP:P1 (UInt8.ofNat m.kind.toNat::T') ((gv m).length+X.length) (wx m++X) (rd (UInt8.ofNat m.kind.toNat::T') 1):=by
  refine⟨1,S,rfl,by simp,h,?_⟩;rw[hw];simp only[List.length_append,List.length_cons];omega
 rcases(aao m aF hr hd).1 _ _ X _ hP with h1|h1
 ·exact .inl h1
 refine .inr ⟨h1.1,?_⟩;have:=h1.2
 simpa using this
theorem Xi {m:aM}(aF:eQ m=true) (hr:m.root.ok) (hd:∀d∈m.proof,d.ok):bV (bA (gv m))=(m,0,0):=by
 obtain⟨hw,hu⟩:=Ow (nr.of aF).k;obtain⟨⟨r,m'⟩,h1,h2⟩:=Xh m aF hr hd (wx m) [] [] rfl;rw[←hw]at h1 h2;rw[h1];have hl:(gv m).length=(wx m).length+1:=by rw[hw];rfl
 rcases h2 with ⟨⟨p,S,rfl,hp,hR,hN⟩,hm⟩|⟨_,h2⟩
 ·obtain rfl:m'=m:=hm;have hpe:p=(gv m').length:=by simpa using hN
  unfold eb rd;rw[if_pos rfl,if_neg (by rw[iU];simp only;omega)]
 simp at h2;omega
end Go.Proofs.YtobpfkgabdeefaaGreat.E
