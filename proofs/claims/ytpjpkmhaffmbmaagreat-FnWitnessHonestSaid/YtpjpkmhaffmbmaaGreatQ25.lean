/- Plain law: what is written is what is read; Plain law: messages that are written are read, cut short or made longer they are refused; what is read was written -/
import Derived.Test.YtpjpkmhaffmbmaaGreatQ9
section
namespace Go.Proofs.YtpjpkmhaffmbmaaGreat.E
open Go Go.RowKit
set_option linter.unusedVariables false
set_option linter.unusedSimpArgs false
theorem ziU {m:MMsg} (h:WOk m):1≤(wbL m).length∧(wbL m).length≤600:=by
 have h1:=zag m.proof
 have h2:=jG m.leaves h.lo
 have h3:=h.p
 have h4:=h.l
 unfold wbL
 repeat' split
 all_goals simp only [bK,bS,bF,bZ,bC,bP,bL_,zT,xm,List.length_append]
 all_goals omega
def nv (l:List UInt8):Nat:=l.foldl (fun a b=>a * 256+b.toNat) 0
theorem zbT (l:List UInt8) (b:UInt8):nv (l++[b])=nv l * 256+b.toNat:=by simp [nv]
theorem zdc:∀(n v:Nat),v<256 ^ n→nv (low v n)=v
 | 0,v,h=>by
  have:v=0:=by simpa using h
  subst this
  rfl
 | n+1,v,h=>by
  rw [zbl,zbT,zdc n (v/256) (by rw [Nat.pow_succ] at h;exact Nat.div_lt_of_lt_mul (by rw [Nat.mul_comm];exact h))]
  have:(UInt8.ofNat (v%256)).toNat=v%256:=by simp
  rw [this]
  omega
theorem zdm:∀(n:Nat) (l:List UInt8),l.length=n→low (nv l) n=l
 | 0,l,h=>by
  have:=List.eq_nil_of_length_eq_zero h
  subst this
  rfl
 | n+1,l,h=>by
  have hne:l≠[]:=by intro e;subst e;simp at h
  obtain ⟨l',b,rfl⟩:∃l' b,l=l'++[b]:=⟨l.dropLast,l.getLast hne,(List.dropLast_concat_getLast hne).symm⟩
  have h':l'.length=n:=by simpa using h
  have hb:b.toNat<256:=b.toNat_lt
  rw [zbl,zbT,show (nv l' * 256+b.toNat)/256=nv l' by omega,show (nv l' * 256+b.toNat)%256=b.toNat by omega,zdm n l' h']
  simp
theorem nv_lt (l:List UInt8):nv l<256 ^ l.length:=by
 suffices ∀n (l:List UInt8),l.length=n→nv l<256 ^ n from this _ l rfl
 intro n
 induction n with
 | zero=>intro l h;have:=List.eq_nil_of_length_eq_zero h;subst this;simp [nv]
 | succ n ih=>
  intro l h
  have hne:l≠[]:=by intro e;subst e;simp at h
  obtain ⟨l',b,rfl⟩:∃l' b,l=l'++[b]:=⟨l.dropLast,l.getLast hne,(List.dropLast_concat_getLast hne).symm⟩
  have:=ih l' (by simpa using h)
  have hb:b.toNat<256:=b.toNat_lt
  rw [zbT,Nat.pow_succ]
  omega
theorem zpr (l:List UInt8) (i:Nat):bN (bA l) i=bL l i:=by
 have:=zpq (bA l) 0 i
 rw [Nat.zero_add,List.drop_zero,xQ] at this
 exact this
theorem zof (l:List UInt8) (k:Nat) (h:k≤l.length):zcL (bA l) k=nv (l.take k):=by
 induction k with
 | zero=>rfl
 | succ k ih=>
  rw [zcL,ih (by omega),List.take_succ_eq_append_getElem (show k<l.length by omega),zbT,zpr]
  have:bL l k=l[k].toNat:=by simp [bL,show k<l.length by omega]
  rw [this,Nat.mul_comm]
theorem ziA (l:List UInt8) (a b:Nat):(bA l).extract a b=bA ((l.drop a).take (b - a)):=zdG (by rw [xQ,ByteArray.data_extract];simp [bA])
def rd (T:List UInt8) (p:Nat):MRd:=⟨bA T,p,0,0⟩
theorem zg4 (T:List UInt8) (p n:Nat):xS (rd T p) n=if p+n>T.length then (⟨#[]⟩,⟨bA T,p,2,(T.length:Int)⟩) else (bA ((T.drop p).take n),rd T (p+n)):=by
 unfold xS rd
 rw [if_pos rfl]
 simp only [zU]
 split
 ·rfl
 ·rw [ziA,show p+n - p=n by omega]
theorem zas {r:MRd} (h:r.code≠0) (n:Nat):xS r n=(⟨#[]⟩,r):=by unfold xS;rw [if_neg h]
theorem zm3 {T:List UInt8} {p n:Nat} {lo hi:Int} (h:p+n≤T.length):yq (rd T p) n lo hi=if mIn (nv ((T.drop p).take n)) lo hi then ((nv ((T.drop p).take n):Int),rd T (p+n)) else (0,⟨bA T,p+n,3,(p:Int)⟩):=by
 have hl:((T.drop p).take n).length=n:=by simp;omega
 have hn:=zof ((T.drop p).take n) n (by omega)
 rw [List.take_of_length_le (show ((T.drop p).take n).length≤n by omega)] at hn
 unfold yq
 rw [zg4,if_neg (show ¬p+n>T.length by omega)]
 simp only [zU,hl,hn]
 rw [if_pos (show (rd T (p+n)).code=0 from rfl)]
 rfl
theorem zgd {r:MRd} (h:r.code≠0) (n:Nat) (lo hi:Int):yq r n lo hi=(0,r):=by
 unfold yq
 rw [zas h]
 exact if_neg h
theorem zm2 {T:List UInt8} {p n:Nat} {lo hi:Int} (h:p+n>T.length):yq (rd T p) n lo hi=(0,⟨bA T,p,2,(T.length:Int)⟩):=by
 unfold yq
 rw [zg4,if_pos h]
 exact if_neg (show ¬(2:Int)=0 by decide)
def Sh (T:List UInt8) (r:MRd):Prop:=r.code=2∧r.at_=T.length
def P1 (T:List UInt8) (N:Nat) (R:List UInt8) (r:MRd):Prop:=∃p S,r=rd T p∧p≤T.length∧R=T.drop p++S∧p+R.length=N
theorem zgZ {T w R S:List UInt8} {p:Nat} (h:w++R=T.drop p++S) (hle:p+w.length≤T.length):(T.drop p).take w.length=w∧R=T.drop (p+w.length)++S:=by
 have hl:w.length≤(T.drop p).length:=by simp;omega
 have h1:=congrArg (List.take w.length) h
 have h2:=congrArg (List.drop w.length) h
 rw [List.take_left,List.take_append_of_le_length hl] at h1
 rw [List.drop_left,List.drop_append_of_le_length hl,List.drop_drop] at h2
 exact ⟨h1.symm,h2⟩
def RdS {α:Type} (f:MRd→α × MRd) (w:List UInt8) (a:α):Prop:=
 (∀T N R r,P1 T N (w++R) r→(P1 T N R (f r).2∧(f r).1=a)∨(Sh T (f r).2∧T.length<N))∧∀T r,Sh T r→Sh T (f r).2
theorem Sh.ne {T:List UInt8} {r:MRd} (h:Sh T r):r.code≠0:=by rw [h.1];decide
theorem zjw (w:List UInt8) (n:Nat) (hn:n=w.length):RdS (fun r=>xS r n) w (bA w):=by
 subst hn
 refine ⟨?_,fun T r h=>by simp only [zas h.ne];exact h⟩
 rintro T N R r ⟨p,S,rfl,hp,hR,hN⟩
 simp only [zg4]
 rw [List.length_append] at hN
 split
 ·exact .inr ⟨⟨rfl,rfl⟩,by omega⟩
 ·obtain ⟨h1,h2⟩:=zgZ hR (by omega)
  exact .inl ⟨⟨p+w.length,S,rfl,by omega,h2,by omega⟩,by simp only [h1]⟩
theorem wj (n v:Nat) (lo hi:Int) (hv:v<256 ^ n) (hin:mIn v lo hi=true):RdS (fun r=>yq r n lo hi) (low v n) (v:Int):=by
 refine ⟨?_,fun T r h=>by simp only [zgd h.ne];exact h⟩
 rintro T N R r ⟨p,S,rfl,hp,hR,hN⟩
 rw [List.length_append,zT] at hN
 rcases Nat.lt_or_ge T.length (p+n) with hlt | hge
 ·simp only [zm2 (show p+n>T.length from hlt)]
  exact .inr ⟨⟨rfl,rfl⟩,by omega⟩
 ·obtain ⟨h1,h2⟩:=zgZ hR (by rw [zT];omega)
  rw [zT] at h1 h2
  simp only [zm3 hge,h1,zdc n v hv,hin,if_true]
  exact .inl ⟨⟨p+n,S,rfl,by omega,h2,by omega⟩,trivial⟩
theorem RdS.bind {α β:Type} {f:MRd→α × MRd} {g:α→MRd→β × MRd} {w w':List UInt8} {a:α} {b:β} (hf:RdS f w a) (hg:RdS (g a) w' b) (hst:∀a' T r,Sh T r→Sh T (g a' r).2):RdS (fun r=>g (f r).1 (f r).2) (w++w') b:=by
 refine ⟨fun T N R r h=>?_,fun T r h=>hst _ _ _ (hf.2 T r h)⟩
 rw [List.append_assoc] at h
 rcases hf.1 T N _ r h with ⟨h1,h2⟩ | ⟨h1,h2⟩
 ·simp only [h2]
  exact hg.1 T N R _ h1
 ·exact .inr ⟨hst _ _ _ h1,h2⟩
theorem qo:∀(k:Nat) (l:List UInt8),k≤l.length→qb l k=nv (l.take k)
 | 0,l,h=>rfl
 | k+1,l,h=>by
  rw [qb,qo k l (by omega),List.take_succ_eq_append_getElem (show k<l.length by omega),zbT]
  have:bL l k=l[k].toNat:=by simp [bL,show k<l.length by omega]
  rw [this]
theorem zoZ (d:MDig) (h:d.ok):ziK d.bl=d:=by
 have e:d.bl=low d.a 8++(low d.b 8++(low d.c 8++low d.d 8)):=by simp [MDig.bl,MDig.bk]
 have l8:=low8
 obtain ⟨a,b,c,dd⟩:=d
 obtain ⟨ha,hb,hc,hd⟩:=h
 simp only at *
 unfold ziK
 rw [e]
 rw [qo 8 _ (by simp [l8]),qo 8 _ (by simp [l8]),qo 8 _ (by simp [l8]),qo 8 _ (by simp [l8])]
 have d8:∀(x:Nat) (l:List UInt8),(low x 8++l).drop 8=l:=fun x l=>List.drop_left' (l8 x)
 have t8:∀(x:Nat) (l:List UInt8),(low x 8++l).take 8=low x 8:=fun x l=>List.take_left' (l8 x)
 have d16:∀(l:List UInt8),l.drop 16=(l.drop 8).drop 8:=fun l=>by rw [List.drop_drop]
 have d24:∀(l:List UInt8),l.drop 24=((l.drop 8).drop 8).drop 8:=fun l=>by rw [List.drop_drop,List.drop_drop]
 rw [d16,d24,d8,d8,d8,t8,t8,t8,List.take_of_length_le (by rw [l8];omega)]
 have p8:(256:Nat) ^ 8=18446744073709551616:=by decide
 rw [zdc 8 a (by omega),zdc 8 b (by omega),zdc 8 c (by omega),zdc 8 dd (by omega)]
theorem zjx (d:MDig) (h:d.ok):RdS xL d.bl d:=by
 have:=zjw d.bl 32 (xm d).symm
 refine ⟨fun T N R r hr=>?_,fun T r hs=>this.2 T r hs⟩
 rcases this.1 T N R r hr with ⟨h1,h2⟩ | h1
 ·refine .inl ⟨h1,?_⟩
  simp only at h2
  unfold xL
  rw [h2]
  unfold yL
  rw [zU,xm,if_pos rfl,xQ]
  exact zoZ d h
 ·exact .inr h1
theorem zi9 (T:List UInt8) (r:MRd) (h:Sh T r):Sh T (zbd r).2:=by
 unfold zbd
 rw [zgd h.ne]
 simp only [zas h.ne]
 exact h
theorem zlM (s:ByteArray) (h:s.size≤40):RdS zbd (zaD s) s:=by
 have h1:=wj 1 s.size 0 40 (by omega) (by simp [mIn];omega)
 have h2:=zjw s.data.toList ((s.size:Int).toNat) (by rw [Array.length_toList];rfl)
 have:=RdS.bind (g:=fun v r=>xS r v.toNat) h1 h2 (fun a' T r h=>by simp only [zas h.ne];exact h)
 rw [←zmI s] at this
 exact this
theorem zg2:∀(n:Nat) (l:List MDig),l.length=n→(∀d∈l,d.ok)→RdS (yP n) (xP l) l
 | 0,l,h,_=>by
  have:=List.eq_nil_of_length_eq_zero h
  subst this
  exact ⟨fun T N R r hr=>.inl ⟨hr,rfl⟩,fun T r hs=>hs⟩
 | n+1,l,h,hd=>by
  have hne:l≠[]:=by intro e;subst e;simp at h
  obtain ⟨l',d,rfl⟩:∃l' b,l=l'++[b]:=⟨l.dropLast,l.getLast hne,(List.dropLast_concat_getLast hne).symm⟩
  have ih:=zg2 n l' (by simpa using h) (fun x hx=>hd x (by simp [hx]))
  have h1:=zjx d (hd d (by simp))
  have:=RdS.bind (g:=fun (v:List MDig) r=>(v++[(xL r).1],(xL r).2)) (b:=l'++[d]) ih (w':=d.bl) ⟨fun T N R r hr=>by
   rcases h1.1 T N R r hr with ⟨k1,k2⟩ | k
   ·exact .inl ⟨k1,by simp only [k2]⟩
   ·exact .inr k,fun T r hs=>h1.2 T r hs⟩ (fun a' T r hs=>h1.2 T r hs)
  have e:xP (l'++[d])=xP l'++d.bl:=by simp [xP]
  rw [e]
  exact this
theorem zeO:∀(n:Nat) (l:List ByteArray),l.length=n→zt l=true→RdS (zP n) (yA l) l
 | 0,l,h,_=>by
  have:=List.eq_nil_of_length_eq_zero h
  subst this
  exact ⟨fun T N R r hr=>.inl ⟨hr,rfl⟩,fun T r hs=>hs⟩
 | n+1,l,h,hd=>by
  have hne:l≠[]:=by intro e;subst e;simp at h
  obtain ⟨l',d,rfl⟩:∃l' b,l=l'++[b]:=⟨l.dropLast,l.getLast hne,(List.dropLast_concat_getLast hne).symm⟩
  simp only [zt,List.all_append,List.all_cons,List.all_nil,Bool.and_true,Bool.and_eq_true,decide_eq_true_eq] at hd
  have ih:=zeO n l' (by simpa using h) hd.1
  have h1:=zlM d hd.2
  have:=RdS.bind (g:=fun (v:List ByteArray) r=>(v++[(zbd r).1],(zbd r).2)) (b:=l'++[d]) ih (w':=zaD d) ⟨fun T N R r hr=>by
   rcases h1.1 T N R r hr with ⟨k1,k2⟩ | k
   ·exact .inl ⟨k1,by simp only [k2]⟩
   ·exact .inr k,fun T r hs=>h1.2 T r hs⟩ (fun a' T r hs=>h1.2 T r hs)
  have e:yA (l'++[d])=yA l'++zaD d:=by simp [yA]
  rw [e]
  exact this
end Go.Proofs.YtpjpkmhaffmbmaaGreat.E
end
section
namespace Go.Proofs.YtpjpkmhaffmbmaaGreat.E
open Go Go.RowKit
set_option linter.unusedVariables false
set_option linter.unusedSimpArgs false
def sw (x:MRd × MMsg):MMsg × MRd:=(x.2,x.1)
def RdP (p:MRd × MMsg→MRd × MMsg) (w:List UInt8) (u:MMsg→MMsg):Prop:=∀m0,RdS (fun r=>sw (p (r,m0))) w (u m0)
theorem RdP.seq {p q:MRd × MMsg→MRd × MMsg} {w w':List UInt8} {u u':MMsg→MMsg} (h:RdP p w u) (k:RdP q w' u'):RdP (fun x=>q (p x)) (w++w') (fun m=>u' (u m)):=by
 intro m0
 exact RdS.bind (g:=fun m r=>sw (q (r,m))) (h m0) (k (u m0)) (fun a' T r hs=>(k a').2 T r hs)
theorem RdP.of {α:Type} {f:MRd→α × MRd} {w:List UInt8} {a:α} (h:RdS f w a) (u:α→MMsg→MMsg):RdP (fun x=>((f x.1).2,u (f x.1).1 x.2)) w (u a):=by
 intro m0
 refine ⟨fun T N R r hr=>?_,fun T r hs=>h.2 T r hs⟩
 rcases h.1 T N R r hr with ⟨h1,h2⟩ | h1
 ·exact .inl ⟨h1,by simp only [sw,h2]⟩
 ·exact .inr h1
theorem tn {v:Int} (h:0≤v):((v.toNat:Nat):Int)=v:=Int.toNat_of_nonneg h
theorem zlN {v:Int} (h:1≤v∧v≤1000000):RdP pS (low v.toNat 3) (fun m=>{m with session:=v}):=by
 have:=RdP.of (wj 3 v.toNat 1 1000000 (by omega) (by rw [tn (by omega)];simp [mIn,h.1,h.2])) (fun v m=>{m with session:=v})
 rw [tn (by omega)] at this
 exact this
theorem zlO {v:Int} (h:0≤v∧v≤256):RdP pF (low v.toNat 2) (fun m=>{m with from_:=v}):=by
 have:=RdP.of (wj 2 v.toNat 0 256 (by omega) (by rw [tn (by omega)];simp [mIn,h.1,h.2])) (fun v m=>{m with from_:=v})
 rw [tn (by omega)] at this
 exact this
theorem zjy {v:Int} (h:0≤v∧v≤256):RdP pZ (low v.toNat 2) (fun m=>{m with size:=v}):=by
 have:=RdP.of (wj 2 v.toNat 0 256 (by omega) (by rw [tn (by omega)];simp [mIn,h.1,h.2])) (fun v m=>{m with size:=v})
 rw [tn (by omega)] at this
 exact this
theorem rdP_C {v:Int} (h:1≤v∧v≤8):RdP pC (low v.toNat 1) (fun m=>{m with count:=v}):=by
 have:=RdP.of (wj 1 v.toNat 1 8 (by omega) (by rw [tn (by omega)];simp [mIn,h.1,h.2])) (fun v m=>{m with count:=v})
 rw [tn (by omega)] at this
 exact this
theorem zn4 {d:MDig} (h:d.ok):RdP pR d.bl (fun m=>{m with root:=d}):=RdP.of (zjx d h) (fun v m=>{m with root:=v})
theorem zja (n:Nat) (T:List UInt8) (r:MRd) (h:Sh T r):Sh T (yP n r).2:=by
 induction n with
 | zero=>exact h
 | succ n ih=>
  show Sh T (xS (yP n r).2 32).2
  rw [zas ih.ne]
  exact ih
theorem zhU (n:Nat) (T:List UInt8) (r:MRd) (h:Sh T r):Sh T (zP n r).2:=by
 induction n with
 | zero=>exact h
 | succ n ih=>exact zi9 T _ ih
theorem rdP_P {l:List MDig} (h:l.length≤16) (hd:∀d∈l,d.ok):RdP pP (low l.length 1++xP l) (fun m=>{m with proof:=l}):=by
 have h1:=wj 1 l.length 0 16 (by omega) (by simp [mIn];omega)
 exact RdP.of (RdS.bind (g:=fun v r=>yP v.toNat r) h1 (zg2 _ l rfl hd) (fun a' T r hs=>zja _ T r hs)) (fun v m=>{m with proof:=v})
theorem rdP_L {l:List ByteArray} (h:l.length≤8) (hd:zt l=true):RdP pL (low l.length 1++yA l) (fun m=>{m with leaves:=l}):=by
 have h1:=wj 1 l.length 0 8 (by omega) (by simp [mIn];omega)
 exact RdP.of (RdS.bind (g:=fun v r=>zP v.toNat r) h1 (zeO _ l rfl hd) (fun a' T r hs=>zhU _ T r hs)) (fun v m=>{m with leaves:=v})
def wbT (m:MMsg):List UInt8:=(wbL m).drop 1
theorem zbg {m:MMsg} (h:mIn m.kind 1 8=true):wbL m=UInt8.ofNat m.kind.toNat::wbT m∧(UInt8.ofNat m.kind.toNat).toNat=m.kind.toNat:=by
 have hk:1≤m.kind∧m.kind≤8:=by simpa [mIn] using h
 have e:low m.kind.toNat 1=[UInt8.ofNat m.kind.toNat]:=by
  simp only [low,Nat.pow_zero,Nat.div_one]
  rw [Nat.mod_eq_of_lt (by omega)]
 refine ⟨?_,by simp;omega⟩
 unfold wbT wbL bK
 rw [e]
 repeat' split
 all_goals rfl
theorem zo0 {d:MDig} (h:jd d dig0=true):d=dig0:=by
 obtain ⟨a,b,c,e⟩:=d
 simp only [jd,dig0,Bool.and_eq_true,Bool.not_eq_true',bne_eq_false_iff_eq] at h
 unfold dig0
 congr 1<;>omega
theorem zh0 (m:MMsg) (hok:zC m=true) (hr:m.root.ok) (hd:∀d∈m.proof,d.ok):RdS (fun r=>sw (xu m.kind.toNat (r,{MMsg.zero with kind:=m.kind}))) (wbT m) m:=by
 obtain ⟨k,se,fr,si,ro,co,pr,le⟩:=m
 have hk:=WOk.of hok
 simp only [zC,Bool.and_eq_true] at hok
 obtain ⟨h0,hs,hf,hz,hR,hc,hp,hl,hlo⟩:=hok
 simp only at h0 hs hf hz hR hc hp hl hlo hr hd
 rcases zkl k with rfl | rfl | rfl | rfl | rfl | rfl | rfl | rfl | ⟨h1,h2,h3,h4,h5,h6,h7,h8⟩
 case inr.inr.inr.inr.inr.inr.inr.inr=>simp [mIn] at h0;omega
 all_goals simp only [zcS,xT,if_true,if_false,Bool.false_eq_true,beq_iff_eq,Bool.false_or,Bool.true_or,mIn,Bool.and_eq_true,decide_eq_true_eq] at hs hf hz hR hc hp hl
 all_goals first | (have hro:=zo0 hR;subst hro) | skip
 all_goals subst_vars
 all_goals first | (have hpr:pr=[]:=List.eq_nil_of_length_eq_zero (by omega);subst hpr) | skip
 all_goals first | (have hle:le=[]:=List.eq_nil_of_length_eq_zero (by omega);subst hle) | skip
 ·exact zlN hs _
 ·exact ((zlN hs).seq ((zjy hz).seq (zn4 hr))) _
 ·exact ((zlN hs).seq ((zjy hz).seq (zn4 hr))) _
 ·exact ((zlO hf).seq (zjy hz)) _
 ·exact ((zlO hf).seq ((zjy hz).seq (rdP_P (by omega) hd))) _
 ·exact ((zlN hs).seq ((zjy hz).seq (zn4 hr))) _
 ·exact ((zlO hf).seq (rdP_C hc)) _
 ·exact ((zlO hf).seq (rdP_L (by omega) hlo)) _
theorem zdL (m:MMsg) (hok:zC m=true) (hr:m.root.ok) (hd:∀d∈m.proof,d.ok) (T' X S:List UInt8) (h:wbT m++X=T'++S):
  ∃x,zj (bA (UInt8.ofNat m.kind.toNat::T'))=xo (bA (UInt8.ofNat m.kind.toNat::T')) x∧((P1 (UInt8.ofNat m.kind.toNat::T') ((wbL m).length+X.length) X x.1∧x.2=m)∨(Sh (UInt8.ofNat m.kind.toNat::T') x.1∧T'.length+1<(wbL m).length+X.length)):=by
 have hk:=WOk.of hok
 obtain ⟨hw,hu⟩:=zbg hk.k
 have hk8:1≤m.kind∧m.kind≤8:=by have:=hk.k;simpa [mIn] using this
 have hb:bN (bA (UInt8.ofNat m.kind.toNat::T')) 0=m.kind.toNat:=by
  rw [zpr]
  exact hu
 refine ⟨xu m.kind.toNat (rd (UInt8.ofNat m.kind.toNat::T') 1,{MMsg.zero with kind:=m.kind}),?_,?_⟩
 ·unfold zj
  rw [if_neg (by rw [zU];simp),hb,if_pos (by omega),Int.toNat_of_nonneg (by omega)]
  rfl
 ·have hP:P1 (UInt8.ofNat m.kind.toNat::T') ((wbL m).length+X.length) (wbT m++X) (rd (UInt8.ofNat m.kind.toNat::T') 1):=by
   refine ⟨1,S,rfl,by simp,h,?_⟩
   rw [hw]
   simp only [List.length_append,List.length_cons]
   omega
  rcases (zh0 m hok hr hd).1 _ _ X _ hP with h1 | h1
  ·exact .inl h1
  ·refine .inr ⟨h1.1,?_⟩
   have:=h1.2
   simpa using this
theorem ziS {m:MMsg} (hok:zC m=true) (hr:m.root.ok) (hd:∀d∈m.proof,d.ok):zj (bA (wbL m))=(m,0,0):=by
 obtain ⟨hw,hu⟩:=zbg (WOk.of hok).k
 obtain ⟨⟨r,m'⟩,h1,h2⟩:=zdL m hok hr hd (wbT m) [] [] rfl
 rw [←hw] at h1 h2
 rw [h1]
 have hl:(wbL m).length=(wbT m).length+1:=by rw [hw];rfl
 rcases h2 with ⟨⟨p,S,rfl,hp,hR,hN⟩,hm⟩ | ⟨_,h2⟩
 ·obtain rfl:m'=m:=hm
  have hpe:p=(wbL m').length:=by simpa using hN
  unfold xo rd
  rw [if_pos rfl,if_neg (by rw [zU];simp only;omega)]
 ·simp at h2
  omega
theorem zqn {m:MMsg} (hok:zC m=true) (hr:m.root.ok) (hd:∀d∈m.proof,d.ok) (c:UInt8):zj (bA (wbL m++[c]))=(.zero,4,((wbL m).length:Int)):=by
 obtain ⟨hw,hu⟩:=zbg (WOk.of hok).k
 obtain ⟨⟨r,m'⟩,h1,h2⟩:=zdL m hok hr hd (wbT m++[c]) [c] [] (by simp)
 have e:UInt8.ofNat m.kind.toNat::(wbT m++[c])=wbL m++[c]:=by rw [hw];rfl
 rw [e] at h1 h2
 rw [h1]
 have hl:(wbL m).length=(wbT m).length+1:=by rw [hw];rfl
 rcases h2 with ⟨⟨p,S,rfl,hp,hR,hN⟩,hm⟩ | ⟨_,h2⟩
 ·obtain rfl:m'=m:=hm
  have hpe:p=(wbL m').length:=by simpa using hN
  unfold xo rd
  rw [if_pos rfl,if_pos (by rw [zU];simp;omega)]
  simp only [hpe]
 ·simp at h2
  omega
theorem wire_cut {m:MMsg} (hok:zC m=true) (hr:m.root.ok) (hd:∀d∈m.proof,d.ok) {k:Nat} (hk:k<(wbL m).length):zj (bA ((wbL m).take k))=(.zero,2,(k:Int)):=by
 obtain ⟨hw,hu⟩:=zbg (WOk.of hok).k
 cases k with
 | zero=>rfl
 | succ k=>
  obtain ⟨⟨r,m'⟩,h1,h2⟩:=zdL m hok hr hd ((wbT m).take k) [] ((wbT m).drop k) (by simp)
  have e:UInt8.ofNat m.kind.toNat::(wbT m).take k=(wbL m).take (k+1):=by rw [hw];rfl
  have hl:((wbL m).take (k+1)).length=k+1:=by simp;omega
  rw [e] at h1 h2
  rw [h1]
  rcases h2 with ⟨⟨p,S,rfl,hp,hR,hN⟩,hm⟩ | ⟨⟨h2,h3⟩,_⟩
  ·have hpe:p=(wbL m).length:=by simpa using hN
   omega
  ·simp only at h2 h3
   unfold xo
   simp only
   rw [if_neg (by rw [h2];decide),h2,h3,hl]
end Go.Proofs.YtpjpkmhaffmbmaaGreat.E
end
