/- The world stays well: the plain law. -/
import Derived.Test.YtobpfkgabdeefaaGreatQ28
namespace Go.Proofs.YtobpfkgabdeefaaGreat.E
open Go Go.RowKit
set_option linter.unusedVariables false
set_option linter.unusedSimpArgs false
theorem Ez (m:aJ):(gy m).size<=600:=by
 unfold gy;split
 ·rename_i hw;have:=Xz (nR.of hw);show(bA (gO m)).size<=600
  rw[iY];omega
 exact aR _
theorem xx {f t:Int}{m:aJ}(hf:0<=f/\f<=20) (ht:0<=t/\t<=20):df ⟨f,t,gy m⟩=true:=by
 have:=Ez m;simp only[df,Bool.and_eq_true,cr,decide_eq_true_eq];exact⟨hf,ht,by omega⟩
theorem xy {l:aC}(h:df l=true):(0<=l.from_/\l.from_<=20)/\(0<=l.iB/\l.iB<=20)/\l.text.size<=600:=by
 simp only[df,Bool.and_eq_true,cr,decide_eq_true_eq]at h;exact⟨h.1,h.2.1,by omega⟩
theorem Iz {w:bz}{me:Int}{l:aC}(hm:0<=me/\me<=20):∀x∈(fX w me l).bR,df x=true:=by
 unfold fX;split
 case isFalse=>intro x hx;cases hx
 rename_i c;simp only[Bool.and_eq_true]at c;have hb:=xy c.2.1;obtain⟨h8,hp,ha⟩:=sj.1 c.1;split
 ·unfold jR;split
  ·intro x hx;cases hx
  split
  ·intro x hx;rw[List.mem_singleton.1 hx];exact xx hm hb.1
  split
  ·intro x hx;cases hx
  split
  ·intro x hx;rw[List.mem_singleton.1 hx];exact xx hm (by omega)
  intro x hx;cases hx
 split
 ·unfold k9;obtain⟨l',e1,s1⟩:=G4 (cO w.aH) (cf l.text).1.size (cf l.text).1.proof w.aQ ⟨[],false,.zero,[]⟩;have e1:(gF (cO w.aH) (cf l.text).1.size (cf l.text).1.proof w.aQ).left=l':=e1;generalize gF (cO w.aH) (cf l.text).1.size (cf l.text).1.proof w.aQ=S at *;split
  ·intro x hx;cases hx
  split
  ·intro x hx;cases hx
  split
  ·intro x hx;cases hx
  refine Sr me S.p S.left (fun x=>df x=true) (fun y hy _=>?_) ⟨[],S.al,[]⟩ (fun y hy=>by cases hy);have h1:=ha y (s1.subset (e1▸hy));simp only[nU,Bool.and_eq_true,cr]at h1;exact xx hm (by omega)
 intro x hx;cases hx
theorem Ga {c:bw}{me:Int}{t:cW}(h:dG c=true) (k:Kept c me t) (hm:0<=me/\me<=20):∀x∈t.bR,df x=true:=by
 have hp:=Am h;rcases k.RZ with e|⟨e,-⟩
 ·rw[e];intro x hx;cases hx
 rw[e];intro x hx;obtain⟨i,hi,rfl⟩:=List.mem_map.1 hx;have:=List.mem_range.1 hi;have:=hp.m;exact xx hm (by omega)
theorem EK {c:bw}{me:Int}(h:dG c=true) (hm:aS me 1 20=true):dG (fY c me).cl=true/\(fY c me).cl.aP=c.aP/\(fY c me).acc=[]/\(fY c me).dN=[]/\∀x∈(fY c me).bR,df x=true:=by
 have hp:=Am h;have hi:=cr.1 hm;unfold fY;rw[h,hm,if_pos (by rfl)];split
 ·exact⟨h,rfl,rfl,rfl,fun x hx=>by cases hx⟩
 rename_i hs;refine⟨?_,rfl,rfl,rfl,fun x hx=>?_⟩
 ·have h0:=h;simp only[dG,Bool.and_eq_true]at h0 ⊢;obtain⟨a1,a2,a3,a4,a5,-⟩:=h0;have rA:=hp.s;refine⟨a1,a2,a3,cr.2 (by omega),a5,?_⟩;rw[if_pos (by simp)];simp only[Bool.and_eq_true,decide_eq_true_eq];exact⟨vN.2 rfl,rfl,by omega⟩
 rw[List.mem_singleton.1 hx];exact xx (by omega) (by omega)
theorem BT {m:c9}{me:Int}{l:aC}(h1:i6 m=true) (h2:df l=true) (h3:aS me 1 20=true):D9 m (jr m me l)/\∀x∈(jr m me l).bR,df x=true:=by
 have hi:=cr.1 h3;have hc:dG m.cl=true:=(j7.of h1).c;unfold jr;rw[h1,h2,h3,if_pos (by rfl)];split
 ·rename_i c;simp only[Bool.and_eq_true,beq_iff_eq]at c;refine⟨abk (j7.of h1) (ra h1).1 (It c.1),?_⟩;unfold oT
  repeat' split
  all_goals(intro x hx;cases hx)
 have ho:jc m.cl me l=true:=by unfold jc;rw[hc,h2,h3];rfl
 have k:=xA ho;exact⟨abj (j7.of h1) k,Ga hc k (by omega)⟩
theorem JU {m:c9}{me:Int}(h1:i6 m=true) (h3:aS me 1 20=true):i6 (jq m me).cS=true/\∀x∈(jq m me).bR,df x=true:=by
 have hi:=cr.1 h3;have ho:=j7.of h1;unfold jq;rw[h1,h3,if_pos (by rfl)];split
 ·refine⟨h1,fun x hx=>?_⟩;rw[List.mem_singleton.1 hx];exact xx (by omega) (by omega)
 obtain⟨t1,t2,-,-,t5⟩:=EK ho.c h3;refine⟨j7.mk' ⟨t1,ho.l,?_,?_⟩,t5⟩
 ·show(m.az.length:Int)<=(fY m.cl me).cl.aP.size
  rw[t2];exact ho.le
 show(eu m.done .zero=true/\((m.az.length:Int)<(fY m.cl me).cl.aP.size\/(fY m.cl me).cl.aP.size=0))\/(eu m.done .zero=false/\(1<=m.done.size/\m.done.size<=m.az.length)/\j0 (fp (m.az.take m.done.size.toNat)).dg m.done.root=true/\((m.az.length:Int)<(fY m.cl me).cl.aP.size\/m.done=(fY m.cl me).cl.aP))
 rw[t2];exact ho.z
theorem F3 {l:List ByteArray}{x:aC}(h:(i7 l x).2=true):df (i7 l x).1=true:=by
 unfold i7 at h ⊢;split
 ·rename_i hx;have hb:=xy hx;rw[if_pos hx]at h;split
  ·rename_i h1;rw[if_pos h1]at h;split
   ·exact xx (by omega) (by omega)
   rename_i h2;rw[if_neg h2]at h;cases h
  rename_i h1;rw[if_neg h1]at h;cases h
 rename_i hx;rw[if_neg hx]at h;cases h
structure ae.wf (w:ae):Prop where
 so:ij w.set=true
 nw:(w.aj.length:Int)=w.set.many
 nc:(w.cls.length:Int)=w.set.bB
 nu:w.up.length=w.aj.length+w.cls.length+2
 nb:w.ai.length=w.aj.length+w.cls.length+2
 rm:w.room=w.set.room
 lg:eJ w.log=true
 bl:(w.aO.length:Int)<=w.room
 bg:∀x∈w.aO,df x=true
 bx:∀b∈w.ai,(b.length:Int)<=w.set.inbox/\∀x∈b,df x=true
 wt:∀x∈w.aj,x.aH.ok/\iQ x=true/\∀y∈x.aQ,y.pt.root.ok
 cl:∀c∈w.cls,dG c=true
 mn:i6 w.cS=true
structure iN (w v:ae):Prop where
 set:v.set=w.set
 log:v.log=w.log
 aj:v.aj=w.aj
 cls:v.cls=w.cls
 cS:v.cS=w.cS
 up:v.up=w.up
 ai:v.ai=w.ai
 room:v.room=w.room
 stop:v.stop=w.stop
theorem iN.refl (w:ae):iN w w:=⟨rfl,rfl,rfl,rfl,rfl,rfl,rfl,rfl,rfl⟩
theorem iN.trans {u v w:ae}(h:iN u v) (k:iN v w):iN u w:=
 ⟨k.set.trans h.set,k.log.trans h.log,k.aj.trans h.aj,k.cls.trans h.cls,k.cS.trans h.cS,k.up.trans h.up,k.ai.trans h.ai,k.room.trans h.room,k.stop.trans h.stop⟩
theorem iN.fold {α:Type}{f:ae->α->ae}(hf:∀w a,iN w (f w a)):∀(l:List α) (w:ae),iN w (l.foldl f w)
 | [],w=>.refl w
 | a::l,w=>(hf w a).trans (iN.fold hf l (f w a))
theorem qJ (w:ae) (e:dK):iN w (ik w e):=⟨rfl,rfl,rfl,rfl,rfl,rfl,rfl,rfl,rfl⟩
theorem ta (w:ae) (x:aC):iN w (lK w x):=by
 unfold lK;split
 ·exact .refl w
 exact⟨rfl,rfl,rfl,rfl,rfl,rfl,rfl,rfl,rfl⟩
theorem lq (w:ae) (l:List aC):iN w (fP w l):=iN.fold ta l w
theorem gG (w:ae) (n:Int) (l:List ez):iN w (il w n l):=iN.fold (fun w a=>qJ w _) l w
theorem fV (w:ae) (k n:Int) (l:List cg):iN w (iD w k n l):=iN.fold (fun w a=>qJ w _) l w
theorem kK (w:ae) (n:Int) (l:List iZ):iN w (fC w n l):=iN.fold (fun w a=>qJ w _) l w
theorem qK (w:ae) (n:Int) (l:List aC):iN w (iE w n l):=iN.fold (fun w a=>by
 show iN w (if xC a then _ else w)
 split
 ·exact qJ w _
 exact .refl w) l w
theorem DK {α:Type}{f:ae->α->ae}(hf:∀w a,(f w a).aO=w.aO):∀(l:List α) (w:ae),(l.foldl f w).aO=w.aO
 | [],w=>rfl
 | a::l,w=>(DK hf l (f w a)).trans (hf w a)
theorem HU (w:ae) (n:Int) (l:List ez):(il w n l).aO=w.aO:=by
 unfold il;refine DK (fun w a=>?_) l w;rfl
theorem Ni (w:ae) (k n:Int) (l:List cg):(iD w k n l).aO=w.aO:=by
 unfold iD;refine DK (fun w a=>?_) l w;rfl
theorem Nj (w:ae) (n:Int) (l:List iZ):(fC w n l).aO=w.aO:=by
 unfold fC;refine DK (fun w a=>?_) l w;rfl
theorem Wm (w:ae) (n:Int) (l:List aC):(iE w n l).aO=w.aO:=by
 unfold iE;refine DK (fun w a=>?_) l w;split<;>rfl
theorem ae.wf.rL {w v:ae}(h:w.wf) (k:iN w v) (hl:(v.aO.length:Int)<=v.room) (hb:∀x∈v.aO,df x=true):v.wf:=
 ⟨by rw[k.set];exact h.so,by rw[k.set,k.aj];exact h.nw,by rw[k.set,k.cls];exact h.nc,by rw[k.up,k.aj,k.cls];exact h.nu,by rw[k.ai,k.aj,k.cls];exact h.nb,by rw[k.room,k.set];exact h.rm,by rw[k.log];exact h.lg,hl,hb,
  by rw[k.ai,k.set];exact h.bx,by rw[k.aj];exact h.wt,by rw[k.cls];exact h.cl,by rw[k.cS];exact h.mn⟩
theorem ae.wf.note {w v:ae}(h:w.wf) (k:iN w v) (hb:v.aO=w.aO):v.wf:=h.rL k (by rw[hb,k.room];exact h.bl) (by rw[hb];exact h.bg)
theorem ae.wf.Bh {w:ae}(h:w.wf) {x:aC}(hx:df x=true):(lK w x).wf:=by
 refine h.rL (ta w x) ?_ ?_
 ·unfold lK;split
  ·exact h.bl
  rename_i hn;show((w.aO++[x]).length:Int)<=w.room
  rw[List.length_append];show((w.aO.length+1:Nat):Int)<=w.room
  omega
 unfold lK;split
 ·exact h.bg
 intro y hy;rcases List.mem_append.1 hy with hy|hy
 ·exact h.bg y hy
 rw[List.mem_singleton.1 hy];exact hx
theorem ae.wf.send:∀{l:List aC}{w:ae},w.wf->(∀x∈l,df x=true)->(fP w l).wf
 | [],w,h,_=>h
 | x::l,w,h,hl=>ae.wf.send (l:=l) (h.Bh (hl x (List.mem_cons_self ..))) fun y hy=>hl y (List.mem_cons_of_mem _ hy)
theorem mem_set {α:Type}{l:List α}{i:Nat}{a:α}{P:α->Prop}(h:∀x∈l,P x) (ha:P a):∀x∈l.set i a,P x:=fun x hx=>(List.mem_or_eq_of_mem_set hx).elim (h x) fun e=>e▸ha
theorem je {α:Type}{l:List α}{i:Nat}{d:α}(h:i<l.length):l.getD i d∈l:=by
 rw[List.getD_eq_getElem?_getD,bm h];exact List.getElem_mem h
theorem ae.wf.told {w:ae}(h:w.wf) {n:Nat}{t:cW}(ht:dG t.cl=true) (hl:∀x∈t.bR,df x=true):(oQ w n t).wf:=by
 have h1:ae.wf {w with cls:=w.cls.set (n - w.aj.length - 1) t.cl}:=
  ⟨h.so,h.nw,by show((w.cls.set _ _).length:Int)=_;rw[List.length_set];exact h.nc,by show w.up.length=w.aj.length+(w.cls.set _ _).length+2;rw[List.length_set];exact h.nu,by show w.ai.length=w.aj.length+(w.cls.set _ _).length+2;rw[List.length_set];exact h.nb,h.rm,h.lg,h.bl,h.bg,h.bx,h.wt,mem_set h.cl ht,h.mn⟩
 have h2:=h1.send hl;exact(h2.note (fV _ 1 n t.acc) (Ni _ _ _ _)).note (gG _ n t.dN) (HU _ _ _)
theorem ae.wf.watched {w:ae}(h:w.wf) {n:Nat}{t:gx}(ht:i6 t.cS=true) (hl:∀x∈t.bR,df x=true):(oP w n t).wf:=by
 have h1:ae.wf {w with cS:=t.cS}:=⟨h.so,h.nw,h.nc,h.nu,h.nb,h.rm,h.lg,h.bl,h.bg,h.bx,h.wt,h.cl,ht⟩;have h2:=h1.send hl;exact((h2.note (fV _ 1 n t.acc) (Ni _ _ _ _)).note (fV _ 5 n t.kx) (Ni _ _ _ _)).note (gG _ n t.dN) (HU _ _ _)
theorem ae.wf.qf {w:ae}(h:w.wf) {i:Nat}{x:bz}(hx:x.aH.ok/\iQ x=true/\∀y∈x.aQ,y.pt.root.ok):ae.wf {w with aj:=w.aj.set i x}:=
 ⟨h.so,by show((w.aj.set _ _).length:Int)=_;rw[List.length_set];exact h.nw,h.nc,by show w.up.length=(w.aj.set _ _).length+w.cls.length+2;rw[List.length_set];exact h.nu,by show w.ai.length=(w.aj.set _ _).length+w.cls.length+2;rw[List.length_set];exact h.nb,h.rm,h.lg,h.bl,h.bg,h.bx,mem_set h.wt hx,h.cl,h.mn⟩
theorem ae.wf.first {w:ae}(h:w.wf) (n:Nat):(jI w n).1.wf/\df (jI w n).2=true:=by
 unfold jI;split
 ·rename_i x l he;have hb:=h.bx _ (dk he);refine⟨⟨h.so,h.nw,h.nc,h.nu,by show(w.ai.set _ _).length=_;rw[List.length_set];exact h.nb,h.rm,h.lg,h.bl,h.bg,mem_set h.bx ⟨?_,fun y hy=>hb.2 y (List.mem_cons_of_mem _ hy)⟩,h.wt,h.cl,h.mn⟩,hb.2 x (List.mem_cons_self ..)⟩;have:=hb.1;rw[List.length_cons]at this;show(l.length:Int)<=w.set.inbox
  omega
 exact⟨h,rfl⟩
theorem ae.wf.CM {w:ae}(h:w.wf) {n:Nat}{x:aC}(hn:n<w.aj.length+w.cls.length+2) (hx:df x=true):(fA w n x).wf:=by
 have hs:=ea h.so;have h1:=h.nw;have h2:=h.nc;unfold fA;split
 ·split
  ·rename_i hl;exact h.Bh (F3 hl)
  exact h
 rename_i n0;have kr:aS (n:Int) 1 20=true:=cr.2 (by omega);split
 ·rename_i nw;obtain⟨w1,w2,w3⟩:=h.wt _ (je (l:=w.aj) (i:=n - 1) (d:=cJ) (by omega));generalize w.aj.getD (n - 1) cJ=y at *;have hm:=uR (me:=(n:Int)) (l:=x) w1 w3;have ht:=(Iy (me:=(n:Int)) (l:=x) w2 hx kr w3).1;have hl:=Iz (w:=y) (me:=(n:Int)) (l:=x) (by omega);generalize fX y n x=T at *;unfold B3;have k1:=h.qf (i:=n - 1) (x:=⟨T.aH,T.aQ⟩) ⟨hm.d,ht.ok,hm.x w3⟩;have k2:=(k1.note (kK _ n T.kept.toList) (Nj _ _ _)).note (qK _ n T.bR) (Wm _ _ _);exact(k2.send hl).note (gG _ n T.dN) (HU _ _ _)
 rename_i nw;split
 ·have hc:=h.cl _ (je (l:=w.cls) (i:=n - w.aj.length - 1) (d:=dW w.set) (by omega));generalize w.cls.getD (n - w.aj.length - 1) (dW w.set)=c at *;have ho:jc c n x=true:=by unfold jc;rw[hc,hx,kr];rfl
  have k:=xA ho;exact h.told k.ok (Ga hc k (by omega))
 have k:=BT h.mn hx kr;exact h.watched (j7.mk' k.1.ok) k.2
theorem ae.wf.vJ {w:ae}(h:w.wf) {n:Nat}(hn:n<w.aj.length+w.cls.length+2):(js w n).wf:=by
 have hf:=h.first n;have e:(jI w n).1.aj=w.aj/\(jI w n).1.cls=w.cls:=by unfold jI;split<;>exact⟨rfl,rfl⟩
 exact hf.1.CM (by rw[e.1,e.2];exact hn) hf.2
theorem FI {s:et}(h:ij s=true):dG (dW s)=true:=by
 have hs:=ea h;exact UG (c:=dW s) ⟨by show 1<=s.many/\s.many<=7;omega,by show 1<=s.eH/\s.eH<=s.many;omega,by show s.many<2 * s.eH;omega,by show(0:Int)<=0/\(0:Int)<=1000000;omega,by show lL .zero=true;decide,by show(0:Int)<=0/\(0:Int)<=256;omega⟩ rfl rfl rfl
theorem Q5 {s:et}(h:ij s=true):i6 (qm s)=true:=
 j7.mk' ⟨FI h,by show eJ []=true;decide,Int.le_refl _,.inl ⟨by show eu .zero .zero=true;decide,.inr rfl⟩⟩
theorem Ir {d:cX}(h:d.ok):(⟨d,[]⟩:bz).aH.ok/\iQ ⟨d,[]⟩=true/\∀y∈(⟨d,[]⟩:bz).aQ,y.pt.root.ok:=
 ⟨h,sj.2 ⟨aR _,.nil,fun x hx=>(by cases hx)⟩,fun y hy=>(by cases hy)⟩
theorem N9 {w:bz}{d:cX}(h:w.aH.ok/\iQ w=true/\∀y∈w.aQ,y.pt.root.ok) (hd:d.ok) (hr:ej d=ej w.aH):(⟨d,w.aQ⟩:bz).aH.ok/\iQ ⟨d,w.aQ⟩=true/\∀y∈(⟨d,w.aQ⟩:bz).aQ,y.pt.root.ok:=by
 have e:cO d=cO w.aH:=by unfold cO;rw[hr]
 obtain⟨a1,a2,a3⟩:=sj.1 h.2.1;exact⟨hd,sj.2 ⟨a1,a2,by show ∀x∈w.aQ,nU (cO d).size x=true;rw[e];exact a3⟩,h.2.2⟩
theorem Ip (d:cX):eB d (gQ d)=fu d (gQ d) (gQ d).length:=by
 unfold fu;rw[Int.toNat_natCast,List.take_length]
theorem Io {d:cX}(h:d.ok) (j:Int):(fu d (gQ d) j).ok:=
 FO h fun r hr=>by rw[abK d r (List.mem_of_mem_take hr)];decide
theorem ae.wf.up {w:ae}(h:w.wf) (n:Nat) (b:Bool):ae.wf {w with up:=w.up.set n b}:=
 ⟨h.so,h.nw,h.nc,by show(w.up.set _ _).length=_;rw[List.length_set];exact h.nu,h.nb,h.rm,h.lg,h.bl,h.bg,h.bx,h.wt,h.cl,h.mn⟩
theorem ae.wf.box {w:ae}(h:w.wf) (n:Nat) {b:List aC}(hb:(b.length:Int)<=w.set.inbox/\∀x∈b,df x=true):ae.wf {w with ai:=w.ai.set n b}:=
 ⟨h.so,h.nw,h.nc,h.nu,by show(w.ai.set _ _).length=_;rw[List.length_set];exact h.nb,h.rm,h.lg,h.bl,h.bg,mem_set h.bx hb,h.wt,h.cl,h.mn⟩
theorem ae.wf.aO {w:ae}(h:w.wf) {b:List aC}(hl:b.length<=w.aO.length) (hb:∀x∈b,x∈w.aO):ae.wf {w with aO:=b}:=
 ⟨h.so,h.nw,h.nc,h.nu,h.nb,h.rm,h.lg,by have:=h.bl;show(b.length:Int)<=w.room;omega,fun x hx=>h.bg x (hb x hx),h.bx,h.wt,h.cl,h.mn⟩
theorem ae.wf.fresh {w:ae}(h:w.wf) (n:Nat):(eQ w n).wf:=by
 unfold eQ;split
 ·exact⟨h.so,h.nw,h.nc,h.nu,h.nb,h.rm,by show eJ []=true;decide,h.bl,h.bg,h.bx,h.wt,h.cl,h.mn⟩
 split
 ·exact h.qf (Ir (h.wt _ (je (l:=w.aj) (i:=n - 1) (d:=cJ) (by omega))).1)
 split
 ·exact⟨h.so,h.nw,by show((w.cls.set _ _).length:Int)=_;rw[List.length_set];exact h.nc,by show w.up.length=w.aj.length+(w.cls.set _ _).length+2;rw[List.length_set];exact h.nu,by show w.ai.length=w.aj.length+(w.cls.set _ _).length+2;rw[List.length_set];exact h.nb,h.rm,h.lg,h.bl,h.bg,h.bx,h.wt,mem_set h.cl (FI h.so),h.mn⟩
 exact⟨h.so,h.nw,h.nc,h.nu,h.nb,h.rm,h.lg,h.bl,h.bg,h.bx,h.wt,h.cl,Q5 h.so⟩
theorem ae.wf.nil {w:ae}(h:w.wf):(([]:List aC).length:Int)<=w.set.inbox/\∀x∈([]:List aC),df x=true:=
 ⟨by have:=ea h.so;show(0:Int)<=_;omega,fun x hx=>(by cases hx)⟩
theorem ae.wf.down {w:ae}(h:w.wf) (n:Nat):(iR w n).wf:=
 (((h.up n false).box n h.nil).fresh n).note (qJ _ _) rfl
theorem vM (w:ae) (n:Nat):(jI w n).1.set=w.set/\(jI w n).1.aj=w.aj/\(jI w n).1.cls=w.cls/\(jI w n).1.book=w.book:=by
 unfold jI;split<;>exact⟨rfl,rfl,rfl,rfl⟩
theorem LN (v:ae) {n:Nat}(hn:1<=n/\n<=v.aj.length):eQ v n={v with aj:=v.aj.set (n - 1) ⟨(v.aj.getD (n - 1) cJ).aH,[]⟩}:=by
 unfold eQ;rw[if_neg (by omega),if_pos hn.2]
theorem T2 (w:ae) {n:Nat}(hn:1<=n/\n<=w.aj.length) (d:cX) (l m:List bD):iR {w with aj:=w.aj.set (n - 1) ⟨d,l⟩} n=iR {w with aj:=w.aj.set (n - 1) ⟨d,m⟩} n:=by
 have e:∀y:bz,(w.aj.set (n - 1) y).getD (n - 1) cJ=y:=fun y=>by
  rw[List.getD_eq_getElem?_getD,List.getElem?_set_self (by omega)];rfl
 have k:∀l,iR {w with aj:=w.aj.set (n - 1) ⟨d,l⟩} n=ik {w with up:=w.up.set n false,ai:=w.ai.set n [],aj:=w.aj.set (n - 1) ⟨d,[]⟩} ⟨7,n,0,0,0,.zero,.zero,[]⟩:=by
  intro l;unfold iR;rw[LN _ (by show 1<=n/\n<=(w.aj.set (n - 1) ⟨d,l⟩).length;rw[List.length_set];exact hn)];simp only[e,List.set_set]
 rw[k l,k m]
theorem ace (w:ae) (n:Int) (l:List iZ) (ws:List bz):fC {w with aj:=ws} n l={fC w n l with aj:=ws}:=by
 unfold fC;induction l generalizing w with
 | nil=>rfl
 | cons a l ih=>exact ih (ik w _)
theorem aep (w:ae) {n:Nat}(hn:1<=n/\n<=w.aj.length) (cut:Int):nA w n cut=
  (let p:=jI w n
   let d:=(p.1.aj.getD (n - 1) cJ)
   let h:=fX d n p.2
   let v:=if cut>=(h.eG.length:Int) then fC p.1 n h.kept.toList else p.1
   iR {v with aj:=v.aj.set (n - 1) ⟨fu d.aH h.eG cut,[]⟩} n):=by
 obtain⟨-,e2,-,-⟩:=vM w n;unfold nA;generalize jI w n=p at *;obtain⟨p1,p2⟩:=p;have e2:p1.aj=w.aj:=e2;dsimp only;generalize fX (p1.aj.getD (n - 1) cJ) n p2=H;split
 ·rw[ace,<-(kK p1 n H.kept.toList).aj];exact T2 _ (by rw[(kK p1 n H.kept.toList).aj,e2];exact hn) _ _ _
 exact T2 _ (by rw[e2];exact hn) _ _ _
theorem ae.wf.LZ {w:ae}(h:w.wf) {n:Nat}(hn:1<=n/\n<=w.aj.length) (cut:Int):(nA w n cut).wf:=by
 rw[aep w hn];have hf:=h.first n;obtain⟨-,e2,-,-⟩:=vM w n;generalize jI w n=p at *;obtain⟨p1,p2⟩:=p;dsimp only at *;obtain⟨w1,w2,w3⟩:=hf.1.wt _ (je (l:=p1.aj) (i:=n - 1) (d:=cJ) (by rw[e2];omega));generalize p1.aj.getD (n - 1) cJ=y at *;have hm:=uR (me:=(n:Int)) (l:=p2) w1 w3;generalize fX y n p2=H at *;have hd:(fu y.aH H.eG cut).ok:=FO w1 fun r hr=>hm.v r (List.mem_of_mem_take hr)
 have hv:ae.wf (if cut>=(H.eG.length:Int) then fC p1 n H.kept.toList else p1):=by
  split
  ·exact hf.1.note (kK _ _ _) (Nj _ _ _)
  exact hf.1
 exact(hv.qf (Ir hd)).down n
theorem ae.wf.Bn {w:ae}(h:w.wf) (n:Nat):(mN w n).wf:=by
 unfold mN;split
 ·rename_i hn;have hw:=h.wt _ (je (l:=w.aj) (i:=n - 1) (d:=cJ) (by omega));have k:=(h.up n true).qf (i:=n - 1) (N9 (d:=eB (w.aj.getD (n - 1) cJ).aH (gQ (w.aj.getD (n - 1) cJ).aH)) hw (by rw[Ip];exact Io hw.1 _) (by rw[Ip];exact Ri _ _));exact k.note (qJ _ _) rfl
 exact h.up n true
theorem ae.wf.half {w:ae}(h:w.wf) {n:Nat}(hn:1<=n/\n<=w.aj.length) (cut:Int):ae.wf {w with aj:=w.aj.set (n - 1) ⟨fu (w.aj.getD (n - 1) cJ).aH (gQ (w.aj.getD (n - 1) cJ).aH) cut,(w.aj.getD (n - 1) cJ).aQ⟩}:=by
 have hw:=h.wt _ (je (l:=w.aj) (i:=n - 1) (d:=cJ) (by omega));exact h.qf (N9 (d:=fu (w.aj.getD (n - 1) cJ).aH (gQ (w.aj.getD (n - 1) cJ).aH) cut) hw (Io hw.1 _) (Ri _ _))
theorem ae.wf.tick {w:ae}(h:w.wf) {n:Nat}(hn:n<w.aj.length+w.cls.length+2):(i5 w n).wf:=by
 have hs:=ea h.so;have h1:=h.nw;have h2:=h.nc;unfold i5;split
 ·have k:=JU (me:=(n:Int)) h.mn (cr.2 (by omega));exact h.watched k.1 k.2
 split
 ·have hc:=h.cl _ (je (l:=w.cls) (i:=n - w.aj.length - 1) (d:=dW w.set) (by omega));have k:=EK (me:=(n:Int)) hc (cr.2 (by omega));exact h.told k.1 k.2.2.2.2
 exact h
theorem ae.wf.node {w:ae}(h:w.wf) {n:Nat}(hn:n<w.aj.length+w.cls.length+2) {x:bQ}(hx:e9 x=true):(mg w x n).wf:=by
 have hs:=ea h.so;have h1:=h.nw;have h2:=h.nc;unfold mg;split
 ·exact h.tick hn
 split
 ·rename_i c;exact h.LZ c.2.2.1 _
 split
 ·exact h.down n
 split
 ·exact h.Bn n
 split
 ·rename_i c;exact h.half c.2.2 _
 split
 ·refine h.Bh ?_;simp only[e9,Bool.and_eq_true,decide_eq_true_eq,cr]at hx;simp only[df,Bool.and_eq_true,decide_eq_true_eq,cr];refine⟨by omega,by omega,?_⟩;have:=hx.2.2;omega
 exact h
theorem ae.wf.yn {w:ae}(h:w.wf) (k:Int):(ju w k).wf:=by
 unfold ju;split
 ·rename_i x hx;have hb:=h.aO (b:=w.aO.eraseIdx (eP k w.aO.length)) (List.length_eraseIdx_le _ _) fun y hy=>List.mem_of_mem_eraseIdx hy
  dsimp only;split
  ·rename_i c;have pT:=h.bx _ (je (l:=w.ai) (i:=x.iB.toNat) (d:=[]) c.1);refine hb.box x.iB.toNat ⟨?_,fun y hy=>?_⟩
   ·rw[List.length_append];have:=c.2.2;show((_+1:Nat):Int)<=w.set.inbox
    omega
   rcases List.mem_append.1 hy with hy|hy
   ·exact pT.2 y hy
   rw[List.mem_singleton.1 hy];exact h.bg x (dk hx)
  exact hb
 exact h
theorem ae.wf.pY:∀(n:Nat) {w:ae},w.wf->(iS n w).wf
 | 0,w,h=>h
 | n+1,w,h=>ae.wf.pY n (h.yn 0)
theorem E3 {w:ae}(h:w.wf) {i:Nat}{l:List Nat}(e:gP w=i::l):i<w.aj.length+w.cls.length+2:=by
 have hi:i∈gP w:=by rw[e];exact List.mem_cons_self ..
 have:=List.mem_range.1 (List.mem_filter.1 hi).1;have:=h.nu;omega
theorem ae.wf.CL:∀(n:Nat) {w:ae},w.wf->(jt n w).wf
 | 0,w,h=>h
 | n+1,w,h=>by
  unfold jt;split
  ·exact h
  rename_i i l e;exact ae.wf.CL n (h.vJ (E3 h e))
theorem ae.wf.round {w:ae}(h:w.wf):(pD w).wf:=(h.pY _).CL _
theorem ae.wf.tN:∀(n:Nat) {w:ae},w.wf->(jP n w).wf
 | 0,w,h=>h
 | n+1,w,h=>ae.wf.tN n h.round
theorem ae.wf.double {w:ae}(h:w.wf) (k:Int):(vi w k).wf:=by
 unfold vi;split
 ·rename_i x hx;split
  ·exact h
  rename_i hn;refine⟨h.so,h.nw,h.nc,h.nu,h.nb,h.rm,h.lg,?_,?_,h.bx,h.wt,h.cl,h.mn⟩
  ·show((w.aO++[x]).length:Int)<=w.room
   rw[List.length_append];show((w.aO.length+1:Nat):Int)<=w.room
   omega
  intro y hy;rcases List.mem_append.1 hy with hy|hy
  ·exact h.bg y hy
  rw[List.mem_singleton.1 hy];exact h.bg x (dk hx)
 exact h
theorem ab0 {l:List ByteArray}(h:eJ l=true) (t:ByteArray):eJ (BZ l t)=true:=by
 unfold BZ;rw[if_pos h];split
 ·exact h
 rename_i hn;obtain⟨h1,h2⟩:=gB h;simp only[eJ,Bool.and_eq_true,decide_eq_true_eq,ec,List.all_eq_true,List.length_append,List.length_singleton];refine⟨by omega,fun b hb=>?_⟩;rcases List.mem_append.1 hb with hb|hb
 ·exact h2 b hb
 rw[List.mem_singleton.1 hb];omega
theorem ae.wf.YB {w:ae}(h:w.wf):(u9 w).wf:=by
 refine⟨h.so,h.nw,h.nc,by show(w.up.map _).length=_;rw[List.length_map];exact h.nu,by show(w.ai.map _).length=_;rw[List.length_map];exact h.nb,h.rm,h.lg,?_,fun x hx=>(by cases hx),fun b hb=>?_,h.wt,h.cl,h.mn⟩
 ·have:=ea h.so;have:=h.rm;show(0:Int)<=w.room
  omega
 obtain⟨b',-,rfl⟩:=List.mem_map.1 hb;exact h.nil
theorem ae.wf.step {w:ae}(h:w.wf) {x:bQ}(hx:e9 x=true):(eZ w x).wf:=by
 unfold eZ;split
 ·exact h
 split
 ·split
  ·exact⟨h.so,h.nw,h.nc,h.nu,h.nb,h.rm,ab0 h.lg _,h.bl,h.bg,h.bx,h.wt,h.cl,h.mn⟩
  exact h
 split
 ·exact h.yn _
 split
 ·refine h.aO ?_ ?_
  ·split
   ·exact aR _
   exact List.length_eraseIdx_le _ _
  split
  ·intro x hx;cases hx
  exact fun y hy=>List.mem_of_mem_eraseIdx hy
 split
 ·exact h.double _
 split
 ·split
  ·rename_i n hn;have:=List.mem_range.1 (List.mem_filter.1 (dk hn)).1;have:=h.nu;exact h.vJ (by omega)
  exact h
 split
 ·exact h.tN _
 split
 ·exact h.YB
 split
 ·rename_i hl;have aW:=hx;simp only[e9,Bool.and_eq_true,cr]at aW;exact h.node (by omega) hx
 exact h
theorem zu {s:et}(h:ij s=true):(gz s).wf:=by
 have hs:=ea h;have hz:∀(n:Nat),∀b∈List.replicate n ([]:List aC),(b.length:Int)<=s.inbox/\∀x∈b,df x=true:=fun n b hb=>by
  rw[(List.mem_replicate.1 hb).2];exact⟨by show(0:Int)<=s.inbox;omega,fun x hx=>(by cases hx)⟩
 refine⟨h,?_,?_,?_,?_,rfl,by show eJ []=true;decide,by show(0:Int)<=s.room;omega,fun x hx=>(by cases hx),hz _,?_,?_,Q5 h⟩
 ·show((List.replicate s.many.toNat cJ).length:Int)=s.many
  rw[List.length_replicate];omega
 ·show((List.replicate s.bB.toNat (dW s)).length:Int)=s.bB
  rw[List.length_replicate];omega
 ·show(List.replicate (s.many+s.bB+2).toNat true).length=(List.replicate s.many.toNat cJ).length+(List.replicate s.bB.toNat (dW s)).length+2
  simp only[List.length_replicate];omega
 ·show(List.replicate (s.many+s.bB+2).toNat ([]:List aC)).length=(List.replicate s.many.toNat cJ).length+(List.replicate s.bB.toNat (dW s)).length+2
  simp only[List.length_replicate];omega
 ·intro x hx;rw[(List.mem_replicate.1 hx).2];exact Ir NR
 intro c hc;rw[(List.mem_replicate.1 hc).2];exact FI h
theorem wJ:∀{l:List bQ}{w:ae},w.wf->(∀x∈l,e9 x=true)->(l.foldl eZ w).wf
 | [],w,h,_=>h
 | x::l,w,h,hl=>wJ (l:=l) (h.step (hl x (List.mem_cons_self ..))) fun y hy=>hl y (List.mem_cons_of_mem _ hy)
def Bk (w v:ae) (c:Nat):Prop:=∃l,v.book=w.book++l/\l.length<=c/\∀e∈l,e.proof.length<=1000
theorem Bk.same {w v:ae}(h:v.book=w.book):Bk w v 0:=⟨[],by rw[h,List.append_nil],aR _,fun e he=>(by cases he)⟩
theorem Bk.trans {u v w:ae}{a b:Nat}(h:Bk u v a) (k:Bk v w b):Bk u w (a+b):=by
 obtain⟨l,e1,l1,p1⟩:=h;obtain⟨m,e2,l2,p2⟩:=k;exact⟨l++m,by rw[e2,e1,List.append_assoc],by rw[List.length_append];omega,fun e he=>(List.mem_append.1 he).elim (p1 e) (p2 e)⟩
theorem Bk.le {w v:ae}{a b:Nat}(h:Bk w v a) (hl:a<=b):Bk w v b:=by
 obtain⟨l,e1,l1,p1⟩:=h;exact⟨l,e1,by omega,p1⟩
theorem Bk.note (w:ae) {e:dK}(h:e.proof.length<=1000):Bk w (ik w e) 1:=⟨[e],rfl,Nat.le_refl _,fun x hx=>by rw[List.mem_singleton.1 hx];exact h⟩
theorem Bk.fold {α:Type}{f:ae->α->ae}:∀(l:List α) (w:ae),(∀a∈l,∀w,Bk w (f w a) 1)->Bk w (l.foldl f w) l.length
 | [],w,_=>.same rfl
 | a::l,w,h=>((h a (List.mem_cons_self ..) w).trans (Bk.fold l (f w a) fun b hb=>h b (List.mem_cons_of_mem _ hb))).le (by rw[List.length_cons];omega)
theorem DH (w:ae) (n:Int) (l:List ez):Bk w (il w n l) l.length:=Bk.fold l w fun a _ w=>.note w (aR _)
theorem rZ (w:ae) (k n:Int) (l:List cg):Bk w (iD w k n l) l.length:=Bk.fold l w fun a _ w=>.note w (aR _)
theorem wo (w:ae) (n:Int) (l:List iZ) (h:∀k∈l,k.proof.length<=1000):Bk w (fC w n l) l.length:=Bk.fold l w fun a ha w=>.note w (h a ha)
theorem DI (w:ae) (n:Int) (l:List aC):Bk w (iE w n l) l.length:=Bk.fold l w fun a _ w=>by
 show Bk w (if xC a then _ else w) 1
 split
 ·exact .note w (aR _)
 exact(Bk.same rfl).le (aR _)
theorem rY (w:ae) (l:List aC):Bk w (fP w l) 0:=.same (by
 unfold fP
 induction l generalizing w with
 | nil=>rfl
 | cons a l ih=>
  rw[List.foldl_cons,ih]
  unfold lK
  split<;>rfl)
theorem Bk.as {w v u:ae}{c:Nat}(h:Bk v u c) (e:v.book=w.book):Bk w u c:=by
 obtain⟨l,e1,h1⟩:=h;exact⟨l,by rw[e1,e],h1⟩
end Go.Proofs.YtobpfkgabdeefaaGreat.E
