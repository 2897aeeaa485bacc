/- The world stays well: the plain law. -/
import Derived.Test.YtobpfkgabdeefaaGreatP28
import Derived.Test.YtobpfkgabdeefaaGreatP20
namespace Go.Proofs.YtobpfkgabdeefaaGreat.E
open Go Go.RowKit
set_option linter.unusedVariables false
set_option linter.unusedSimpArgs false
theorem Xp (m:aM):(i6 m).size≤600:=by
 unfold i6;split
 ·rename_i hw;have:=Xq (nr.of hw);show(bA (gv m)).size≤600
  rw[iU];omega
 exact aQ _
theorem xq {f t:Int}{m:aM}(hf:0≤f∧f≤20) (ht:0≤t∧t≤20):c8 ⟨f,t,i6 m⟩=true:=by
 have:=Xp m;simp only[c8,Bool.and_eq_true,cf,decide_eq_true_eq];exact⟨hf,ht,by omega⟩
theorem zL {l:aB}(h:c8 l=true):(0≤l.from_∧l.from_≤20)∧(0≤l.jx∧l.jx≤20)∧l.text.size≤600:=by
 simp only[c8,Bool.and_eq_true,cf,decide_eq_true_eq]at h;exact⟨h.1,h.2.1,by omega⟩
theorem IC {w:bE}{me:Int}{l:aB}(hm:0≤me∧me≤20):∀x∈(fO w me l).bM,c8 x=true:=by
 unfold fO;split
 case isFalse=>intro x hx;cases hx
 rename_i c;simp only[Bool.and_eq_true]at c;have hb:=zL c.2.1;obtain⟨h8,hp,ha⟩:=rP.1 c.1;split
 ·unfold jB;split
  ·intro x hx;cases hx
  split
  ·intro x hx;rw[List.mem_singleton.1 hx];exact xq hm hb.1
  split
  ·intro x hx;cases hx
  split
  ·intro x hx;rw[List.mem_singleton.1 hx];exact xq hm (by omega)
  intro x hx;cases hx
 split
 ·unfold kO;obtain⟨l',e1,s1⟩:=GX (cH w.aH) (bV l.text).1.size (bV l.text).1.proof w.aS ⟨[],false,.zero,[]⟩;have e1:(gF (cH w.aH) (bV l.text).1.size (bV l.text).1.proof w.aS).left=l':=e1;generalize gF (cH w.aH) (bV l.text).1.size (bV l.text).1.proof w.aS=S at *;split
  ·intro x hx;cases hx
  split
  ·intro x hx;cases hx
  split
  ·intro x hx;cases hx
  refine So me S.p S.left (fun x=>c8 x=true) (fun y hy _=>?_) ⟨[],S.al,[]⟩ (fun y hy=>by cases hy);have h1:=ha y (s1.subset (e1▸hy));simp only[nB,Bool.and_eq_true,cf]at h1;exact xq hm (by omega)
 intro x hx;cases hx
theorem F8 {c:bu}{me:Int}{t:cU}(h:dC c=true) (k:Kept c me t) (hm:0≤me∧me≤20):∀x∈t.bM,c8 x=true:=by
 have hp:=Ar h;rcases k.RW with e|⟨e,-⟩
 ·rw[e];intro x hx;cases hx
 rw[e];intro x hx;obtain⟨i,hi,rfl⟩:=List.mem_map.1 hx;have:=List.mem_range.1 hi;have:=hp.m;exact xq hm (by omega)
theorem EH {c:bu}{me:Int}(h:dC c=true) (hm:aT me 1 20=true):dC (fP c me).cl=true∧(fP c me).cl.aP=c.aP∧(fP c me).acc=[]∧(fP c me).dI=[]∧∀x∈(fP c me).bM,c8 x=true:=by
 have hp:=Ar h;have hi:=cf.1 hm;unfold fP;rw[h,hm,if_pos (by rfl)];split
 ·exact⟨h,rfl,rfl,rfl,fun x hx=>by cases hx⟩
 rename_i hs;refine⟨?_,rfl,rfl,rfl,fun x hx=>?_⟩
 ·have h0:=h;simp only[dC,Bool.and_eq_true]at h0 ⊢;obtain⟨a1,a2,a3,a4,a5,-⟩:=h0;have q6:=hp.s;refine⟨a1,a2,a3,cf.2 (by omega),a5,?_⟩;rw[if_pos (by simp)];simp only[Bool.and_eq_true,decide_eq_true_eq];exact⟨vv.2 rfl,rfl,by omega⟩
 rw[List.mem_singleton.1 hx];exact xq (by omega) (by omega)
theorem B1 {m:cQ}{me:Int}{l:aB}(h1:iM m=true) (h2:c8 l=true) (h3:aT me 1 20=true):Ec m (i9 m me l)∧∀x∈(i9 m me l).bM,c8 x=true:=by
 have hi:=cf.1 h3;have hc:dC m.cl=true:=(jK.of h1).c;unfold i9;rw[h1,h2,h3,if_pos (by rfl)];split
 ·rename_i c;simp only[Bool.and_eq_true,beq_iff_eq]at c;refine⟨aa5 (jK.of h1) (r8 h1).1 (Iw c.1),?_⟩;unfold ow
  repeat' split
  all_goals(intro x hx;cases hx)
 have ho:iQ m.cl me l=true:=by unfold iQ;rw[hc,h2,h3];rfl
 have k:=xu ho;exact⟨aa4 (jK.of h1) k,F8 hc k (by omega)⟩
theorem JY {m:cQ}{me:Int}(h1:iM m=true) (h3:aT me 1 20=true):iM (i7 m me).cD=true∧∀x∈(i7 m me).bM,c8 x=true:=by
 have hi:=cf.1 h3;have ho:=jK.of h1;unfold i7;rw[h1,h3,if_pos (by rfl)];split
 ·refine⟨h1,fun x hx=>?_⟩;rw[List.mem_singleton.1 hx];exact xq (by omega) (by omega)
 obtain⟨t1,t2,-,-,t5⟩:=EH ho.c h3;refine⟨jK.mk' ⟨t1,ho.l,?_,?_⟩,t5⟩
 ·show(m.az.length:Int)≤(fP m.cl me).cl.aP.size
  rw[t2];exact ho.le
 show(ed m.done .zero=true∧((m.az.length:Int)<(fP m.cl me).cl.aP.size∨(fP m.cl me).cl.aP.size=0))∨(ed m.done .zero=false∧(1≤m.done.size∧m.done.size≤m.az.length)∧jH (fC (m.az.take m.done.size.toNat)).c9 m.done.root=true∧((m.az.length:Int)<(fP m.cl me).cl.aP.size∨m.done=(fP m.cl me).cl.aP))
 rw[t2];exact ho.z
theorem Kp {l:List ByteArray}{x:aB}(h:(kg l x).2=true):c8 (kg l x).1=true:=by
 unfold kg at h ⊢;split
 ·rename_i hx;have hb:=zL hx;rw[if_pos hx]at h;split
  ·rename_i h1;rw[if_pos h1]at h;split
   ·exact xq (by omega) (by omega)
   rename_i h2;rw[if_neg h2]at h;cases h
  rename_i h1;rw[if_neg h1]at h;cases h
 rename_i hx;rw[if_neg hx]at h;cases h
structure ai.wf (w:ai):Prop where
 so:fv w.set=true
 nw:(w.ah.length:Int)=w.set.many
 nc:(w.cls.length:Int)=w.set.bB
 nu:w.up.length=w.ah.length+w.cls.length+2
 nb:w.ak.length=w.ah.length+w.cls.length+2
 rm:w.room=w.set.room
 lg:eF w.log=true
 bl:(w.bj.length:Int)≤w.room
 bg:∀x∈w.bj,c8 x=true
 bx:∀b∈w.ak,(b.length:Int)≤w.set.inbox∧∀x∈b,c8 x=true
 wt:∀x∈w.ah,x.aH.ok∧iE x=true∧∀y∈x.aS,y.pt.root.ok
 cl:∀c∈w.cls,dC c=true
 mn:iM w.cD=true
structure iC (w v:ai):Prop where
 set:v.set=w.set
 log:v.log=w.log
 ah:v.ah=w.ah
 cls:v.cls=w.cls
 cD:v.cD=w.cD
 up:v.up=w.up
 ak:v.ak=w.ak
 room:v.room=w.room
 stop:v.stop=w.stop
theorem iC.refl (w:ai):iC w w:=⟨rfl,rfl,rfl,rfl,rfl,rfl,rfl,rfl,rfl⟩
theorem iC.trans {u v w:ai}(h:iC u v) (k:iC v w):iC u w:=
 ⟨k.set.trans h.set,k.log.trans h.log,k.ah.trans h.ah,k.cls.trans h.cls,k.cD.trans h.cD,k.up.trans h.up,k.ak.trans h.ak,k.room.trans h.room,k.stop.trans h.stop⟩
theorem iC.fold {α:Type}{f:ai→α→ai}(hf:∀w a,iC w (f w a)):∀(l:List α) (w:ai),iC w (l.foldl f w)
 | [],w=>.refl w
 | a::l,w=>(hf w a).trans (iC.fold hf l (f w a))
theorem qw (w:ai) (e:dy):iC w (gT w e):=⟨rfl,rfl,rfl,rfl,rfl,rfl,rfl,rfl,rfl⟩
theorem Da (w:ai) (x:aB):iC w (lq w x):=by
 unfold lq;split
 ·exact .refl w
 exact⟨rfl,rfl,rfl,rfl,rfl,rfl,rfl,rfl,rfl⟩
theorem sK (w:ai) (l:List aB):iC w (fG w l):=iC.fold Da l w
theorem jG (w:ai) (n:Int) (l:List ec):iC w (gV w n l):=iC.fold (fun w a=>qw w _) l w
theorem ju (w:ai) (k n:Int) (l:List bh):iC w (iv w k n l):=iC.fold (fun w a=>qw w _) l w
theorem nh (w:ai) (n:Int) (l:List iK):iC w (fi w n l):=iC.fold (fun w a=>qw w _) l w
theorem sL (w:ai) (n:Int) (l:List aB):iC w (iw w n l):=iC.fold (fun w a=>by
 show iC w (if xH a then _ else w)
 split
 ·exact qw w _
 exact .refl w) l w
theorem DO {α:Type}{f:ai→α→ai}(hf:∀w a,(f w a).bj=w.bj):∀(l:List α) (w:ai),(l.foldl f w).bj=w.bj
 | [],w=>rfl
 | a::l,w=>(DO hf l (f w a)).trans (hf w a)
theorem HU (w:ai) (n:Int) (l:List ec):(gV w n l).bj=w.bj:=by
 unfold gV;refine DO (fun w a=>?_) l w;rfl
theorem Ny (w:ai) (k n:Int) (l:List bh):(iv w k n l).bj=w.bj:=by
 unfold iv;refine DO (fun w a=>?_) l w;rfl
theorem Nz (w:ai) (n:Int) (l:List iK):(fi w n l).bj=w.bj:=by
 unfold fi;refine DO (fun w a=>?_) l w;rfl
theorem Wd (w:ai) (n:Int) (l:List aB):(iw w n l).bj=w.bj:=by
 unfold iw;refine DO (fun w a=>?_) l w;split<;>rfl
theorem ai.wf.rl {w v:ai}(h:w.wf) (k:iC w v) (hl:(v.bj.length:Int)≤v.room) (hb:∀x∈v.bj,c8 x=true):v.wf:=
 ⟨by rw[k.set];exact h.so,by rw[k.set,k.ah];exact h.nw,by rw[k.set,k.cls];exact h.nc,by rw[k.up,k.ah,k.cls];exact h.nu,by rw[k.ak,k.ah,k.cls];exact h.nb,by rw[k.room,k.set];exact h.rm,by rw[k.log];exact h.lg,hl,hb,
  by rw[k.ak,k.set];exact h.bx,by rw[k.ah];exact h.wt,by rw[k.cls];exact h.cl,by rw[k.cD];exact h.mn⟩
theorem ai.wf.note {w v:ai}(h:w.wf) (k:iC w v) (hb:v.bj=w.bj):v.wf:=h.rl k (by rw[hb,k.room];exact h.bl) (by rw[hb];exact h.bg)
theorem ai.wf.Bo {w:ai}(h:w.wf) {x:aB}(hx:c8 x=true):(lq w x).wf:=by
 refine h.rl (Da w x) ?_ ?_
 ·unfold lq;split
  ·exact h.bl
  rename_i hn;show((w.bj++[x]).length:Int)≤w.room
  rw[List.length_append];show((w.bj.length+1:Nat):Int)≤w.room
  omega
 unfold lq;split
 ·exact h.bg
 intro y hy;rcases List.mem_append.1 hy with hy|hy
 ·exact h.bg y hy
 rw[List.mem_singleton.1 hy];exact hx
theorem ai.wf.send:∀{l:List aB}{w:ai},w.wf→(∀x∈l,c8 x=true)→(fG w l).wf
 | [],w,h,_=>h
 | x::l,w,h,hl=>ai.wf.send (l:=l) (h.Bo (hl x (List.mem_cons_self ..))) fun y hy=>hl y (List.mem_cons_of_mem _ hy)
theorem mem_set {α:Type}{l:List α}{i:Nat}{a:α}{P:α→Prop}(h:∀x∈l,P x) (ha:P a):∀x∈l.set i a,P x:=fun x hx=>(List.mem_or_eq_of_mem_set hx).elim (h x) fun e=>e▸ha
theorem iS {α:Type}{l:List α}{i:Nat}{d:α}(h:i<l.length):l.getD i d∈l:=by
 rw[List.getD_eq_getElem?_getD,bz h];exact List.getElem_mem h
theorem ai.wf.told {w:ai}(h:w.wf) {n:Nat}{t:cU}(ht:dC t.cl=true) (hl:∀x∈t.bM,c8 x=true):(pe w n t).wf:=by
 have h1:ai.wf {w with cls:=w.cls.set (n - w.ah.length - 1) t.cl}:=
  ⟨h.so,h.nw,by show((w.cls.set _ _).length:Int)=_;rw[List.length_set];exact h.nc,by show w.up.length=w.ah.length+(w.cls.set _ _).length+2;rw[List.length_set];exact h.nu,by show w.ak.length=w.ah.length+(w.cls.set _ _).length+2;rw[List.length_set];exact h.nb,h.rm,h.lg,h.bl,h.bg,h.bx,h.wt,mem_set h.cl ht,h.mn⟩
 have h2:=h1.send hl;exact(h2.note (ju _ 1 n t.acc) (Ny _ _ _ _)).note (jG _ n t.dI) (HU _ _ _)
theorem ai.wf.watched {w:ai}(h:w.wf) {n:Nat}{t:gl}(ht:iM t.cD=true) (hl:∀x∈t.bM,c8 x=true):(pd w n t).wf:=by
 have h1:ai.wf {w with cD:=t.cD}:=⟨h.so,h.nw,h.nc,h.nu,h.nb,h.rm,h.lg,h.bl,h.bg,h.bx,h.wt,h.cl,ht⟩;have h2:=h1.send hl;exact((h2.note (ju _ 1 n t.acc) (Ny _ _ _ _)).note (ju _ 5 n t.j7) (Ny _ _ _ _)).note (jG _ n t.dI) (HU _ _ _)
theorem ai.wf.pQ {w:ai}(h:w.wf) {i:Nat}{x:bE}(hx:x.aH.ok∧iE x=true∧∀y∈x.aS,y.pt.root.ok):ai.wf {w with ah:=w.ah.set i x}:=
 ⟨h.so,by show((w.ah.set _ _).length:Int)=_;rw[List.length_set];exact h.nw,h.nc,by show w.up.length=(w.ah.set _ _).length+w.cls.length+2;rw[List.length_set];exact h.nu,by show w.ak.length=(w.ah.set _ _).length+w.cls.length+2;rw[List.length_set];exact h.nb,h.rm,h.lg,h.bl,h.bg,h.bx,mem_set h.wt hx,h.cl,h.mn⟩
theorem ai.wf.first {w:ai}(h:w.wf) (n:Nat):(jW w n).1.wf∧c8 (jW w n).2=true:=by
 unfold jW;split
 ·rename_i x l he;have hb:=h.bx _ (dh he);refine⟨⟨h.so,h.nw,h.nc,h.nu,by show(w.ak.set _ _).length=_;rw[List.length_set];exact h.nb,h.rm,h.lg,h.bl,h.bg,mem_set h.bx ⟨?_,fun y hy=>hb.2 y (List.mem_cons_of_mem _ hy)⟩,h.wt,h.cl,h.mn⟩,hb.2 x (List.mem_cons_self ..)⟩;have:=hb.1;rw[List.length_cons]at this;show(l.length:Int)≤w.set.inbox
  omega
 exact⟨h,rfl⟩
theorem ai.wf.CL {w:ai}(h:w.wf) {n:Nat}{x:aB}(hn:n<w.ah.length+w.cls.length+2) (hx:c8 x=true):(fI w n x).wf:=by
 have hs:=d7 h.so;have h1:=h.nw;have h2:=h.nc;unfold fI;split
 ·split
  ·rename_i hl;exact h.Bo (Kp hl)
  exact h
 rename_i n0;have jY:aT (n:Int) 1 20=true:=cf.2 (by omega);split
 ·rename_i nw;obtain⟨w1,w2,w3⟩:=h.wt _ (iS (l:=w.ah) (i:=n - 1) (d:=cF) (by omega));generalize w.ah.getD (n - 1) cF=y at *;have hm:=uL (me:=(n:Int)) (l:=x) w1 w3;have ht:=(IB (me:=(n:Int)) (l:=x) w2 hx jY w3).1;have hl:=IC (w:=y) (me:=(n:Int)) (l:=x) (by omega);generalize fO y n x=T at *;unfold B7;have k1:=h.pQ (i:=n - 1) (x:=⟨T.aH,T.aS⟩) ⟨hm.d,ht.ok,hm.x w3⟩;have k2:=(k1.note (nh _ n T.kept.toList) (Nz _ _ _)).note (sL _ n T.bM) (Wd _ _ _);exact(k2.send hl).note (jG _ n T.dI) (HU _ _ _)
 rename_i nw;split
 ·have hc:=h.cl _ (iS (l:=w.cls) (i:=n - w.ah.length - 1) (d:=dP w.set) (by omega));generalize w.cls.getD (n - w.ah.length - 1) (dP w.set)=c at *;have ho:iQ c n x=true:=by unfold iQ;rw[hc,hx,jY];rfl
  have k:=xu ho;exact h.told k.ok (F8 hc k (by omega))
 have k:=B1 h.mn hx jY;exact h.watched (jK.mk' k.1.ok) k.2
theorem ai.wf.CM {w:ai}(h:w.wf) {n:Nat}(hn:n<w.ah.length+w.cls.length+2):(kh w n).wf:=by
 have hf:=h.first n;have e:(jW w n).1.ah=w.ah∧(jW w n).1.cls=w.cls:=by unfold jW;split<;>exact⟨rfl,rfl⟩
 exact hf.1.CL (by rw[e.1,e.2];exact hn) hf.2
theorem FH {s:cK}(h:fv s=true):dC (dP s)=true:=by
 have hs:=d7 h;exact Uz (c:=dP s) ⟨by show 1≤s.many∧s.many≤7;omega,by show 1≤s.eK∧s.eK≤s.many;omega,by show s.many<2 * s.eK;omega,by show(0:Int)≤0∧(0:Int)≤1000000;omega,by show lA .zero=true;decide,by show(0:Int)≤0∧(0:Int)≤256;omega⟩ rfl rfl rfl
theorem QZ {s:cK}(h:fv s=true):iM (p6 s)=true:=
 jK.mk' ⟨FH h,by show eF []=true;decide,Int.le_refl _,.inl ⟨by show ed .zero .zero=true;decide,.inr rfl⟩⟩
theorem Iu {d:cS}(h:d.ok):(⟨d,[]⟩:bE).aH.ok∧iE ⟨d,[]⟩=true∧∀y∈(⟨d,[]⟩:bE).aS,y.pt.root.ok:=
 ⟨h,rP.2 ⟨aQ _,.nil,fun x hx=>(by cases hx)⟩,fun y hy=>(by cases hy)⟩
theorem On {w:bE}{d:cS}(h:w.aH.ok∧iE w=true∧∀y∈w.aS,y.pt.root.ok) (hd:d.ok) (hr:ea d=ea w.aH):(⟨d,w.aS⟩:bE).aH.ok∧iE ⟨d,w.aS⟩=true∧∀y∈(⟨d,w.aS⟩:bE).aS,y.pt.root.ok:=by
 have e:cH d=cH w.aH:=by unfold cH;rw[hr]
 obtain⟨a1,a2,a3⟩:=rP.1 h.2.1;exact⟨hd,rP.2 ⟨a1,a2,by show ∀x∈w.aS,nB (cH d).size x=true;rw[e];exact a3⟩,h.2.2⟩
theorem Is (d:cS):ep d (gw d)=eX d (gw d) (gw d).length:=by
 unfold eX;rw[Int.toNat_natCast,List.take_length]
theorem Ir {d:cS}(h:d.ok) (j:Int):(eX d (gw d) j).ok:=
 FP h fun r hr=>by rw[abv d r (List.mem_of_mem_take hr)];decide
theorem ai.wf.up {w:ai}(h:w.wf) (n:Nat) (b:Bool):ai.wf {w with up:=w.up.set n b}:=
 ⟨h.so,h.nw,h.nc,by show(w.up.set _ _).length=_;rw[List.length_set];exact h.nu,h.nb,h.rm,h.lg,h.bl,h.bg,h.bx,h.wt,h.cl,h.mn⟩
theorem ai.wf.box {w:ai}(h:w.wf) (n:Nat) {b:List aB}(hb:(b.length:Int)≤w.set.inbox∧∀x∈b,c8 x=true):ai.wf {w with ak:=w.ak.set n b}:=
 ⟨h.so,h.nw,h.nc,h.nu,by show(w.ak.set _ _).length=_;rw[List.length_set];exact h.nb,h.rm,h.lg,h.bl,h.bg,mem_set h.bx hb,h.wt,h.cl,h.mn⟩
theorem ai.wf.bj {w:ai}(h:w.wf) {b:List aB}(hl:b.length≤w.bj.length) (hb:∀x∈b,x∈w.bj):ai.wf {w with bj:=b}:=
 ⟨h.so,h.nw,h.nc,h.nu,h.nb,h.rm,h.lg,by have:=h.bl;show(b.length:Int)≤w.room;omega,fun x hx=>h.bg x (hb x hx),h.bx,h.wt,h.cl,h.mn⟩
theorem ai.wf.fresh {w:ai}(h:w.wf) (n:Nat):(eW w n).wf:=by
 unfold eW;split
 ·exact⟨h.so,h.nw,h.nc,h.nu,h.nb,h.rm,by show eF []=true;decide,h.bl,h.bg,h.bx,h.wt,h.cl,h.mn⟩
 split
 ·exact h.pQ (Iu (h.wt _ (iS (l:=w.ah) (i:=n - 1) (d:=cF) (by omega))).1)
 split
 ·exact⟨h.so,h.nw,by show((w.cls.set _ _).length:Int)=_;rw[List.length_set];exact h.nc,by show w.up.length=w.ah.length+(w.cls.set _ _).length+2;rw[List.length_set];exact h.nu,by show w.ak.length=w.ah.length+(w.cls.set _ _).length+2;rw[List.length_set];exact h.nb,h.rm,h.lg,h.bl,h.bg,h.bx,h.wt,mem_set h.cl (FH h.so),h.mn⟩
 exact⟨h.so,h.nw,h.nc,h.nu,h.nb,h.rm,h.lg,h.bl,h.bg,h.bx,h.wt,h.cl,QZ h.so⟩
theorem ai.wf.nil {w:ai}(h:w.wf):(([]:List aB).length:Int)≤w.set.inbox∧∀x∈([]:List aB),c8 x=true:=
 ⟨by have:=d7 h.so;show(0:Int)≤_;omega,fun x hx=>(by cases hx)⟩
theorem ai.wf.down {w:ai}(h:w.wf) (n:Nat):(ja w n).wf:=
 (((h.up n false).box n h.nil).fresh n).note (qw _ _) rfl
theorem De (w:ai) (n:Nat):(jW w n).1.set=w.set∧(jW w n).1.ah=w.ah∧(jW w n).1.cls=w.cls∧(jW w n).1.book=w.book:=by
 unfold jW;split<;>exact⟨rfl,rfl,rfl,rfl⟩
theorem LY (v:ai) {n:Nat}(hn:1≤n∧n≤v.ah.length):eW v n={v with ah:=v.ah.set (n - 1) ⟨(v.ah.getD (n - 1) cF).aH,[]⟩}:=by
 unfold eW;rw[if_neg (by omega),if_pos hn.2]
theorem TW (w:ai) {n:Nat}(hn:1≤n∧n≤w.ah.length) (d:cS) (l m:List bG):ja {w with ah:=w.ah.set (n - 1) ⟨d,l⟩} n=ja {w with ah:=w.ah.set (n - 1) ⟨d,m⟩} n:=by
 have e:∀y:bE,(w.ah.set (n - 1) y).getD (n - 1) cF=y:=fun y=>by
  rw[List.getD_eq_getElem?_getD,List.getElem?_set_self (by omega)];rfl
 have k:∀l,ja {w with ah:=w.ah.set (n - 1) ⟨d,l⟩} n=gT {w with up:=w.up.set n false,ak:=w.ak.set n [],ah:=w.ah.set (n - 1) ⟨d,[]⟩} ⟨7,n,0,0,0,.zero,.zero,[]⟩:=by
  intro l;unfold ja;rw[LY _ (by show 1≤n∧n≤(w.ah.set (n - 1) ⟨d,l⟩).length;rw[List.length_set];exact hn)];simp only[e,List.set_set]
 rw[k l,k m]
theorem abS (w:ai) (n:Int) (l:List iK) (ws:List bE):fi {w with ah:=ws} n l={fi w n l with ah:=ws}:=by
 unfold fi;induction l generalizing w with
 | nil=>rfl
 | cons a l ih=>exact ih (gT w _)
theorem aec (w:ai) {n:Nat}(hn:1≤n∧n≤w.ah.length) (cut:Int):ph w n cut=
  (let p:=jW w n
   let d:=(p.1.ah.getD (n - 1) cF)
   let h:=fO d n p.2
   let v:=if cut≥(h.eu.length:Int) then fi p.1 n h.kept.toList else p.1
   ja {v with ah:=v.ah.set (n - 1) ⟨eX d.aH h.eu cut,[]⟩} n):=by
 obtain⟨-,e2,-,-⟩:=De w n;unfold ph;generalize jW w n=p at *;obtain⟨p1,p2⟩:=p;have e2:p1.ah=w.ah:=e2;dsimp only;generalize fO (p1.ah.getD (n - 1) cF) n p2=H;split
 ·rw[abS,←(nh p1 n H.kept.toList).ah];exact TW _ (by rw[(nh p1 n H.kept.toList).ah,e2];exact hn) _ _ _
 exact TW _ (by rw[e2];exact hn) _ _ _
theorem ai.wf.aed {w:ai}(h:w.wf) {n:Nat}(hn:1≤n∧n≤w.ah.length) (cut:Int):(ph w n cut).wf:=by
 rw[aec w hn];have hf:=h.first n;obtain⟨-,e2,-,-⟩:=De w n;generalize jW w n=p at *;obtain⟨p1,p2⟩:=p;dsimp only at *;obtain⟨w1,w2,w3⟩:=hf.1.wt _ (iS (l:=p1.ah) (i:=n - 1) (d:=cF) (by rw[e2];omega));generalize p1.ah.getD (n - 1) cF=y at *;have hm:=uL (me:=(n:Int)) (l:=p2) w1 w3;generalize fO y n p2=H at *;have hd:(eX y.aH H.eu cut).ok:=FP w1 fun r hr=>hm.v r (List.mem_of_mem_take hr)
 have hv:ai.wf (if cut≥(H.eu.length:Int) then fi p1 n H.kept.toList else p1):=by
  split
  ·exact hf.1.note (nh _ _ _) (Nz _ _ _)
  exact hf.1
 exact(hv.pQ (Iu hd)).down n
theorem ai.wf.Je {w:ai}(h:w.wf) (n:Nat):(ov w n).wf:=by
 unfold ov;split
 ·rename_i hn;have hw:=h.wt _ (iS (l:=w.ah) (i:=n - 1) (d:=cF) (by omega));have k:=(h.up n true).pQ (i:=n - 1) (On (d:=ep (w.ah.getD (n - 1) cF).aH (gw (w.ah.getD (n - 1) cF).aH)) hw (by rw[Is];exact Ir hw.1 _) (by rw[Is];exact Rd _ _));exact k.note (qw _ _) rfl
 exact h.up n true
theorem ai.wf.half {w:ai}(h:w.wf) {n:Nat}(hn:1≤n∧n≤w.ah.length) (cut:Int):ai.wf {w with ah:=w.ah.set (n - 1) ⟨eX (w.ah.getD (n - 1) cF).aH (gw (w.ah.getD (n - 1) cF).aH) cut,(w.ah.getD (n - 1) cF).aS⟩}:=by
 have hw:=h.wt _ (iS (l:=w.ah) (i:=n - 1) (d:=cF) (by omega));exact h.pQ (On (d:=eX (w.ah.getD (n - 1) cF).aH (gw (w.ah.getD (n - 1) cF).aH) cut) hw (Ir hw.1 _) (Rd _ _))
theorem ai.wf.tick {w:ai}(h:w.wf) {n:Nat}(hn:n<w.ah.length+w.cls.length+2):(jS w n).wf:=by
 have hs:=d7 h.so;have h1:=h.nw;have h2:=h.nc;unfold jS;split
 ·have k:=JY (me:=(n:Int)) h.mn (cf.2 (by omega));exact h.watched k.1 k.2
 split
 ·have hc:=h.cl _ (iS (l:=w.cls) (i:=n - w.ah.length - 1) (d:=dP w.set) (by omega));have k:=EH (me:=(n:Int)) hc (cf.2 (by omega));exact h.told k.1 k.2.2.2.2
 exact h
theorem ai.wf.node {w:ai}(h:w.wf) {n:Nat}(hn:n<w.ah.length+w.cls.length+2) {x:aJ}(hx:fW x=true):(oA w x n).wf:=by
 have hs:=d7 h.so;have h1:=h.nw;have h2:=h.nc;unfold oA;split
 ·exact h.tick hn
 split
 ·rename_i c;exact h.aed c.2.2.1 _
 split
 ·exact h.down n
 split
 ·exact h.Je n
 split
 ·rename_i c;exact h.half c.2.2 _
 split
 ·refine h.Bo ?_;simp only[fW,Bool.and_eq_true,decide_eq_true_eq,cf]at hx;simp only[c8,Bool.and_eq_true,decide_eq_true_eq,cf];refine⟨by omega,by omega,?_⟩;have:=hx.2.2;omega
 exact h
theorem ai.wf.Hg {w:ai}(h:w.wf) (k:Int):(kq w k).wf:=by
 unfold kq;split
 ·rename_i x hx;have hb:=h.bj (b:=w.bj.eraseIdx (eE k w.bj.length)) (List.length_eraseIdx_le _ _) fun y hy=>List.mem_of_mem_eraseIdx hy
  dsimp only;split
  ·rename_i c;have ub:=h.bx _ (iS (l:=w.ak) (i:=x.jx.toNat) (d:=[]) c.1);refine hb.box x.jx.toNat ⟨?_,fun y hy=>?_⟩
   ·rw[List.length_append];have:=c.2.2;show((_+1:Nat):Int)≤w.set.inbox
    omega
   rcases List.mem_append.1 hy with hy|hy
   ·exact ub.2 y hy
   rw[List.mem_singleton.1 hy];exact h.bg x (dh hx)
  exact hb
 exact h
theorem ai.wf.sP:∀(n:Nat) {w:ai},w.wf→(jb n w).wf
 | 0,w,h=>h
 | n+1,w,h=>ai.wf.sP n (h.Hg 0)
theorem EY {w:ai}(h:w.wf) {i:Nat}{l:List Nat}(e:gS w=i::l):i<w.ah.length+w.cls.length+2:=by
 have hi:i∈gS w:=by rw[e];exact List.mem_cons_self ..
 have:=List.mem_range.1 (List.mem_filter.1 hi).1;have:=h.nu;omega
theorem ai.wf.SV:∀(n:Nat) {w:ai},w.wf→(kj n w).wf
 | 0,w,h=>h
 | n+1,w,h=>by
  unfold kj;split
  ·exact h
  rename_i i l e;exact ai.wf.SV n (h.CM (EY h e))
theorem ai.wf.round {w:ai}(h:w.wf):(pg w).wf:=(h.sP _).SV _
theorem ai.wf.zh:∀(n:Nat) {w:ai},w.wf→(ke n w).wf
 | 0,w,h=>h
 | n+1,w,h=>ai.wf.zh n h.round
theorem ai.wf.double {w:ai}(h:w.wf) (k:Int):(zI w k).wf:=by
 unfold zI;split
 ·rename_i x hx;split
  ·exact h
  rename_i hn;refine⟨h.so,h.nw,h.nc,h.nu,h.nb,h.rm,h.lg,?_,?_,h.bx,h.wt,h.cl,h.mn⟩
  ·show((w.bj++[x]).length:Int)≤w.room
   rw[List.length_append];show((w.bj.length+1:Nat):Int)≤w.room
   omega
  intro y hy;rcases List.mem_append.1 hy with hy|hy
  ·exact h.bg y hy
  rw[List.mem_singleton.1 hy];exact h.bg x (dh hx)
 exact h
theorem abI {l:List ByteArray}(h:eF l=true) (t:ByteArray):eF (B6 l t)=true:=by
 unfold B6;rw[if_pos h];split
 ·exact h
 rename_i hn;obtain⟨h1,h2⟩:=gI h;simp only[eF,Bool.and_eq_true,decide_eq_true_eq,dX,List.all_eq_true,List.length_append,List.length_singleton];refine⟨by omega,fun b hb=>?_⟩;rcases List.mem_append.1 hb with hb|hb
 ·exact h2 b hb
 rw[List.mem_singleton.1 hb];omega
theorem ai.wf.Yp {w:ai}(h:w.wf):(uY w).wf:=by
 refine⟨h.so,h.nw,h.nc,by show(w.up.map _).length=_;rw[List.length_map];exact h.nu,by show(w.ak.map _).length=_;rw[List.length_map];exact h.nb,h.rm,h.lg,?_,fun x hx=>(by cases hx),fun b hb=>?_,h.wt,h.cl,h.mn⟩
 ·have:=d7 h.so;have:=h.rm;show(0:Int)≤w.room
  omega
 obtain⟨b',-,rfl⟩:=List.mem_map.1 hb;exact h.nil
theorem ai.wf.step {w:ai}(h:w.wf) {x:aJ}(hx:fW x=true):(fF w x).wf:=by
 unfold fF;split
 ·exact h
 split
 ·split
  ·exact⟨h.so,h.nw,h.nc,h.nu,h.nb,h.rm,abI h.lg _,h.bl,h.bg,h.bx,h.wt,h.cl,h.mn⟩
  exact h
 split
 ·exact h.Hg _
 split
 ·refine h.bj ?_ ?_
  ·split
   ·exact aQ _
   exact List.length_eraseIdx_le _ _
  split
  ·intro x hx;cases hx
  exact fun y hy=>List.mem_of_mem_eraseIdx hy
 split
 ·exact h.double _
 split
 ·split
  ·rename_i n hn;have:=List.mem_range.1 (List.mem_filter.1 (dh hn)).1;have:=h.nu;exact h.CM (by omega)
  exact h
 split
 ·exact h.zh _
 split
 ·exact h.Yp
 split
 ·rename_i hl;have aX:=hx;simp only[fW,Bool.and_eq_true,cf]at aX;exact h.node (by omega) hx
 exact h
theorem BT {s:cK}(h:fv s=true):(gU s).wf:=by
 have hs:=d7 h;have hz:∀(n:Nat),∀b∈List.replicate n ([]:List aB),(b.length:Int)≤s.inbox∧∀x∈b,c8 x=true:=fun n b hb=>by
  rw[(List.mem_replicate.1 hb).2];exact⟨by show(0:Int)≤s.inbox;omega,fun x hx=>(by cases hx)⟩
 refine⟨h,?_,?_,?_,?_,rfl,by show eF []=true;decide,by show(0:Int)≤s.room;omega,fun x hx=>(by cases hx),hz _,?_,?_,QZ h⟩
 ·show((List.replicate s.many.toNat cF).length:Int)=s.many
  rw[List.length_replicate];omega
 ·show((List.replicate s.bB.toNat (dP s)).length:Int)=s.bB
  rw[List.length_replicate];omega
 ·show(List.replicate (s.many+s.bB+2).toNat true).length=(List.replicate s.many.toNat cF).length+(List.replicate s.bB.toNat (dP s)).length+2
  simp only[List.length_replicate];omega
 ·show(List.replicate (s.many+s.bB+2).toNat ([]:List aB)).length=(List.replicate s.many.toNat cF).length+(List.replicate s.bB.toNat (dP s)).length+2
  simp only[List.length_replicate];omega
 ·intro x hx;rw[(List.mem_replicate.1 hx).2];exact Iu N7
 intro c hc;rw[(List.mem_replicate.1 hc).2];exact FH h
theorem wu:∀{l:List aJ}{w:ai},w.wf→(∀x∈l,fW x=true)→(l.foldl fF w).wf
 | [],w,h,_=>h
 | x::l,w,h,hl=>wu (l:=l) (h.step (hl x (List.mem_cons_self ..))) fun y hy=>hl y (List.mem_cons_of_mem _ hy)
def Bk (w v:ai) (c:Nat):Prop:=∃l,v.book=w.book++l∧l.length≤c∧∀e∈l,e.proof.length≤1000
theorem Bk.same {w v:ai}(h:v.book=w.book):Bk w v 0:=⟨[],by rw[h,List.append_nil],aQ _,fun e he=>(by cases he)⟩
theorem Bk.trans {u v w:ai}{a b:Nat}(h:Bk u v a) (k:Bk v w b):Bk u w (a+b):=by
 obtain⟨l,e1,l1,p1⟩:=h;obtain⟨m,e2,l2,p2⟩:=k;exact⟨l++m,by rw[e2,e1,List.append_assoc],by rw[List.length_append];omega,fun e he=>(List.mem_append.1 he).elim (p1 e) (p2 e)⟩
theorem Bk.le {w v:ai}{a b:Nat}(h:Bk w v a) (hl:a≤b):Bk w v b:=by
 obtain⟨l,e1,l1,p1⟩:=h;exact⟨l,e1,by omega,p1⟩
theorem Bk.note (w:ai) {e:dy}(h:e.proof.length≤1000):Bk w (gT w e) 1:=⟨[e],rfl,Nat.le_refl _,fun x hx=>by rw[List.mem_singleton.1 hx];exact h⟩
theorem Bk.fold {α:Type}{f:ai→α→ai}:∀(l:List α) (w:ai),(∀a∈l,∀w,Bk w (f w a) 1)→Bk w (l.foldl f w) l.length
 | [],w,_=>.same rfl
 | a::l,w,h=>((h a (List.mem_cons_self ..) w).trans (Bk.fold l (f w a) fun b hb=>h b (List.mem_cons_of_mem _ hb))).le (by rw[List.length_cons];omega)
theorem DL (w:ai) (n:Int) (l:List ec):Bk w (gV w n l) l.length:=Bk.fold l w fun a _ w=>.note w (aQ _)
theorem rG (w:ai) (k n:Int) (l:List bh):Bk w (iv w k n l) l.length:=Bk.fold l w fun a _ w=>.note w (aQ _)
theorem v5 (w:ai) (n:Int) (l:List iK) (h:∀k∈l,k.proof.length≤1000):Bk w (fi w n l) l.length:=Bk.fold l w fun a ha w=>.note w (h a ha)
theorem DM (w:ai) (n:Int) (l:List aB):Bk w (iw w n l) l.length:=Bk.fold l w fun a _ w=>by
 show Bk w (if xH a then _ else w) 1
 split
 ·exact .note w (aQ _)
 exact(Bk.same rfl).le (aQ _)
theorem rF (w:ai) (l:List aB):Bk w (fG w l) 0:=.same (by
 unfold fG
 induction l generalizing w with
 | nil=>rfl
 | cons a l ih=>
  rw[List.foldl_cons,ih]
  unfold lq
  split<;>rfl)
theorem Bk.as {w v u:ai}{c:Nat}(h:Bk v u c) (e:v.book=w.book):Bk w u c:=by
 obtain⟨l,e1,h1⟩:=h;exact⟨l,by rw[e1,e],h1⟩
end Go.Proofs.YtobpfkgabdeefaaGreat.E
