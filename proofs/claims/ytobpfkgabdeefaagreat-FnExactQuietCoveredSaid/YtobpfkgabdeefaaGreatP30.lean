/- The world's book grows by so much; its letters run out: the plain law. -/
import Derived.Test.YtobpfkgabdeefaaGreatP29
namespace Go.Proofs.YtobpfkgabdeefaaGreat.E
open Go Go.RowKit
set_option linter.unusedVariables false
set_option linter.unusedSimpArgs false
theorem NT {c:bu}{me:Int}{t:cU}(k:Kept c me t):t.acc.length≤1:=by
 rcases k.acc with ⟨e,-⟩|⟨e,-⟩<;>rw[e]
 ·exact aQ _
 exact Nat.le_refl _
theorem Ur {m:cQ}{t:gl}(k:Ec m t):t.j7.length≤1:=by
 rcases k.j7 with ⟨e,-⟩|⟨e,-⟩<;>rw[e]
 ·exact aQ _
 exact Nat.le_refl _
theorem NM {c:bu}{me:Int}{l:aB}:(jo c me l).dI.length≤1:=by
 unfold jo;split
 ·split
  ·unfold qc
   repeat' split
   all_goals first|exact aQ _|exact Nat.le_refl _
  split
  ·unfold qe
   repeat' split
   all_goals first|exact aQ _|exact Nat.le_refl _
  exact aQ _
 exact aQ _
theorem Ka {m:cQ}{me:Int}{l:aB}:(i9 m me l).dI.length≤1∧((i9 m me l).acc.length≤1∨(i9 m me l).acc=(jo m.cl me l).acc):=by
 unfold i9;split
 ·split
  ·unfold ow
   repeat' split
   all_goals exact⟨by first|exact aQ _|exact Nat.le_refl _,.inl (aQ _)⟩
  exact⟨NM,.inr rfl⟩
 exact⟨aQ _,.inl (aQ _)⟩
theorem V7 (w:ai) (n:Nat) (t:cU):Bk w (pe w n t) (t.acc.length+t.dI.length):=
 ((rF _ t.bM).trans ((rG _ 1 n t.acc).trans (DL _ n t.dI))).le (by omega) |>.as rfl
theorem V6 (w:ai) (n:Nat) (t:gl):Bk w (pd w n t) (t.acc.length+t.j7.length+t.dI.length):=
 ((rF _ t.bM).trans ((rG _ 1 n t.acc).trans ((rG _ 5 n t.j7).trans (DL _ n t.dI)))).le (by omega) |>.as rfl
theorem ahr (w:ai) (n:Nat) (h:eS) (hp:∀k∈h.kept.toList,k.proof.length≤1000):Bk w (B7 w n h) (h.kept.toList.length+h.bM.length+h.dI.length):=
 ((v5 _ n h.kept.toList hp).trans ((DM _ n h.bM).trans ((rF _ h.bM).trans (DL _ n h.dI)))).le (by omega) |>.as rfl
theorem yY {α:Type}(o:Option α):o.toList.length≤1:=by
 cases o
 ·exact aQ _
 exact Nat.le_refl _
theorem ai.wf.bk1 {w:ai}(h:w.wf) {n:Nat}{x:aB}(hn:n<w.ah.length+w.cls.length+2) (hx:c8 x=true):Bk w (fI w n x) 300:=by
 have hs:=d7 h.so;have h1:=h.nw;have h2:=h.nc;unfold fI;split
 ·split
  ·exact(rF w [_]).le (aQ _)
  exact(Bk.same rfl).le (aQ _)
 rename_i n0;have jY:aT (n:Int) 1 20=true:=cf.2 (by omega);split
 ·rename_i nw;obtain⟨w1,w2,w3⟩:=h.wt _ (iS (l:=w.ah) (i:=n - 1) (d:=cF) (by omega));have hm:=uL (me:=(n:Int)) (l:=x) w1 w3;have h3:=yY (fO (w.ah.getD (n - 1) cF) n x).kept;have h4:=hm.l;have h5:=hm.a;refine(ahr w n _ fun k hk=>(hm.k k ?_).2).le (by omega);cases bW:(fO (w.ah.getD (n - 1) cF) n x).kept with
  | none=>rw[bW]at hk;cases hk
  | some y=>
   rw[bW]at hk;rw[List.mem_singleton.1 hk]
 split
 ·have hc:=h.cl _ (iS (l:=w.cls) (i:=n - w.ah.length - 1) (d:=dP w.set) (by omega));have ho:iQ (w.cls.getD (n - w.ah.length - 1) (dP w.set)) n x=true:=by unfold iQ;rw[hc,hx,jY];rfl
  have k:=NT (xu ho);have k2:=NM (c:=w.cls.getD (n - w.ah.length - 1) (dP w.set)) (me:=(n:Int)) (l:=x);exact(V7 w n _).le (by omega)
 have k:=Ur (B1 h.mn hx jY).1;have k2:=Ka (m:=w.cD) (me:=(n:Int)) (l:=x);have k3:(i9 w.cD n x).acc.length≤1:=by
  rcases k2.2 with e|e
  ·exact e
  rw[e];have ho:iQ w.cD.cl n x=true:=by unfold iQ;rw[(jK.of h.mn).c,hx,jY];rfl
  exact NT (xu ho)
 exact(V6 w n _).le (by omega)
theorem ai.wf.HT {w:ai}(h:w.wf) {n:Nat}(hn:n<w.ah.length+w.cls.length+2):Bk w (kh w n) 300:=by
 have hf:=h.first n;obtain⟨-,e1,e2,e3⟩:=De w n;exact(hf.1.bk1 (by rw[e1,e2];exact hn) hf.2).as e3
theorem X3 {l:List (List aB)}{n:Nat}{x:aB}{b:List aB}(h:l[n]?=some (x::b)):((l.set n b).map List.length).sum+1=(l.map List.length).sum:=by
 induction l generalizing n with
 | nil=>cases h
 | cons a l ih=>
  cases n with
  | zero=>
   cases h;simp only[List.set_cons_zero,List.map_cons,List.sum_cons,List.length_cons]
   omega
  | succ n=>
   have:=ih (n:=n) h;simp only[List.set_cons_succ,List.map_cons,List.sum_cons];omega
theorem X4 (w:ai) (n:Nat) (x:aB):(fI w n x).ak=w.ak:=by
 unfold fI;split
 ·split
  ·exact(Da w _).ak
  rfl
 split
 ·exact(jG _ _ _).ak.trans ((sK _ _).ak.trans ((sL _ _ _).ak.trans (nh _ _ _).ak))
 split
 ·exact(jG _ _ _).ak.trans ((ju _ _ _ _).ak.trans (sK _ _).ak)
 exact(jG _ _ _).ak.trans ((ju _ _ _ _).ak.trans ((ju _ _ _ _).ak.trans (sK _ _).ak))
theorem EZ {w:ai}{i:Nat}(h:i∈gS w):i<w.up.length∧w.up.getD i false=true∧∃x b,w.ak[i]?=some (x::b):=by
 have h1:=List.mem_filter.1 h;have h2:=List.mem_range.1 h1.1;have h3:=h1.2;simp only[Bool.and_eq_true,decide_eq_true_eq]at h3;refine⟨h2,h3.1,?_⟩;have h4:=h3.2;rw[List.getD_eq_getElem?_getD]at h4;cases e:w.ak[i]? with
 | none=>rw[e]at h4;exact absurd h4 (by decide)
 | some b=>
  rw[e]at h4;cases b with
  | nil=>exact absurd h4 (by decide)
  | cons x b=>exact⟨x,b,rfl⟩
theorem IT {w:ai}{i:Nat}(h:i∈gS w):jz (kh w i)+1=jz w:=by
 obtain⟨-,-,x,b,e⟩:=EZ h;have e1:(kh w i).ak=w.ak.set i b:=by
  show(fI _ _ _).ak=_
  rw[X4];unfold jW;rw[e]
 unfold jz;rw[e1];exact X3 e
theorem Yh {l:List (List aB)}{k:Nat}(h:∀b∈l,b.length≤k):(l.map List.length).sum≤l.length * k:=by
 induction l with
 | nil=>exact aQ _
 | cons a l ih=>
  have h1:=h a (List.mem_cons_self ..);have h2:=ih fun b hb=>h b (List.mem_cons_of_mem _ hb)
  simp only[List.map_cons,List.sum_cons,List.length_cons];rw[Nat.add_mul,Nat.one_mul];omega
theorem ai.wf.IU {w:ai}(h:w.wf):jz w≤640:=by
 have hs:=d7 h.so;have h1:=h.nw;have h2:=h.nc;have h3:=h.nb;have hk:=Yh (l:=w.ak) (k:=64) fun b hb=>by
  have:=(h.bx b hb).1;omega
 unfold jz;have:w.ak.length≤10:=by omega
 have:=Nat.mul_le_mul_right 64 this;omega
theorem ai.wf.Wa:∀(n:Nat) {w:ai},w.wf→Bk w (kj n w) (300 * n)
 | 0,w,h=>.same rfl
 | n+1,w,h=>by
  unfold kj;split
  ·exact(Bk.same rfl).le (aQ _)
  rename_i i l e;have hi:=EY h e;exact((h.HT hi).trans (ai.wf.Wa n (h.CM hi))).le (by omega)
theorem V9 (w:ai) (k:Int):(kq w k).book=w.book:=by
 unfold kq;split
 ·dsimp only;split<;>rfl
 rfl
theorem Nt:∀(n:Nat) (w:ai),(jb n w).book=w.book
 | 0,w=>rfl
 | n+1,w=>(Nt n _).trans (V9 w 0)
theorem ai.wf.aht {w:ai}(h:w.wf):Bk w (pg w) 192000:=by
 have h1:=h.sP w.bj.length;have h2:=h1.IU;exact((h1.Wa (jz (jb w.bj.length w))).le (by omega)).as (Nt _ _)
theorem ai.wf.HS:∀(n:Nat) {w:ai},w.wf→Bk w (ke n w) (192000 * n)
 | 0,w,h=>.same rfl
 | n+1,w,h=>(h.aht.trans (ai.wf.HS n h.round)).le (by omega)
theorem Nr (w:ai) (n:Nat):(eW w n).book=w.book:=by
 unfold eW
 repeat' split
 all_goals rfl
theorem Ns (w:ai) (n:Nat):Bk w (ja w n) 1:=(Bk.note _ (aQ _)).as (Nr _ n)
theorem ai.wf.ahv {w:ai}(h:w.wf) {n:Nat}(hn:1≤n∧n≤w.ah.length) (cut:Int):Bk w (ph w n cut) 300:=by
 have hf:=h.first n;obtain⟨-,e2,-,e3⟩:=De w n;unfold ph;generalize jW w n=p at *;obtain⟨p1,p2⟩:=p;dsimp only at *;obtain⟨w1,w2,w3⟩:=hf.1.wt _ (iS (l:=p1.ah) (i:=n - 1) (d:=cF) (by rw[e2];omega));generalize p1.ah.getD (n - 1) cF=y at *;have hm:=uL (me:=(n:Int)) (l:=p2) w1 w3;generalize fO y n p2=H at *;refine Bk.as ?_ e3;have h3:=yY H.kept;split
 ·have hp:∀k∈H.kept.toList,k.proof.length≤1000:=by
   intro k hk;refine(hm.k k ?_).2;cases bW:H.kept with
   | none=>rw[bW]at hk;cases hk
   | some y=>rw[bW]at hk;rw[List.mem_singleton.1 hk]
  have k1:=v5 {p1 with ah:=p1.ah.set (n - 1) ⟨eX y.aH H.eu cut,y.aS⟩} n H.kept.toList hp;have k2:=Ns (fi {p1 with ah:=p1.ah.set (n - 1) ⟨eX y.aH H.eu cut,y.aS⟩} n H.kept.toList) n;exact((k1.trans k2).le (by omega)).as rfl
 exact((Ns _ n).as rfl).le (by omega)
theorem ahq (w:ai) (n:Nat):Bk w (ov w n) 1:=by
 unfold ov;dsimp only;split
 ·exact(Bk.note _ (aQ _)).as rfl
 exact(Bk.same rfl).le (aQ _)
theorem y0 {c:bu}{me:Int}:(fP c me).acc=[]∧(fP c me).dI=[]:=by
 unfold fP
 repeat' split
 all_goals exact⟨rfl,rfl⟩
theorem zC {m:cQ}{me:Int}:(i7 m me).acc=[]∧(i7 m me).dI=[]∧(i7 m me).j7=[]:=by
 unfold i7;split
 ·split
  ·exact⟨rfl,rfl,rfl⟩
  exact⟨y0.1,y0.2,rfl⟩
 exact⟨rfl,rfl,rfl⟩
theorem ahp (w:ai) (n:Nat):Bk w (jS w n) 0:=by
 unfold jS;split
 ·have h:=V6 w n (i7 w.cD n);rw[zC.1,zC.2.1,zC.2.2]at h;exact h
 split
 ·have h:=V7 w n (fP (w.cls.getD (n - w.ah.length - 1) (dP w.set)) n);rw[y0.1,y0.2]at h;exact h
 exact .same rfl
theorem ai.wf.ahu {w:ai}(h:w.wf) (x:aJ) (n:Nat):Bk w (oA w x n) 300:=by
 unfold oA;split
 ·exact(ahp w n).le (by omega)
 split
 ·rename_i c;exact h.ahv c.2.2.1 _
 split
 ·exact(Ns w n).le (by omega)
 split
 ·exact(ahq w n).le (by omega)
 split
 ·exact(Bk.same rfl).le (by omega)
 split
 ·exact(rF w [_]).le (by omega)
 exact(Bk.same rfl).le (by omega)
theorem ai.wf.ahs {w:ai}(h:w.wf) (x:aJ):Bk w (fF w x) 4000000:=by
 unfold fF;split
 ·exact(Bk.same rfl).le (by omega)
 split
 ·split
  ·exact(Bk.same rfl).le (by omega)
  exact(Bk.same rfl).le (by omega)
 split
 ·exact(Bk.same (V9 _ _)).le (by omega)
 split
 ·exact(Bk.same rfl).le (by omega)
 split
 ·refine(Bk.same ?_).le (show 0≤4000000 by omega);unfold zI
  repeat' split
  all_goals rfl
 split
 ·split
  ·rename_i n hn;have h1:=List.mem_range.1 (List.mem_filter.1 (dh hn)).1;have h2:=h.nu;exact(h.HT (by omega)).le (by omega)
  exact(Bk.same rfl).le (by omega)
 split
 ·exact(h.HS _).le (by omega)
 split
 ·exact(Bk.same rfl).le (by omega)
 split
 ·exact(h.ahu x _).le (by omega)
 exact(Bk.same rfl).le (by omega)
theorem HR:∀{l:List aJ}{w:ai},w.wf→(∀x∈l,fW x=true)→Bk w (l.foldl fF w) (4000000 * l.length)
 | [],w,h,_=>.same rfl
 | x::l,w,h,hl=>((h.ahs x).trans (HR (l:=l) (h.step (hl x (List.mem_cons_self ..))) fun y hy=>hl y (List.mem_cons_of_mem _ hy))).le (by rw[List.length_cons];omega)
end Go.Proofs.YtobpfkgabdeefaaGreat.E
