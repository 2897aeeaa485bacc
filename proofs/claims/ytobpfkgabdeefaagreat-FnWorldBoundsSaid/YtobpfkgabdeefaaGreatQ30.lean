/- The world's book grows by so much; its letters run out: the plain law; Plain law: steps leave the setup as it is; Plain law: who is down has no letters -/
import Derived.Test.YtobpfkgabdeefaaGreatQ29
namespace Go.Proofs.YtobpfkgabdeefaaGreat.E
open Go Go.RowKit
set_option linter.unusedVariables false
set_option linter.unusedSimpArgs false
theorem Nz {c:bw}{me:Int}{t:cW}(k:Kept c me t):t.acc.length<=1:=by
 rcases k.acc with ⟨e,-⟩|⟨e,-⟩<;>rw[e]
 ·exact aR _
 exact Nat.le_refl _
theorem Uz {m:c9}{t:gx}(k:D9 m t):t.kx.length<=1:=by
 rcases k.kx with ⟨e,-⟩|⟨e,-⟩<;>rw[e]
 ·exact aR _
 exact Nat.le_refl _
theorem Nt {c:bw}{me:Int}{l:aC}:(jH c me l).dN.length<=1:=by
 unfold jH;split
 ·split
  ·unfold qq
   repeat' split
   all_goals first|exact aR _|exact Nat.le_refl _
  split
  ·unfold qt
   repeat' split
   all_goals first|exact aR _|exact Nat.le_refl _
  exact aR _
 exact aR _
theorem J5 {m:c9}{me:Int}{l:aC}:(jr m me l).dN.length<=1/\((jr m me l).acc.length<=1\/(jr m me l).acc=(jH m.cl me l).acc):=by
 unfold jr;split
 ·split
  ·unfold oT
   repeat' split
   all_goals exact⟨by first|exact aR _|exact Nat.le_refl _,.inl (aR _)⟩
  exact⟨Nt,.inr rfl⟩
 exact⟨aR _,.inl (aR _)⟩
theorem Wb (w:ae) (n:Nat) (t:cW):Bk w (oQ w n t) (t.acc.length+t.dN.length):=
 ((rY _ t.bR).trans ((rZ _ 1 n t.acc).trans (DH _ n t.dN))).le (by omega) |>.as rfl
theorem Wa (w:ae) (n:Nat) (t:gx):Bk w (oP w n t) (t.acc.length+t.kx.length+t.dN.length):=
 ((rY _ t.bR).trans ((rZ _ 1 n t.acc).trans ((rZ _ 5 n t.kx).trans (DH _ n t.dN)))).le (by omega) |>.as rfl
theorem ahG (w:ae) (n:Nat) (h:fm) (hp:∀k∈h.kept.toList,k.proof.length<=1000):Bk w (B3 w n h) (h.kept.toList.length+h.bR.length+h.dN.length):=
 ((wo _ n h.kept.toList hp).trans ((DI _ n h.bR).trans ((rY _ h.bR).trans (DH _ n h.dN)))).le (by omega) |>.as rfl
theorem yX {α:Type}(o:Option α):o.toList.length<=1:=by
 cases o
 ·exact aR _
 exact Nat.le_refl _
theorem ae.wf.bk1 {w:ae}(h:w.wf) {n:Nat}{x:aC}(hn:n<w.aj.length+w.cls.length+2) (hx:df x=true):Bk w (fA w n x) 300:=by
 have hs:=ea h.so;have h1:=h.nw;have h2:=h.nc;unfold fA;split
 ·split
  ·exact(rY w [_]).le (aR _)
  exact(Bk.same rfl).le (aR _)
 rename_i n0;have kr:aS (n:Int) 1 20=true:=cr.2 (by omega);split
 ·rename_i nw;obtain⟨w1,w2,w3⟩:=h.wt _ (je (l:=w.aj) (i:=n - 1) (d:=cJ) (by omega));have hm:=uR (me:=(n:Int)) (l:=x) w1 w3;have h3:=yX (fX (w.aj.getD (n - 1) cJ) n x).kept;have h4:=hm.l;have h5:=hm.a;refine(ahG w n _ fun k hk=>(hm.k k ?_).2).le (by omega);cases bV:(fX (w.aj.getD (n - 1) cJ) n x).kept with
  | none=>rw[bV]at hk;cases hk
  | some y=>
   rw[bV]at hk;rw[List.mem_singleton.1 hk]
 split
 ·have hc:=h.cl _ (je (l:=w.cls) (i:=n - w.aj.length - 1) (d:=dW w.set) (by omega));have ho:jc (w.cls.getD (n - w.aj.length - 1) (dW w.set)) n x=true:=by unfold jc;rw[hc,hx,kr];rfl
  have k:=Nz (xA ho);have k2:=Nt (c:=w.cls.getD (n - w.aj.length - 1) (dW w.set)) (me:=(n:Int)) (l:=x);exact(Wb w n _).le (by omega)
 have k:=Uz (BT h.mn hx kr).1;have k2:=J5 (m:=w.cS) (me:=(n:Int)) (l:=x);have k3:(jr w.cS n x).acc.length<=1:=by
  rcases k2.2 with e|e
  ·exact e
  rw[e];have ho:jc w.cS.cl n x=true:=by unfold jc;rw[(j7.of h.mn).c,hx,kr];rfl
  exact Nz (xA ho)
 exact(Wa w n _).le (by omega)
theorem ae.wf.HT {w:ae}(h:w.wf) {n:Nat}(hn:n<w.aj.length+w.cls.length+2):Bk w (js w n) 300:=by
 have hf:=h.first n;obtain⟨-,e1,e2,e3⟩:=vM w n;exact(hf.1.bk1 (by rw[e1,e2];exact hn) hf.2).as e3
theorem Ye {l:List (List aC)}{n:Nat}{x:aC}{b:List aC}(h:l[n]?=some (x::b)):((l.set n b).map List.length).sum+1=(l.map List.length).sum:=by
 induction l generalizing n with
 | nil=>cases h
 | cons a l ih=>
  cases n with
  | zero=>
   cases h;simp only[List.set_cons_zero,List.map_cons,List.sum_cons,List.length_cons]
   omega
  | succ n=>
   have:=ih (n:=n) h;simp only[List.set_cons_succ,List.map_cons,List.sum_cons];omega
theorem OE (w:ae) (n:Nat) (x:aC):(fA w n x).ai=w.ai:=by
 unfold fA;split
 ·split
  ·exact(ta w _).ai
  rfl
 split
 ·exact(gG _ _ _).ai.trans ((lq _ _).ai.trans ((qK _ _ _).ai.trans (kK _ _ _).ai))
 split
 ·exact(gG _ _ _).ai.trans ((fV _ _ _ _).ai.trans (lq _ _).ai)
 exact(gG _ _ _).ai.trans ((fV _ _ _ _).ai.trans ((fV _ _ _ _).ai.trans (lq _ _).ai))
theorem E4 {w:ae}{i:Nat}(h:i∈gP w):i<w.up.length/\w.up.getD i false=true/\∃x b,w.ai[i]?=some (x::b):=by
 have h1:=List.mem_filter.1 h;have h2:=List.mem_range.1 h1.1;have h3:=h1.2;simp only[Bool.and_eq_true,decide_eq_true_eq]at h3;refine⟨h2,h3.1,?_⟩;have h4:=h3.2;rw[List.getD_eq_getElem?_getD]at h4;cases e:w.ai[i]? with
 | none=>rw[e]at h4;exact absurd h4 (by decide)
 | some b=>
  rw[e]at h4;cases b with
  | nil=>exact absurd h4 (by decide)
  | cons x b=>exact⟨x,b,rfl⟩
theorem IK {w:ae}{i:Nat}(h:i∈gP w):jO (js w i)+1=jO w:=by
 obtain⟨-,-,x,b,e⟩:=E4 h;have e1:(js w i).ai=w.ai.set i b:=by
  show(fA _ _ _).ai=_
  rw[OE];unfold jI;rw[e]
 unfold jO;rw[e1];exact Ye e
theorem Yt {l:List (List aC)}{k:Nat}(h:∀b∈l,b.length<=k):(l.map List.length).sum<=l.length * k:=by
 induction l with
 | nil=>exact aR _
 | cons a l ih=>
  have h1:=h a (List.mem_cons_self ..);have h2:=ih fun b hb=>h b (List.mem_cons_of_mem _ hb)
  simp only[List.map_cons,List.sum_cons,List.length_cons];rw[Nat.add_mul,Nat.one_mul];omega
theorem ae.wf.IL {w:ae}(h:w.wf):jO w<=640:=by
 have hs:=ea h.so;have h1:=h.nw;have h2:=h.nc;have h3:=h.nb;have hk:=Yt (l:=w.ai) (k:=64) fun b hb=>by
  have:=(h.bx b hb).1;omega
 unfold jO;have:w.ai.length<=10:=by omega
 have:=Nat.mul_le_mul_right 64 this;omega
theorem ae.wf.Wh:∀(n:Nat) {w:ae},w.wf->Bk w (jt n w) (300 * n)
 | 0,w,h=>.same rfl
 | n+1,w,h=>by
  unfold jt;split
  ·exact(Bk.same rfl).le (aR _)
  rename_i i l e;have hi:=E3 h e;exact((h.HT hi).trans (ae.wf.Wh n (h.vJ hi))).le (by omega)
theorem Wd (w:ae) (k:Int):(ju w k).book=w.book:=by
 unfold ju;split
 ·dsimp only;split<;>rfl
 rfl
theorem Nb:∀(n:Nat) (w:ae),(iS n w).book=w.book
 | 0,w=>rfl
 | n+1,w=>(Nb n _).trans (Wd w 0)
theorem ae.wf.ahH {w:ae}(h:w.wf):Bk w (pD w) 192000:=by
 have h1:=h.pY w.aO.length;have h2:=h1.IL;exact((h1.Wh (jO (iS w.aO.length w))).le (by omega)).as (Nb _ _)
theorem ae.wf.HS:∀(n:Nat) {w:ae},w.wf->Bk w (jP n w) (192000 * n)
 | 0,w,h=>.same rfl
 | n+1,w,h=>(h.ahH.trans (ae.wf.HS n h.round)).le (by omega)
theorem M9 (w:ae) (n:Nat):(eQ w n).book=w.book:=by
 unfold eQ
 repeat' split
 all_goals rfl
theorem Na (w:ae) (n:Nat):Bk w (iR w n) 1:=(Bk.note _ (aR _)).as (M9 _ n)
theorem ae.wf.ahJ {w:ae}(h:w.wf) {n:Nat}(hn:1<=n/\n<=w.aj.length) (cut:Int):Bk w (nA w n cut) 300:=by
 have hf:=h.first n;obtain⟨-,e2,-,e3⟩:=vM w n;unfold nA;generalize jI w n=p at *;obtain⟨p1,p2⟩:=p;dsimp only at *;obtain⟨w1,w2,w3⟩:=hf.1.wt _ (je (l:=p1.aj) (i:=n - 1) (d:=cJ) (by rw[e2];omega));generalize p1.aj.getD (n - 1) cJ=y at *;have hm:=uR (me:=(n:Int)) (l:=p2) w1 w3;generalize fX y n p2=H at *;refine Bk.as ?_ e3;have h3:=yX H.kept;split
 ·have hp:∀k∈H.kept.toList,k.proof.length<=1000:=by
   intro k hk;refine(hm.k k ?_).2;cases bV:H.kept with
   | none=>rw[bV]at hk;cases hk
   | some y=>rw[bV]at hk;rw[List.mem_singleton.1 hk]
  have k1:=wo {p1 with aj:=p1.aj.set (n - 1) ⟨fu y.aH H.eG cut,y.aQ⟩} n H.kept.toList hp;have k2:=Na (fC {p1 with aj:=p1.aj.set (n - 1) ⟨fu y.aH H.eG cut,y.aQ⟩} n H.kept.toList) n;exact((k1.trans k2).le (by omega)).as rfl
 exact((Na _ n).as rfl).le (by omega)
theorem ahF (w:ae) (n:Nat):Bk w (mN w n) 1:=by
 unfold mN;dsimp only;split
 ·exact(Bk.note _ (aR _)).as rfl
 exact(Bk.same rfl).le (aR _)
theorem yZ {c:bw}{me:Int}:(fY c me).acc=[]/\(fY c me).dN=[]:=by
 unfold fY
 repeat' split
 all_goals exact⟨rfl,rfl⟩
theorem zw {m:c9}{me:Int}:(jq m me).acc=[]/\(jq m me).dN=[]/\(jq m me).kx=[]:=by
 unfold jq;split
 ·split
  ·exact⟨rfl,rfl,rfl⟩
  exact⟨yZ.1,yZ.2,rfl⟩
 exact⟨rfl,rfl,rfl⟩
theorem ahE (w:ae) (n:Nat):Bk w (i5 w n) 0:=by
 unfold i5;split
 ·have h:=Wa w n (jq w.cS n);rw[zw.1,zw.2.1,zw.2.2]at h;exact h
 split
 ·have h:=Wb w n (fY (w.cls.getD (n - w.aj.length - 1) (dW w.set)) n);rw[yZ.1,yZ.2]at h;exact h
 exact .same rfl
theorem ae.wf.ahI {w:ae}(h:w.wf) (x:bQ) (n:Nat):Bk w (mg w x n) 300:=by
 unfold mg;split
 ·exact(ahE w n).le (by omega)
 split
 ·rename_i c;exact h.ahJ c.2.2.1 _
 split
 ·exact(Na w n).le (by omega)
 split
 ·exact(ahF w n).le (by omega)
 split
 ·exact(Bk.same rfl).le (by omega)
 split
 ·exact(rY w [_]).le (by omega)
 exact(Bk.same rfl).le (by omega)
theorem ae.wf.We {w:ae}(h:w.wf) (x:bQ):Bk w (eZ w x) 4000000:=by
 unfold eZ;split
 ·exact(Bk.same rfl).le (by omega)
 split
 ·split
  ·exact(Bk.same rfl).le (by omega)
  exact(Bk.same rfl).le (by omega)
 split
 ·exact(Bk.same (Wd _ _)).le (by omega)
 split
 ·exact(Bk.same rfl).le (by omega)
 split
 ·refine(Bk.same ?_).le (show 0<=4000000 by omega);unfold vi
  repeat' split
  all_goals rfl
 split
 ·split
  ·rename_i n hn;have h1:=List.mem_range.1 (List.mem_filter.1 (dk hn)).1;have h2:=h.nu;exact(h.HT (by omega)).le (by omega)
  exact(Bk.same rfl).le (by omega)
 split
 ·exact(h.HS _).le (by omega)
 split
 ·exact(Bk.same rfl).le (by omega)
 split
 ·exact(h.ahI x _).le (by omega)
 exact(Bk.same rfl).le (by omega)
theorem HR:∀{l:List bQ}{w:ae},w.wf->(∀x∈l,e9 x=true)->Bk w (l.foldl eZ w) (4000000 * l.length)
 | [],w,h,_=>.same rfl
 | x::l,w,h,hl=>((h.We x).trans (HR (l:=l) (h.step (hl x (List.mem_cons_self ..))) fun y hy=>hl y (List.mem_cons_of_mem _ hy))).le (by rw[List.length_cons];omega)
theorem Pc (w:ae) (n:Nat) (t:cW):(oQ w n t).set=w.set:=(gG _ _ _).set.trans ((fV _ _ _ _).set.trans (lq _ _).set)
theorem Pb (w:ae) (n:Nat) (t:gx):(oP w n t).set=w.set:=(gG _ _ _).set.trans ((fV _ _ _ _).set.trans ((fV _ _ _ _).set.trans (lq _ _).set))
theorem Pf (w:ae) (n:Nat):(js w n).set=w.set:=by
 have h:∀(v:ae) (x:aC),(fA v n x).set=v.set:=fun v x=>by
  unfold fA;split
  ·split
   ·exact(ta v _).set
   rfl
  split
  ·exact(gG _ _ _).set.trans ((lq _ _).set.trans ((qK _ _ _).set.trans (kK _ _ _).set))
  split
  ·exact Pc _ _ _
  exact Pb _ _ _
 exact(h _ _).trans (vM w n).1
theorem Pe:∀(n:Nat) (w:ae),(jt n w).set=w.set
 | 0,_=>rfl
 | n+1,w=>by
  show(match gP w with|[]=>w|i::_=>jt n (js w i)).set=w.set
  split
  ·rfl
  exact(Pe n _).trans (Pf _ _)
theorem Ph (w:ae) (k:Int):(ju w k).set=w.set:=by
 unfold ju;split
 ·simp only;split<;>rfl
 rfl
theorem Pj:∀(n:Nat) (w:ae),(iS n w).set=w.set
 | 0,_=>rfl
 | n+1,w=>(Pj n _).trans (Ph w 0)
theorem Pd:∀(n:Nat) (w:ae),(jP n w).set=w.set
 | 0,_=>rfl
 | n+1,w=>(Pd n _).trans ((Pe _ _).trans (Pj _ _))
theorem Y0 (w:ae) (n:Nat):(eQ w n).set=w.set:=by
 unfold eQ
 repeat' split
 all_goals rfl
theorem Pg (w:ae) (n:Nat):(iR w n).set=w.set:=Y0 {w with up:=w.up.set n false,ai:=w.ai.set n []} n
theorem YZ (w:ae) (x:bQ) (n:Nat):(mg w x n).set=w.set:=by
 unfold mg;split
 ·unfold i5;split
  ·exact Pb _ _ _
  split
  ·exact Pc _ _ _
  rfl
 split
 ·unfold nA;refine(Pg _ n).trans ?_;split
  ·exact(kK _ _ _).set.trans (vM w n).1
  exact(vM w n).1
 split
 ·exact Pg w n
 split
 ·unfold mN;simp only;split<;>rfl
 split
 ·rfl
 split
 ·exact(ta _ _).set
 rfl
theorem OU (w:ae) (x:bQ):(eZ w x).set=w.set:=by
 unfold eZ;split
 ·rfl
 split
 ·split<;>rfl
 split
 ·exact Ph _ _
 split
 ·rfl
 split
 ·unfold vi;split
  ·split<;>rfl
  rfl
 split
 ·split
  ·exact Pf _ _
  rfl
 split
 ·exact Pd _ _
 split
 ·rfl
 split
 ·exact YZ _ _ _
 rfl
def ae.dn (w:ae):Prop:=∀i:Nat,w.up[i]?=some false->w.ai.getD i []=[]
theorem ae.dn.same {w v:ae}(h:w.dn) (hu:v.up=w.up) (hb:v.ai=w.ai):v.dn:=by unfold ae.dn;rw[hu,hb];exact h
theorem Tg {α:Type}(l:List α) (n i:Nat) (a d:α):(l.set n a).getD i d=if n=i/\i<l.length then a else l.getD i d:=by
 rw[List.getD_eq_getElem?_getD,List.getD_eq_getElem?_getD,List.getElem?_set];by_cases h:n=i
 ·subst h;by_cases h2:n<l.length
  ·rw[if_pos rfl,if_pos h2,if_pos ⟨rfl,h2⟩];rfl
  rw[if_pos rfl,if_neg h2,if_neg (fun x=>h2 x.2),List.getElem?_eq_none (by omega)]
 rw[if_neg h,if_neg (fun x=>h x.1)]
theorem ae.dn.box {w:ae}(h:w.dn) (n:Nat) (b:List aC) (hb:w.up[n]?=some false->b=[]):ae.dn {w with ai:=w.ai.set n b}:=by
 intro i hi;show(w.ai.set n b).getD i []=[]
 rw[Tg];split
 ·rename_i e;exact hb (e.1▸hi)
 exact h i hi
theorem X8 (w:ae) (n:Nat) (x:aC):(fA w n x).up=w.up:=by
 unfold fA;split
 ·split
  ·exact(ta w _).up
  rfl
 split
 ·exact(gG _ _ _).up.trans ((lq _ _).up.trans ((qK _ _ _).up.trans (kK _ _ _).up))
 split
 ·exact(gG _ _ _).up.trans ((fV _ _ _ _).up.trans (lq _ _).up)
 exact(gG _ _ _).up.trans ((fV _ _ _ _).up.trans ((fV _ _ _ _).up.trans (lq _ _).up))
theorem ae.dn.first {w:ae}(h:w.dn) (n:Nat):(jI w n).1.dn:=by
 unfold jI;split
 ·rename_i x l e;refine h.box n l fun hu=>?_
  have:=h n hu;rw[List.getD_eq_getElem?_getD,e]at this;cases this
 exact h
theorem ae.dn.vJ {w:ae}(h:w.dn) (n:Nat):(js w n).dn:=(h.first n).same (X8 _ _ _) (OE _ _ _)
theorem ae.dn.CL:∀(n:Nat) {w:ae},w.dn->(jt n w).dn
 | 0,_,h=>h
 | n+1,w,h=>by
  show(match gP w with|[]=>w|i::_=>jt n (js w i)).dn
  split
  ·exact h
  exact(h.vJ _).CL n
theorem ae.dn.yn {w:ae}(h:w.dn) (k:Int):(ju w k).dn:=by
 unfold ju;split
 ·rename_i x e;simp only;split
  ·rename_i c;refine ae.dn.box (w:={w with aO:=w.aO.eraseIdx (eP k w.aO.length)}) (h.same rfl rfl) _ _ fun hu=>?_
   have hu:w.up[x.iB.toNat]?=some false:=hu;have:=c.2.1;rw[List.getD_eq_getElem?_getD,hu]at this;cases this
  exact h.same rfl rfl
 exact h
theorem ae.dn.pY:∀(n:Nat) {w:ae},w.dn->(iS n w).dn
 | 0,_,h=>h
 | n+1,_,h=>(h.yn 0).pY n
theorem ae.dn.tN:∀(n:Nat) {w:ae},w.dn->(jP n w).dn
 | 0,_,h=>h
 | n+1,_,h=>((h.pY _).CL _).tN n
theorem ad8 (w:ae) (n:Nat):(eQ w n).up=w.up/\(eQ w n).ai=w.ai:=by
 unfold eQ
 repeat' split
 all_goals exact⟨rfl,rfl⟩
theorem ae.dn.down {w:ae}(h:w.dn) (n:Nat):(iR w n).dn:=by
 have hf:=ad8 {w with up:=w.up.set n false,ai:=w.ai.set n []} n;refine ae.dn.same (w:={w with up:=w.up.set n false,ai:=w.ai.set n []}) ?_ hf.1 hf.2;intro i hi;have hi:(w.up.set n false)[i]?=some false:=hi;show(w.ai.set n []).getD i []=[]
 rw[Tg];split
 ·rfl
 rename_i e;by_cases hn:n=i
 ·subst hn;rw[List.getD_eq_getElem?_getD,List.getElem?_eq_none (by have:¬n<w.ai.length:=fun x=>e ⟨rfl,x⟩;omega)];rfl
 rw[List.getElem?_set_ne hn]at hi;exact h i hi
theorem ae.dn.LZ {w:ae}(h:w.dn) (n:Nat) (cut:Int):(nA w n cut).dn:=by
 unfold nA;refine ae.dn.down ?_ n;split
 ·exact(h.first n).same ((kK _ _ _).up.trans rfl) ((kK _ _ _).ai.trans rfl)
 exact(h.first n).same rfl rfl
theorem ae.dn.Bn {w:ae}(h:w.dn) (n:Nat):(mN w n).dn:=by
 have k:∀v:ae,v.up=w.up.set n true->v.ai=w.ai->v.dn:=by
  intro v hu hb i hi;rw[hu]at hi;rw[hb];by_cases hn:n=i
  ·subst hn;by_cases h2:n<w.up.length
   ·rw[List.getElem?_set_self h2]at hi;cases hi
   rw[List.getElem?_eq_none (by rw[List.length_set];omega)]at hi;cases hi
  rw[List.getElem?_set_ne hn]at hi;exact h i hi
 unfold mN;simp only;split
 ·exact k _ rfl rfl
 exact k _ rfl rfl
theorem OC (w:ae) (n:Nat):(i5 w n).up=w.up/\(i5 w n).ai=w.ai:=by
 unfold i5;split
 ·exact⟨(gG _ _ _).up.trans ((fV _ _ _ _).up.trans ((fV _ _ _ _).up.trans (lq _ _).up)),(gG _ _ _).ai.trans ((fV _ _ _ _).ai.trans ((fV _ _ _ _).ai.trans (lq _ _).ai))⟩
 split
 ·exact⟨(gG _ _ _).up.trans ((fV _ _ _ _).up.trans (lq _ _).up),(gG _ _ _).ai.trans ((fV _ _ _ _).ai.trans (lq _ _).ai)⟩
 exact⟨rfl,rfl⟩
theorem ae.dn.node {w:ae}(h:w.dn) (x:bQ) (n:Nat):(mg w x n).dn:=by
 unfold mg;split
 ·exact h.same (OC w n).1 (OC w n).2
 split
 ·exact h.LZ n _
 split
 ·exact h.down n
 split
 ·exact h.Bn n
 split
 ·exact h.same rfl rfl
 split
 ·exact h.same (ta _ _).up (ta _ _).ai
 exact h
theorem ae.dn.step {w:ae}(h:w.dn) (x:bQ):(eZ w x).dn:=by
 unfold eZ;split
 ·exact h
 split
 ·split
  ·exact h.same rfl rfl
  exact h
 split
 ·exact h.yn _
 split
 ·exact h.same rfl rfl
 split
 ·unfold vi;split
  ·split
   ·exact h
   exact h.same rfl rfl
  exact h
 split
 ·split
  ·exact h.vJ _
  exact h
 split
 ·exact h.tN _
 split
 ·intro i _;show(w.ai.map fun _=>([]:List aC)).getD i []=[]
  rw[List.getD_eq_getElem?_getD,List.getElem?_map];cases w.ai[i]?<;>rfl
 split
 ·exact h.node x _
 exact h
theorem aba (s:et):(gz s).dn:=by
 intro i hi;have hi:(List.replicate (s.many+s.bB+2).toNat true)[i]?=some false:=hi;rw[List.getElem?_replicate]at hi;split at hi<;>cases hi
theorem T4:∀(l:List bQ) {w:ae},w.dn->(l.foldl eZ w).dn
 | [],_,h=>h
 | x::l,_,h=>T4 l (h.step x)
end Go.Proofs.YtobpfkgabdeefaaGreat.E
