/- An evaluator of the model's code, proved sound (E2): V W X Z N Q O P H. -/
import Derived.Test.YtobpfkgabdeefaaGreatP0
import Derived.Carry
import Derived.WideKeyRuns
import Derived.Orders
import Derived.Lib.ConvBytes
import Derived.Laws.RangeString
import Derived.ChangeMaps4
namespace Go.Proofs.YtobpfkgabdeefaaGreat.E
section
open Go Go.RowKit
set_option linter.unusedVariables false
abbrev NF:=Nat→Nat→Option (Nat × Nat)
def ot (N:NF):AV→AV
 | .au r g p sz off len=>match N r g with
  | some x=>.au x.1 x.2 p sz off len
  | none=>.dead
 | .ptr r g p sz i o=>match N r g with
  | some x=>.ptr x.1 x.2 p sz i o
  | none=>.dead
 | .mr r g p=>match N r g with
  | some x=>.mr x.1 x.2 p
  | none=>.dead
 | .agg _=>.dead
 | .ba _=>.dead
 | v=>v
def mapA (N:NF):AV→AV
 | .agg cs=>.agg (cs.map (ot N))
 | v=>ot N v
def zD (N:NF):AV→AV
 | .ba vs=>.ba (vs.map (mapA N))
 | v=>mapA N v
def lU (N:NF) (row:Row):Row:=match Nat.ble 1 row.fl with
 | true=>row
 | false=>⟨row.sz,row.es.map fun e=>e.map (ot N),row.fl,row.ao⟩
def iD (N:NF) (f:dZ):dZ:=fun p=>match f p with
 | some row=>some (lU N row)
 | none=>none
theorem abb {N:NF}{row:Row}:iD N (one row)=one (lU N row):=by
 funext p;cases p<;>rfl
def tj (N:NF) (φ φ':b9):Prop:=∀r g x p pl,N r g=some x→φ r g p=some pl→φ' x.1 x.2 p=some pl
section
variable {P:Program}{rd:RD}{φ φ':b9}{O:Nat→Prop}{w0 w:World}{σ σ':aj}{N:NF}
theorem J9 (hN:tj N φ φ') {c:AV}{v:Value}(h:aL rd φ c v):aL rd φ' (ot N c) v:=by
 cases h with
 | au r g p sz off len pl A hφ hA hl=>
  simp only[ot];split
  ·rename_i x hx;exact .au _ _ p sz off len pl A (hN _ _ _ _ _ hx hφ) hA hl
  exact .dead _
 | ptr r g p sz i o pl b q hφ aK=>
  simp only[ot];split
  ·rename_i x hx;exact .ptr _ _ p sz i o pl b q (hN _ _ _ _ _ hx hφ) aK
  exact .dead _
 | dead v=>exact .dead v
 | sc v h=>exact .sc v h
 | aG=>exact .aG
 | ir sz A cap=>exact .ir sz A cap
 | ro sz es b q cap f hc hs hr hv=>exact(aL.ro sz es b q cap f hc hs hr hv).lT rfl
 | rp cs b q f hs hr hv=>exact(aL.rp cs b q f hs hr hv).lT rfl
 | agg=>exact .dead _
 | ba=>exact .dead _
 | it r=>exact .it r
 | mr r g p pl b hφ aK=>
  simp only[ot];cases hn:N r g with
  | none=>exact .dead _
  | some x=>exact .mr _ _ p pl b (hN _ _ _ _ _ hn hφ) aK
theorem B3 (hN:tj N φ φ') {c:AV}{v:Value}(h:aL rd φ c v):aL rd φ' (mapA N c) v:=by
 cases c with
 | agg cs=>
  obtain⟨arr,rfl,hp⟩:=PW.mq h;exact PW.agg (hp.map (J9 hN))
 | _=>exact J9 hN h
theorem J5 (hN:tj N φ φ') {c:AV}{v:Value}(h:aL rd φ c v):aL rd φ' (zD N c) v:=by
 cases c with
 | ba cs=>
  obtain⟨arr,rfl,hp⟩:=PW.tE h;exact PW.ba (hp.map (B3 hN))
 | _=>exact B3 hN h
theorem Rn (N:NF) (row:Row):(lU N row).sz=row.sz∧(lU N row).es.length=row.es.length∧(lU N row).ao=row.ao:=by
 unfold lU;split
 ·exact⟨rfl,rfl,rfl⟩
 exact⟨rfl,by simp,rfl⟩
theorem ma.map (hN:tj N φ φ') {pl:Pl}{row:Row}(h:ma rd φ w pl row):ma rd φ' w pl (lU N row):=by
 unfold lU;split
 ·rename_i hf;have hf:=Nat.le_of_ble_eq_true hf;refine⟨h.wide,h.len,h.kind,h.nil,h.room,fun b q aK i j c hc=>?_,h.ic,h.mp⟩;obtain⟨v,hv,hr⟩:=h.cells b q aK i j c hc;refine⟨v,hv,hr.lT ?_⟩;cases he:row.es[i]? with
  | none=>rw[he]at hc;cases hc
  | some e=>
   rw[he]at hc;have:=(h.kind e (dh he)).1 hf c (dh hc);cases c<;>first|rfl|cases this
 rename_i hf;have hf0:row.fl=0:=by
  rcases Nat.eq_zero_or_pos row.fl with h0|h0
  ·exact h0
  rw[Nat.ble_eq_true_of_le h0]at hf;cases hf
 refine⟨fun e he=>?_,by simpa using h.len,fun e he=>⟨fun h1=>?_,fun h1=>?_⟩,h.nil,h.room,fun b q aK i j c hc=>?_,fun ha=>?_,lj (by show row.fl<3;omega)⟩
 ·obtain⟨e',Lt,rfl⟩:=List.mem_map.1 he
  simpa using h.wide e' Lt
 ·simp only at h1;omega
 ·simp only at h1;omega
 ·simp only[List.getElem?_map]at hc;cases he:row.es[i]? with
  | none=>rw[he]at hc;cases hc
  | some e=>
   rw[he]at hc;simp only[Option.map_some,Option.bind_some,List.getElem?_map]at hc;obtain⟨c',sF,rfl⟩:=cJ hc;obtain⟨v,hv,hr⟩:=h.cells b q aK i j c' (by rw[he];exact sF);exact⟨v,hv,J9 hN hr⟩
 have:=(h.ic ha).1;omega
theorem Pw {σ:aj}{r g g':Nat}{p p':List Nat}{row cq:Row}(h:rowAt σ r g p=some row) (k:rowAt σ r g' p'=some cq):g=g':=by
 unfold rowAt at h k;cases hl:bI σ r with
 | none=>rw[hl]at h;cases h
 | some x=>
  rw[hl]at h k;simp only at h k;split at h
  ·split at k
   ·rename_i h1 h2;exact h1.symm.trans h2
   cases k
  cases h
theorem bp.PJ (h:bp rd φ O w0 σ w) (hN:tj N φ φ')
  (hσ:∀r' g' p cq,rowAt σ' r' g' p=some cq→∃r g row,rowAt σ r g p=some row∧N r g=some (r',g')∧cq=lU N row):bp rd φ' O w0 σ' w:=by
 refine⟨?_,?_,h.eh,?_,?_,h.frame,h.size,h.os,h.tape,h.output⟩
 ·intro r' g' p cq hr;obtain⟨r,g,row,h1,h2,rfl⟩:=hσ _ _ _ _ hr;obtain⟨pl,h3,h4⟩:=h.rows _ _ _ _ h1;exact⟨pl,hN _ _ _ _ _ h2 h3,h4.map hN⟩
 ·intro r' g' p cq r2' g2' p2 ail pl cX b q q2 e1 e2 e3 e4 e5 e6;obtain⟨r,g,row,h1,h2,rfl⟩:=hσ _ _ _ _ e1;obtain⟨r2,g2,bD,k1,k2,rfl⟩:=hσ _ _ _ _ e2;obtain⟨iZ,h3,_⟩:=h.rows _ _ _ _ h1;obtain⟨pl3,k3,_⟩:=h.rows _ _ _ _ k1;rw[hN _ _ _ _ _ h2 h3]at e3;rw[hN _ _ _ _ _ k2 k3]at e4;cases e3;cases e4;obtain⟨rfl,rfl⟩:=h.sep _ _ _ _ _ _ _ _ _ _ _ _ _ h1 k1 h3 k3 e5 e6;have:=Pw h1 k1;subst this;rw[h2]at k2;cases k2;exact⟨rfl,rfl⟩
 ·intro r' g' p cq pl b q e1 e2 e3 k dD;obtain⟨r,g,row,h1,h2,rfl⟩:=hσ _ _ _ _ e1;obtain⟨iZ,h3,_⟩:=h.rows _ _ _ _ h1;rw[hN _ _ _ _ _ h2 h3]at e2;cases e2;obtain⟨m1,m2,m3⟩:=Rn N row;rw[m1,m2,m3]at dD;exact h.et _ _ _ _ _ _ _ h1 h3 e3 k dD
 intro r' g' p cq pl b q e1 e2 e3;obtain⟨r,g,row,h1,h2,rfl⟩:=hσ _ _ _ _ e1;obtain⟨iZ,h3,_⟩:=h.rows _ _ _ _ h1;rw[hN _ _ _ _ _ h2 h3]at e2;cases e2;exact h.own _ _ _ _ _ _ _ h1 h3 e3
abbrev d6:=List ((Nat × Nat) × (Nat × Nat))
def iy:d6→NF
 | [],_,_=>none
 | x::l,r,g=>match x.1.1==r with
  | true=>match Nat.beq x.1.2 g with
   | true=>some x.2
   | false=>iy l r g
  | false=>iy l r g
def sh:d6→NF
 | [],_,_=>none
 | x::l,r,g=>match x.2.1==r with
  | true=>match Nat.beq x.2.2 g with
   | true=>some x.1
   | false=>sh l r g
  | false=>sh l r g
def mi (σ:aj) (N:NF):d6→Option aj
 | []=>some []
 | x::l=>(bI σ x.1.1).bind fun gf=>match Nat.beq gf.1 x.1.2 with
  | true=>(gf.2 []).bind fun _=>(mi σ N l).map fun s=>(x.2.1,(x.2.2,iD N gf.2))::s
  | false=>none
def CP (l:d6) (r:Nat):Bool:=l.any fun x=>x.1.1==r
def GQ (l:d6) (r:Nat):Bool:=l.any fun x=>x.2.1==r
def l7:d6→Bool
 | []=>true
 | x::l=>match CP l x.1.1,GQ l x.2.1 with
  | false,false=>l7 l
  | _,_=>false
theorem F3 {l:d6}{r g:Nat}{x:Nat × Nat}(h:iy l r g=some x):((r,g),x)∈l:=by
 induction l with
 | nil=>cases h
 | cons y l ih=>
  simp only[iy]at h;split at h
  ·rename_i h1;split at h
   ·rename_i h2;cases h;have h1:y.1.1=r:=by simpa using h1
    have h2:y.1.2=g:=Nat.eq_of_beq_eq_true h2;subst h1;subst h2;simp
   exact List.mem_cons_of_mem _ (ih h)
  exact List.mem_cons_of_mem _ (ih h)
theorem Cc {l:d6}{r g:Nat}{x:Nat × Nat}(h:sh l r g=some x):(x,(r,g))∈l:=by
 induction l with
 | nil=>cases h
 | cons y l ih=>
  simp only[sh]at h;split at h
  ·rename_i h1;split at h
   ·rename_i h2;cases h;have h1:y.2.1=r:=by simpa using h1
    have h2:y.2.2=g:=Nat.eq_of_beq_eq_true h2;subst h1;subst h2;simp
   exact List.mem_cons_of_mem _ (ih h)
  exact List.mem_cons_of_mem _ (ih h)
theorem S1 {l:d6}{r:Nat}(h:CP l r=false) {x:(Nat × Nat) × (Nat × Nat)}(hx:x∈l):x.1.1≠r:=by
 intro e;have:CP l r=true:=List.any_eq_true.2 ⟨x,hx,by simp[e]⟩;rw[this]at h;cases h
theorem S0 {l:d6}{r:Nat}(h:GQ l r=false) {x:(Nat × Nat) × (Nat × Nat)}(hx:x∈l):x.2.1≠r:=by
 intro e;have:GQ l r=true:=List.any_eq_true.2 ⟨x,hx,by simp[e]⟩;rw[this]at h;cases h
theorem Mh:∀{l:d6},l7 l=true→∀x∈l,∀y∈l,(x.1.1=y.1.1∨x.2.1=y.2.1)→x=y
 | [],_,x,hx,_,_,_=>by simp at hx
 | z::l,h,x,hx,y,hy,e=>by
  simp only[l7]at h;split at h
  ·rename_i h1 h2;rcases List.mem_cons.1 hx with fJ|fJ<;>rcases List.mem_cons.1 hy with qi|qi
   ·rw[fJ,qi]
   ·subst fJ;rcases e with e|e
    ·exact absurd e.symm (S1 h1 qi)
    exact absurd e.symm (S0 h2 qi)
   ·subst qi;rcases e with e|e
    ·exact absurd e (S1 h1 fJ)
    exact absurd e (S0 h2 fJ)
   exact Mh h x fJ y qi e
  cases h
theorem RR {l:d6}(hd:l7 l=true) {x:(Nat × Nat) × (Nat × Nat)}(hx:x∈l):iy l x.1.1 x.1.2=some x.2:=by
 induction l with
 | nil=>simp at hx
 | cons y l ih=>
  have gh:=Mh hd;simp only[iy];by_cases h1:y.1.1=x.1.1
  ·have:y=x:=gh y (by simp) x hx (.inl h1);subst this;simp
  have h2:(y.1.1==x.1.1)=false:=by simpa using h1
  rw[h2];have sn:x∈l:=by
   rcases List.mem_cons.1 hx with e|e
   ·exact absurd (by rw[e]) h1
   exact e
  refine ih ?_ sn;simp only[l7]at hd;split at hd
  ·exact hd
  cases hd
theorem RT {l:d6}(hd:l7 l=true) {x:(Nat × Nat) × (Nat × Nat)}(hx:x∈l):sh l x.2.1 x.2.2=some x.1:=by
 induction l with
 | nil=>simp at hx
 | cons y l ih=>
  have gh:=Mh hd;simp only[sh];by_cases h1:y.2.1=x.2.1
  ·have:y=x:=gh y (by simp) x hx (.inr h1);subst this;simp
  have h2:(y.2.1==x.2.1)=false:=by simpa using h1
  rw[h2];have sn:x∈l:=by
   rcases List.mem_cons.1 hx with e|e
   ·exact absurd (by rw[e]) h1
   exact e
  refine ih ?_ sn;simp only[l7]at hd;split at hd
  ·exact hd
  cases hd
def kM (φ:b9) (L:d6):b9:=fun r g p=>match sh L r g with
 | some x=>φ x.1 x.2 p
 | none=>none
theorem zs {L:d6}(hd:l7 L=true):tj (iy L) φ (kM φ L):=by
 intro r g x p pl hx hp;have:=RT hd (F3 hx);simp only at this;simp only[kM,this,hp]
theorem Ji {N:NF}:∀{L:d6}{σ':aj},mi σ N L=some σ'→∀r' g' p cq,rowAt σ' r' g' p=some cq→∃x∈L,∃row,x.2=(r',g')∧rowAt σ x.1.1 x.1.2 p=some row∧cq=lU N row
 | [],σ',h,r',g',p,cq,hr=>by cases h;simp[rowAt,bI]at hr
 | y::L,σ',h,r',g',p,cq,hr=>by
  simp only[mi]at h;obtain⟨gf,h1,h2⟩:=cw h;split at h2
  ·rename_i hb;obtain⟨kZ,h0,h2⟩:=cw h2;obtain⟨s,h3,rfl⟩:=cJ h2;have hb:=Nat.eq_of_beq_eq_true hb;unfold rowAt at hr;rw[gx]at hr;by_cases hk:y.2.1=r'
   ·rw[if_pos hk]at hr;simp only at hr;split at hr
    ·rename_i hg;unfold iD at hr;split at hr
     ·rename_i row fo;cases hr;refine⟨y,by simp,row,by rw[←hk,←hg],?_,rfl⟩;unfold rowAt;rw[h1];simp[hb,fo]
     cases hr
    cases hr
   rw[if_neg hk]at hr;obtain⟨x,hx,row,e1,e2,e3⟩:=Ji h3 r' g' p cq hr;exact⟨x,List.mem_cons_of_mem _ hx,row,e1,e2,e3⟩
  cases h2
theorem EV {N:NF}:∀{L:d6}{σ':aj},mi σ N L=some σ'→∀x∈L,∃row,rowAt σ x.1.1 x.1.2 []=some row
 | [],_,_,x,hx=>by simp at hx
 | y::L,σ',h,x,hx=>by
  simp only[mi]at h;obtain⟨gf,h1,h2⟩:=cw h;split at h2
  ·rename_i hb;obtain⟨kZ,h0,h2⟩:=cw h2;obtain⟨s,h3,rfl⟩:=cJ h2;have hb:=Nat.eq_of_beq_eq_true hb;rcases List.mem_cons.1 hx with rfl|hx
   ·refine⟨kZ,?_⟩;unfold rowAt;rw[h1];simp[hb,h0]
   exact EV h3 x hx
  cases h2
theorem bp.EW (h:bp rd φ O w0 σ w) {L:d6}(hd:l7 L=true) (hr:mi σ (iy L) L=some σ'):bp rd (kM φ L) O w0 σ' w:=
 h.PJ (zs hd) fun r' g' p cq fo=>by
  obtain⟨x,hx,row,e1,e2,e3⟩:=Ji hr r' g' p cq fo;refine⟨x.1.1,x.1.2,row,e2,?_,e3⟩;rw[RR hd hx,e1]
def gO (φ:b9) (σ:aj):Nat→Prop:=fun b=>∃r g p row pl q,rowAt σ r g p=some row∧φ r g p=some pl∧pl.ad=some (b,q)
theorem bp.Jk (h:bp rd φ O w0 σ w):bp rd φ (gO φ σ) w σ w:=
 ⟨h.rows,h.sep,h.eh,h.et,fun r g p row pl b q h1 h2 h3=>⟨.inl ⟨r,g,p,row,pl,q,h1,h2,h3⟩,(h.own _ _ _ _ _ _ _ h1 h2 h3).2⟩,fun _ _ _=>rfl,Nat.le_refl _,rfl,rfl,rfl⟩
def bb (P:Program) (n:Nat) (σin:aj) (args:List AV) (res:AV) (σout:aj):Prop:=
 th P n∧∀(w:World) (rd:RD) (φ:b9) (eg:Array Value),(∀r g p,φ r g p≠none→g=0)→bp rd φ (gO φ σin) w σin w→PW rd φ args eg.toList→
  Calls P n eg w fun e w'=>∃v rd' φ',e=.returned v∧Ext (gO φ σin) w rd rd'∧(∀r p pl,φ r 0 p=some pl→1000000≤r→φ' r 0 p=some pl)∧bp rd' φ' (gO φ σin) w σout w'∧aL rd' φ' res v
def oY (L:d6) (d G:Nat):NF:=fun k g=>match decide (k<1000000) with
 | true=>match Nat.beq g 0 with
  | true=>some (d+10000 * k,G)
  | false=>none
 | false=>sh L k g
def pH:aj→Nat→aj
 | [],_=>[]
 | (k,v)::l,r=>match k==r with
  | true=>pH l r
  | false=>(k,v)::pH l r
def yr (σ:aj):d6→aj
 | []=>σ
 | x::l=>yr (pH σ x.1.1) l
def uR (N:NF) (acc:aj):aj→Option aj
 | []=>some acc
 | (k,(g0,f))::l=>match N k g0 with
  | some x=>uR N (bQ acc x.1 (x.2,iD N f)) l
  | none=>none
def vC:aj→Bool
 | []=>true
 | (k,_)::l=>match l.any (fun x=>x.1==k) with
  | true=>false
  | false=>vC l
theorem tN:∀(σ:aj) (r m:Nat),bI (pH σ r) m=if m=r then none else bI σ m
 | [],r,m=>by simp[pH,bI]
 | (k,v)::l,r,m=>by
  simp only[pH];split
  ·rename_i h;have h:k=r:=by simpa using h
   subst h;rw[tN l,gx];by_cases hm:m=k
   ·simp[hm]
   have:¬k=m:=fun e=>hm e.symm
   simp[hm,this]
  rename_i h;have h:¬k=r:=by simpa using h
  rw[gx,gx,tN l];by_cases hk:k=m
  ·subst hk;simp[h]
  simp[hk]
theorem Px:∀(L:d6) {σ:aj}{r g:Nat}{p:List Nat}{row:Row},rowAt (yr σ L) r g p=some row→rowAt σ r g p=some row∧∀x∈L,x.1.1≠r
 | [],_,_,_,_,_,h=>⟨h,by simp⟩
 | y::L,σ,r,g,p,row,h=>by
  obtain⟨h1,h2⟩:=Px L (σ:=pH σ y.1.1) h;unfold rowAt at h1;rw[tN]at h1;split at h1
  ·rename_i x hx;split at hx
   ·cases hx
   rename_i bO;refine⟨?_,fun z hz=>?_⟩
   ·unfold rowAt;rw[hx];exact h1
   rcases List.mem_cons.1 hz with rfl|hz
   ·exact fun e=>bO e.symm
   exact h2 z hz
  cases h1
theorem RM:∀{σ:aj},vC σ=true→∀{k:Nat}{x:Nat × dZ},(k,x)∈σ→bI σ k=some x
 | [],_,_,_,h=>by simp at h
 | (k0,v)::l,hd,k,x,h=>by
  simp only[vC]at hd;split at hd
  ·cases hd
  rename_i hn;rw[gx];rcases List.mem_cons.1 h with e|h
  ·cases e;simp
  rw[if_neg,RM hd h];intro e;subst e;have:l.any (fun x=>x.1==k0)=true:=List.any_eq_true.2 ⟨_,h,by simp⟩;rw[this]at hn;cases hn
theorem Qu {N:NF}:∀{l:aj}{acc σ2:aj},uR N acc l=some σ2→∀{r g:Nat}{p:List Nat}{cq:Row},rowAt σ2 r g p=some cq→
  (∃k g0 f row,(k,(g0,f))∈l∧N k g0=some (r,g)∧f p=some row∧cq=lU N row)∨rowAt acc r g p=some cq
 | [],_,_,h,_,_,_,_,hr=>by cases h;exact .inr hr
 | (k,(g0,f))::l,acc,σ2,h,r,g,p,cq,hr=>by
  simp only[uR]at h;split at h
  ·rename_i x hx;rcases Qu h hr with ⟨k1,g1,f1,row,h1,h2,h3,h4⟩|h1
   ·exact .inl ⟨k1,g1,f1,row,List.mem_cons_of_mem _ h1,h2,h3,h4⟩
   rw[jy]at h1;by_cases js:r=x.1
   ·rw[if_pos js]at h1;split at h1
    ·rename_i hg;unfold iD at h1;split at h1
     ·rename_i row fo;cases h1;exact .inl ⟨k,g0,f,row,by simp,by rw[hx,js,←hg],fo,rfl⟩
     cases h1
    cases h1
   rw[if_neg js]at h1;exact .inr h1
  cases h
def rW (φ φ':b9) (L:d6) (d G:Nat):b9:=fun r g p=>match iy L r g with
 | some x=>φ' x.1 x.2 p
 | none=>match decide (g=G) with
  | true=>match decide (r=d+10000 * ((r - d)/10000)) with
   | true=>φ' ((r - d)/10000) 0 p
   | false=>φ r g p
  | false=>φ r g p
theorem bp.Se {rd':RD}{w':World}{d G:Nat}{L:d6}{σin σout σ2:aj}(h:bp rd φ O w0 σ w) (qn:∀r g p,φ r g p≠none→g<G)
  (hL:∀x∈L,1000000≤x.2.1∧x.2.2=0) (hd:l7 L=true) (cc:mi σ (iy L) L=some σin) (hk:vC σout=true)
  (hx:Ext (gO (kM φ L) σin) w rd rd') (acS:∀r p pl,kM φ L r 0 p=some pl→1000000≤r→φ' r 0 p=some pl) (k:bp rd' φ' (gO (kM φ L) σin) w σout w')
  (ho:uR (oY L d G) (yr σ L) σout=some σ2):
  bp rd' (rW φ φ' L d G) O w0 σ2 w'∧(∀r g p pl,φ r g p=some pl→rW φ φ' L d G r g p=some pl)∧tj (oY L d G) φ' (rW φ φ' L d G)∧Ext O w0 rd rd':=by
 have LI:=EV cc;have CF:∀x∈L,x.1.2<G:=fun x xK=>by
  obtain⟨row,fo⟩:=LI x xK;obtain⟨pl,hp,_⟩:=h.rows _ _ _ _ fo;exact qn _ _ [] (by rw[hp];simp)
 have fL:∀r g p pl,φ r g p=some pl→rW φ φ' L d G r g p=some pl:=by
  intro r g p pl hp;unfold rW;split
  ·rename_i x tR;have hm:=F3 tR;have:=zs hd (φ:=φ) _ _ _ _ _ tR hp;obtain⟨e1,e2⟩:=hL _ hm;simp only at e1 e2;rw[e2]at this ⊢;exact acS _ _ _ this e1
  split
  ·rename_i hg;have hg:=of_decide_eq_true hg;subst hg;exact absurd (qn _ _ _ (by rw[hp];simp)) (Nat.lt_irrefl _)
  exact hp
 have hM:tj (oY L d G) φ' (rW φ φ' L d G):=by
  intro r g x p pl tR hp;unfold oY at tR;split at tR
  ·rename_i ab;have ab:=of_decide_eq_true ab;split at tR
   ·rename_i hg;have hg:=Nat.eq_of_beq_eq_true hg;cases tR;subst hg;unfold rW;have eH:iy L (d+10000 * r) G=none:=by
     cases hl:iy L (d+10000 * r) G with
     | none=>rfl
     | some y=>exact absurd (CF _ (F3 hl)) (Nat.lt_irrefl _)
    simp only[eH];have e:(d+10000 * r - d)/10000=r:=by omega
    rw[e];simp[hp]
   cases tR
  have hm:=Cc tR;have hn:=RR hd hm;simp only at hn;unfold rW;rw[hn];exact hp
 have S5:∀b,gO (kM φ L) σin b→∃x∈L,∃p row pl q,rowAt σ x.1.1 x.1.2 p=some row∧φ x.1.1 x.1.2 p=some pl∧pl.ad=some (b,q):=by
  rintro b ⟨r,g,p,row,pl,q,h1,h2,h3⟩;obtain⟨x,xK,kZ,e1,e2,e3⟩:=Ji cc _ _ _ _ h1;refine⟨x,xK,p,kZ,pl,q,e2,?_,h3⟩;have:=RT hd xK;rw[e1]at this;simp only[kM,this]at h2;exact h2
 have ch:∀{r g p cq},rowAt σ2 r g p=some cq→(∃k0 g0 row,rowAt σout k0 g0 p=some row∧oY L d G k0 g0=some (r,g)∧cq=lU (oY L d G) row)∨(rowAt σ r g p=some cq∧∀x∈L,x.1.1≠r):=by
  intro r g p cq hr;rcases Qu ho hr with ⟨k0,g0,f,row,h1,h2,h3,h4⟩|h1
  ·refine .inl ⟨k0,g0,row,?_,h2,h4⟩;unfold rowAt;rw[RM hk h1];simp[h3]
  exact .inr (Px L h1)
 have Cv:∀{r g p row pl b q},rowAt σ r g p=some row→(∀x∈L,x.1.1≠r)→φ r g p=some pl→pl.ad=some (b,q)→¬gO (kM φ L) σin b:=by
  intro r g p row pl b q h1 h2 h3 h4 hb;obtain⟨x,xK,p',cq,cV,q',e1,e2,e3⟩:=S5 b hb;exact h2 x xK (h.sep _ _ _ _ _ _ _ _ _ _ _ _ _ e1 h1 e2 h3 e3 h4).1
 have ab:∀{r g p row pl b q},rowAt σ r g p=some row→φ r g p=some pl→pl.ad=some (b,q)→b<w.heap.size:=fun h1 h2 h3=>(h.own _ _ _ _ _ _ _ h1 h2 h3).2
 have KV:∀b,gO (kM φ L) σin b→O b∨w0.heap.size≤b:=by
  intro b hb;obtain⟨x,xK,p',cq,cV,q',e1,e2,e3⟩:=S5 b hb;exact(h.own _ _ _ _ _ _ _ e1 e2 e3).1
 refine⟨⟨?_,?_,k.eh,?_,?_,?_,Nat.le_trans h.size k.size,k.os.trans h.os,k.tape.trans h.tape,k.output.trans h.output⟩,fL,hM,hx.1,fun b o hb hO=>hx.2 b o (Nat.lt_of_lt_of_le hb h.size) fun hc=>?_⟩
 ·intro r g p cq hr;rcases ch hr with ⟨k0,g0,row,h1,h2,rfl⟩|⟨h1,h2⟩
  ·obtain⟨pl,h3,h4⟩:=k.rows _ _ _ _ h1;exact⟨pl,hM _ _ _ _ _ h2 h3,h4.map hM⟩
  obtain⟨pl,h3,h4⟩:=h.rows _ _ _ _ h1;refine⟨pl,fL _ _ _ _ h3,(h4.of_same (fun b q aK k'=>?_) fun b q aK es ck e=>by rw[k.frame b (ab h1 h3 aK) (Cv h1 h2 h3 aK)];exact e).mono hx.1 fL⟩;have:=k.frame b (ab h1 h3 aK) (Cv h1 h2 h3 aK);exact⟨World.cell?_of_block this,World.frozen?_of_block this⟩
 ·intro r g p row r' g' p' cq pl cV b q q' h1 h2 h3 h4 h5 h6;rcases ch h1 with ⟨k0,g0,kZ,a1,a2,rfl⟩|⟨a1,a2⟩<;>rcases ch h2 with ⟨k1,g1,fg,b1,b2,rfl⟩|⟨b1,b2⟩
  ·obtain⟨pa,a3,_⟩:=k.rows _ _ _ _ a1;obtain⟨pb,b3,_⟩:=k.rows _ _ _ _ b1;rw[hM _ _ _ _ _ a2 a3]at h3;rw[hM _ _ _ _ _ b2 b3]at h4;cases h3;cases h4;obtain⟨rfl,rfl⟩:=k.sep _ _ _ _ _ _ _ _ _ _ _ _ _ a1 b1 a3 b3 h5 h6;have:=Pw a1 b1;subst this;rw[a2]at b2;cases b2;exact⟨rfl,rfl⟩
  ·obtain⟨pa,a3,_⟩:=k.rows _ _ _ _ a1;rw[hM _ _ _ _ _ a2 a3]at h3;cases h3;obtain⟨pb,b3,_⟩:=h.rows _ _ _ _ b1;rw[fL _ _ _ _ b3]at h4;cases h4;rcases(k.own _ _ _ _ _ _ _ a1 a3 h5).1 with hh|hh
   ·exact absurd hh (Cv b1 b2 b3 h6)
   exact absurd (ab b1 b3 h6) (by omega)
  ·obtain⟨pb,b3,_⟩:=k.rows _ _ _ _ b1;rw[hM _ _ _ _ _ b2 b3]at h4;cases h4;obtain⟨pa,a3,_⟩:=h.rows _ _ _ _ a1;rw[fL _ _ _ _ a3]at h3;cases h3;rcases(k.own _ _ _ _ _ _ _ b1 b3 h6).1 with hh|hh
   ·exact absurd hh (Cv a1 a2 a3 h5)
   exact absurd (ab a1 a3 h5) (by omega)
  obtain⟨pa,a3,_⟩:=h.rows _ _ _ _ a1;obtain⟨pb,b3,_⟩:=h.rows _ _ _ _ b1;rw[fL _ _ _ _ a3]at h3;rw[fL _ _ _ _ b3]at h4;cases h3;cases h4;exact h.sep _ _ _ _ _ _ _ _ _ _ _ _ _ a1 b1 a3 b3 h5 h6
 ·intro r g p cq pl b q h1 h2 h3 i dD;rcases ch h1 with ⟨k0,g0,kZ,a1,a2,rfl⟩|⟨a1,a2⟩
  ·obtain⟨pa,a3,_⟩:=k.rows _ _ _ _ a1;rw[hM _ _ _ _ _ a2 a3]at h2;cases h2;obtain⟨m1,m2,m3⟩:=Rn (oY L d G) kZ;rw[m1,m2,m3]at dD;exact k.et _ _ _ _ _ _ _ a1 a3 h3 i dD
  obtain⟨pa,a3,_⟩:=h.rows _ _ _ _ a1;rw[fL _ _ _ _ a3]at h2;cases h2;rw[hx.2 b i (ab a1 a3 h3) (Cv a1 a2 a3 h3)];exact h.et _ _ _ _ _ _ _ a1 a3 h3 i dD
 ·intro r g p cq pl b q h1 h2 h3;rcases ch h1 with ⟨k0,g0,kZ,a1,a2,rfl⟩|⟨a1,a2⟩
  ·obtain⟨pa,a3,_⟩:=k.rows _ _ _ _ a1;rw[hM _ _ _ _ _ a2 a3]at h2;cases h2;obtain⟨e1,e2⟩:=k.own _ _ _ _ _ _ _ a1 a3 h3;exact⟨e1.elim (KV b) fun e=>.inr (Nat.le_trans h.size e),e2⟩
  obtain⟨pa,a3,_⟩:=h.rows _ _ _ _ a1;rw[fL _ _ _ _ a3]at h2;cases h2;obtain⟨e1,e2⟩:=h.own _ _ _ _ _ _ _ a1 a3 h3;exact⟨e1,Nat.lt_of_lt_of_le e2 k.size⟩
 ·intro b hb hO;rw[k.frame b (Nat.lt_of_lt_of_le hb h.size) fun hc=>?_]
  ·exact h.frame b hb hO
  rcases KV b hc with e|e
  ·exact hO e
  omega
 rcases KV b hc with e|e
 ·exact hO e
 omega
end
end
section
open Go Go.RowKit
set_option linter.unusedVariables false
def JO:AV→List (Nat × Nat)
 | .au r g _ _ _ _=>[(r,g)]
 | .ptr r g _ _ _ _=>[(r,g)]
 | .mr r g _=>[(r,g)]
 | _=>[]
def qN:List AV→List (Nat × Nat)
 | []=>[]
 | c::cs=>JO c++qN cs
def zA:AV→List (Nat × Nat)
 | .agg cs=>qN cs
 | v=>JO v
def Fz:List AV→List (Nat × Nat)
 | []=>[]
 | c::cs=>zA c++Fz cs
def aaM:AV→List (Nat × Nat)
 | .ba vs=>Fz vs
 | v=>zA v
def qM:List Bool→List AV→List (Nat × Nat)
 | true::ms,a::as=>zA a++qM ms as
 | false::ms,_::as=>qM ms as
 | _,_=>[]
def Gf (x:Nat × Nat):List (Nat × Nat)→List (Nat × Nat)
 | []=>[x]
 | y::l=>match Nat.beq y.1 x.1 with
  | true=>y::l
  | false=>y::Gf x l
def xI:List (Nat × Nat)→List (Nat × Nat)→List (Nat × Nat)
 | [],l=>l
 | x::xs,l=>xI xs (Gf x l)
def xc (acc:List (Nat × Nat)):List (List AV)→List (Nat × Nat)
 | []=>acc
 | e::l=>xc (xI (qN e) acc) l
def ei:List (List AV)→List (Nat × Nat)
 | []=>[]
 | [e]=>qN e
 | e::e'::l=>xc [] (e::e'::l)
def QL (row:Row):List (Nat × Nat):=match Nat.ble 1 row.fl with
 | true=>[]
 | false=>ei row.es
def Jc (σ:aj) (x:Nat × Nat):Option (List (Nat × Nat)):=(bI σ x.1).bind fun gf=>match Nat.beq gf.1 x.2 with
 | true=>(gf.2 []).map QL
 | false=>none
def OU (pn:Bool) (k:Nat) (x:Nat × Nat):Nat × Nat:=match pn,Nat.ble 1000000 x.1 with
 | true,true=>x
 | _,_=>(k,0)
def mN (pn:Bool) (σ:aj) (st:Nat):Nat→Nat→d6→List (Nat × Nat)→d6
 | 0,_,acc,_=>acc
 | _,_,acc,[]=>acc
 | n+1,k,acc,x::t=>match CP acc x.1 with
  | true=>mN pn σ st n k acc t
  | false=>match Jc σ x with
   | some l=>mN pn σ st n (k+st) (acc++[(x,OU pn k x)]) (t++l)
   | none=>mN pn σ st n k acc t
def wD:aj→d6
 | []=>[]
 | (k,_)::l=>match Nat.ble 1000000 k with
  | true=>((k,0),(k,0))::wD l
  | false=>wD l
def Bu (σ:aj):d6→List (Nat × Nat)
 | []=>[]
 | x::l=>(match Jc σ x.1 with|some l=>l|none=>[])++Bu σ l
def Bj (L:d6):Bool:=L.all fun x=>match Nat.ble 1000000 x.2.1 with
 | true=>Nat.beq x.1.1 x.2.1&&Nat.beq x.1.2 x.2.2
 | false=>true
def Cf (L:d6):Bool:=L.all fun x=>Nat.ble 1000000 x.2.1&&Nat.beq x.2.2 0
def rU (N:NF):aj→List Bool→List AV→Option (aj × List AV)
 | σ,[],[]=>some (σ,[])
 | σ,true::ms,a::as=>(rU N σ ms as).map fun y=>(y.1,mapA N a::y.2)
 | σ,false::ms,a::as=>(ic σ a).bind fun x=>(rU N x.1 ms as).map fun y=>(y.1,x.2::y.2)
 | _,_,_=>none
def aD (P:Program) (n:Nat) (σin:aj) (args:List AV) (K:AV→aj→Prop):Prop:=∃res σout,bb P n σin args res σout∧K res σout
theorem aD.intro {P:Program}{n:Nat}{σin:aj}{args:List AV}{K:AV→aj→Prop}{res:AV}{σout:aj}(h:bb P n σin args res σout) (k:K res σout):aD P n σin args K:=⟨res,σout,h,k⟩
def Q0 (s:St) (d:Option Nat) (K:St→Prop) (v:AV) (σ2:aj):Prop:=put s d v σ2 true K
def JX (s:St) (d:Option Nat) (K:St→Prop) (L:d6) (σ1:aj) (res:AV) (σout:aj):Prop:=
 vC σout=true∧cZ (uR (oY L (d.getD 0) s.G) (yr σ1 L) σout) (Q0 s d K (zD (oY L (d.getD 0) s.G) res))
def Q3 (P:Program) (s:St) (d:Option Nat) (n:Nat) (K:St→Prop) (L:d6) (x:aj × List AV) (σin:aj):Prop:=aD P n σin x.2 (JX s d K L x.1)
def Q5 (P:Program) (s:St) (d:Option Nat) (n:Nat) (K:St→Prop) (L:d6) (x:aj × List AV):Prop:=cZ (mi x.1 (iy L) L) (Q3 P s d n K L x)
def FJ (P:Program) (s:St) (d:Option Nat) (n:Nat) (K:St→Prop) (ms:List Bool) (args:List AV) (L:d6):Prop:=
 (l7 L=true∧Cf L=true)∧cZ (rU (iy L) s.σ ms args) (Q5 P s d n K L)
def IK (P:Program) (s:St) (d:Option Nat) (n:Nat) (ms:List Bool) (args:List AV) (K:St→Prop):Prop:=
 FJ P s d n K ms args (mN false s.σ 1 30 1000000 [] (qM ms args))
def L0 (f:dZ):Prop:=∀p row,f p=some row→2≤row.fl∧row.ao=false
def Ah:aj→Prop
 | []=>True
 | (_,_,f)::l=>L0 f∧Ah l
theorem ad0 {row:Row}:L0 (one row)=(2≤row.fl∧row.ao=false):=propext
 ⟨fun h=>h [] row rfl,fun h p r hr=>by
  cases p with
  | nil=>cases hr;exact h
  | cons=>cases hr⟩
theorem Tv:∀{σ:aj}{k g:Nat}{f:dZ},Ah σ→bI σ k=some (g,f)→L0 f
 | [],k,g,f,_,h=>by simp[bI]at h
 | (k',g',f')::l,k,g,f,hs,h=>by
  rw[gx]at h;split at h
  ·cases h;exact hs.1
  exact Tv hs.2 h
theorem adZ {σ:aj}{r g:Nat}{p:List Nat}{row:Row}(hs:Ah σ) (h:rowAt σ r g p=some row):2≤row.fl∧row.ao=false:=by
 unfold rowAt at h;split at h
 ·rename_i x hx;split at h
  ·exact Tv hs hx p row h
  cases h
 cases h
def BH:AV→Bool
 | .sc _|.aG|.au ..|.ptr ..|.mr ..|.dead|.ro _ []=>true
 | _=>false
def BG:List AV→Bool
 | []=>true
 | c::cs=>match BH c with
  | true=>BG cs
  | false=>false
def BJ:AV→Bool
 | .agg cs=>BG cs
 | v=>BH v
def BI:List AV→Bool
 | []=>true
 | c::cs=>match BJ c with
  | true=>BI cs
  | false=>false
def zq:AV→Bool
 | .ba vs=>BI vs
 | v=>BJ v
def zr:List (List Nat × Row)→Bool
 | []=>true
 | x::l=>match Nat.ble 2 x.2.fl with
  | true=>zr l
  | false=>false
def R0 (s:St) (d:Option Nat) (K:St→Prop) (res:AV) (rf:List (List Nat × Row)):Prop:=
 (zq res=true∧zr rf=true)∧put s d (nm (d.getD 0) s.G res) (np s.σ (d.getD 0) s.G rf) true K
def Cd (P:Program) (s:St) (d:Option Nat) (n:Nat) (K:St→Prop) (x:aj × List AV):Prop:=aq P n x.2 (R0 s d K)
def ED (P:Program) (s:St) (d:Option Nat) (n:Nat) (args:List AV) (K:St→Prop):Prop:=cZ (oP s.σ args) (Cd P s d n K)
def Q1 (s:St) (d:Option Nat) (K:St→Prop) (L:d6) (res:AV) (σout:aj):Prop:=(zq res=true∧Ah σout)∧JX s d K L s.σ res σout
def Q2 (P:Program) (s:St) (d:Option Nat) (n:Nat) (K:St→Prop) (L:d6) (x:aj × List AV) (σin:aj):Prop:=mi s.σ (iy L) L=some σin∧aD P n σin x.2 (Q1 s d K L)
def Q4 (P:Program) (s:St) (d:Option Nat) (n:Nat) (K:St→Prop) (L:d6) (x:aj × List AV):Prop:=cZ (mi x.1 (iy L) L) (Q2 P s d n K L x)
def FI (P:Program) (s:St) (d:Option Nat) (n:Nat) (K:St→Prop) (ms:List Bool) (args:List AV) (L:d6):Prop:=
 (l7 L=true∧Cf L=true)∧cZ (rU (iy L) s.σ ms args) (Q4 P s d n K L)
def IJ (P:Program) (s:St) (d:Option Nat) (n:Nat) (ms:List Bool) (args:List AV) (K:St→Prop):Prop:=
 FI P s d n K ms args (mN false s.σ 1 30 1000000 [] (qM ms args))
section
variable {P:Program}{rd:RD}{φ φ':b9}{O:Nat→Prop}{w0 w:World}{σ σ':aj}{N:NF}{s:St}{a:Act}
theorem Fg (hN:tj N φ φ'):∀{ms:List Bool}{cs aO:List AV}{vs:List Value}{rd:RD}{σ σ':aj},bp rd φ O w0 σ w→PW rd φ cs vs→rU N σ ms cs=some (σ',aO)→
  rJ rd φ O w0 w σ' fun rd'=>PW rd' φ' aO vs
 | [],[],aO,vs,rd,σ,σ',h,hp,hf=>by
  cases hf;have:vs=[]:=List.eq_nil_of_length_eq_zero hp.1.symm
  subst this;exact⟨rd,.refl,h,PW.nil⟩
 | true::ms,c::cs,aO,vs,rd,σ,σ',h,hp,hf=>by
  obtain⟨v,us,rfl,hr,hp⟩:=hp.kI;simp only[rU]at hf;obtain⟨⟨σ1,uo⟩,h1,hf⟩:=cJ hf;cases hf;obtain⟨d9,x1,k1,v1⟩:=Fg hN h hp h1;exact⟨d9,x1,k1,PW.cons (B3 hN (hr.mono x1.1 (fun _ _ _ _ h=>h))) v1⟩
 | false::ms,c::cs,aO,vs,rd,σ,σ',h,hp,hf=>by
  obtain⟨v,us,rfl,hr,hp⟩:=hp.kI;simp only[rU]at hf;obtain⟨⟨σ1,c1⟩,h1,hf⟩:=cw hf;obtain⟨⟨σ2,uo⟩,h2,hf⟩:=cJ hf;cases hf;obtain⟨d9,x1,k1,v1⟩:=C1 h hr h1;obtain⟨dO,x2,k2,v2⟩:=Fg hN k1 (hp.mono x1.1 (fun _ _ _ _ h=>h)) h2;exact⟨dO,x1.trans x2,k2,PW.cons ((v1 φ').mono x2.1 (fun _ _ _ _ h=>h)) v2⟩
 | [],_::_,_,_,_,_,_,_,_,hf=>by cases hf
 | true::_,[],_,_,_,_,_,_,_,hf=>by cases hf
 | false::_,[],_,_,_,_,_,_,_,hf=>by cases hf
theorem Rel.P7 (h:Rel rd φ O w0 s a w) {dst:Option Nat}{v:AV}{σ:aj}{b:Bool}{K:St→Prop}(hk:E.put s dst v σ b K) {rd':RD}(hx:∀b o v,rd b o=some v→rd' b o=some v) {φ':b9}{w':World}{cv:Value}(hh:bp rd' φ' O w0 σ w')
  (hv:aL rd' φ' v cv) (h4:∀r g p pl,φ r g p=some pl→φ' r g p=some pl) (hg:∀r g p,φ' r g p≠none→g<s9 b s.G):
  ∃s',K s'∧Rel rd' φ' O w0 s' (a.put dst cv) w':=by
 unfold E.put at hk;cases dst with
 | none=>exact⟨_,hk,hh,fun t v hl=>(h.tm t v hl).mono hx h4,h.size,h.defers,hg⟩
 | some d=>
  simp only at hk;split at hk
  ·rename_i hd;have hd:d<s.n:=Nat.le_of_ble_eq_true hd;refine⟨_,hk,hh,fun t u hl=>?_,by simp[Act.put,h.size],h.defers,hg⟩;rw[GV _ _ _ _ (by rw[h.size];exact hd)];simp only[gx]at hl;by_cases ht:d=t
   ·rw[if_pos ht]at hl;rw[if_pos ht.symm];cases hl;exact hv
   rw[if_neg ht]at hl;rw[if_neg (fun e=>ht e.symm)];exact(h.tm t u hl).mono hx h4
  exact hk.elim
theorem Qm {L:d6}{d G:Nat}(qn:∀r g p,φ r g p≠none→g<G) (LI:∀x∈L,∃row,rowAt σ x.1.1 x.1.2 []=some row) (h:bp rd φ O w0 σ w):∀r g p,rW φ φ' L d G r g p≠none→g<G+1:=by
 intro r g p hp;unfold rW at hp;split at hp
 ·rename_i x hx;obtain⟨row,fo⟩:=LI _ (F3 hx);obtain⟨pl,h1,_⟩:=h.rows _ _ _ _ fo;have:=qn _ _ [] (show φ r g []≠none by rw[h1];simp);omega
 split at hp
 ·rename_i hg;have hg:=of_decide_eq_true hg;omega
 have:=qn _ _ _ hp;omega
theorem XH {la:kD}(gW:mT O w0 la rd φ) {d:Option Nat}{n:Nat}{ms:List Bool}{args:List AV}{K:St→Prop}(h:Rel rd φ O w0 s a w) {eg:Array Value}(eY:PW rd φ args eg.toList) (hv:IK P s d n ms args K):
  th P n∧Calls P n eg w fun e w'=>∃v s',e=.returned v∧K s'∧ik la O w0 s' (a.put d v) w':=by
 unfold IK FJ at hv;generalize mN false s.σ 1 30 1000000 [] (qM ms args)=L at hv;obtain⟨⟨hd,cc⟩,hv⟩:=hv;obtain⟨⟨σ1,qF⟩,hp,hv⟩:=f7 hv;obtain⟨σin,hr,hv⟩:=f7 hv;obtain⟨res,σout,⟨nU,hc⟩,hk,hv⟩:=hv;obtain⟨σ2,ho,hv⟩:=f7 hv;refine⟨nU,?_⟩;have hL:∀x∈L,1000000≤x.2.1∧x.2.2=0:=fun x hx=>by
  have:=List.all_eq_true.1 cc x hx;simp only[Bool.and_eq_true]at this;exact⟨Nat.le_of_ble_eq_true this.1,Nat.eq_of_beq_eq_true this.2⟩
 obtain⟨d9,x1,h1,p1⟩:=Fg (φ':=kM φ L) (zs hd) h.heap eY hp;have h2:=(h1.EW hd hr).Jk;refine(hc w d9 (kM φ L) eg (fun r g p bO=>?_) h2 p1).mono ?_
 ·unfold kM at bO;split at bO
  ·rename_i x hx;exact(hL _ (Cc hx)).2
  exact absurd rfl bO
 rintro e w' ⟨v,rd',φ',rfl,x2,hm,h3,xR⟩;obtain⟨j1,j2,j3,j4⟩:=h1.Se (d:=d.getD 0) (G:=s.G) h.gen hL hd hr hk x2 hm h3 ho;obtain⟨s',hs,eR⟩:=h.P7 hv (fun b o v e=>x2.1 _ _ _ (x1.1 _ _ _ e)) j1 (J5 j3 xR) j2 (fun r g p hp=>by
  have:=Qm h.gen (EV hr) h1 r g p hp
  simpa[s9]using this)
 exact⟨v,s',rfl,hs,rd',_,gW.step (x1.trans j4) j2,eR⟩
theorem aL.Fw {rd rd':RD}{c:AV}{v:Value}(h:aL rd φ c v) (hp:BH c=true):aL rd' φ c v:=by
 cases h with
 | dead v=>exact .dead v
 | sc v h=>exact .sc v h
 | aG=>exact .aG
 | au r g p sz off len pl A hφ hA hl=>exact .au r g p sz off len pl A hφ hA hl
 | ptr r g p sz i o pl b q hφ aK=>exact .ptr r g p sz i o pl b q hφ aK
 | mr r g p pl b hφ aK=>exact .mr r g p pl b hφ aK
 | ir sz A cap=>exact .ir sz A cap
 | ro sz es b q cap f hc hs hr hv=>
  cases es with
  | nil=>exact .ir sz _ _
  | cons=>cases hp
 | rp=>cases hp
 | agg=>cases hp
 | ba=>cases hp
 | it=>cases hp
theorem Qf:∀{cs:List AV},BG cs=true→∀c∈cs,BH c=true
 | [],_,c,hc=>by simp at hc
 | x::cs,h,c,hc=>by
  simp only[BG]at h;split at h
  ·rename_i hx;rcases List.mem_cons.1 hc with rfl|hc
   ·exact hx
   exact Qf h c hc
  cases h
theorem aL.QF {rd rd':RD}{c:AV}{v:Value}(h:aL rd φ c v) (hp:BJ c=true):aL rd' φ c v:=by
 cases c with
 | agg cs=>
  obtain⟨arr,rfl,hq⟩:=PW.mq h;refine PW.agg ⟨hq.1,fun j c hc=>?_⟩;obtain⟨u,hu,hr⟩:=hq.2 j c hc;exact⟨u,hu,hr.Fw (Qf hp c (dh hc))⟩
 | _=>exact h.Fw hp
theorem Qg:∀{cs:List AV},BI cs=true→∀c∈cs,BJ c=true
 | [],_,c,hc=>by simp at hc
 | x::cs,h,c,hc=>by
  simp only[BI]at h;split at h
  ·rename_i hx;rcases List.mem_cons.1 hc with rfl|hc
   ·exact hx
   exact Qg h c hc
  cases h
theorem aL.QE {rd rd':RD}{c:AV}{v:Value}(h:aL rd φ c v) (hp:zq c=true):aL rd' φ c v:=by
 cases c with
 | ba cs=>
  obtain⟨arr,rfl,hq⟩:=PW.tE h;refine PW.ba ⟨hq.1,fun j c hc=>?_⟩;obtain⟨u,hu,hr⟩:=hq.2 j c hc;exact⟨u,hu,hr.QF (Qg hp c (dh hc))⟩
 | _=>exact h.QF hp
theorem Jz:∀{l:List (List Nat × Row)},zr l=true→∀x∈l,2≤x.2.fl
 | [],_,c,hc=>by simp at hc
 | x::cs,h,c,hc=>by
  simp only[zr]at h;split at h
  ·rename_i hx;rcases List.mem_cons.1 hc with rfl|hc
   ·exact Nat.le_of_ble_eq_true hx
   exact Jz h c hc
  cases h
theorem YZ {rf:List (List Nat × Row)}{r g:Nat}{p:List Nat}{row:Row}(h:rowAt (kK rf) r g p=some row):∃q,(q,row)∈rf:=by
 cases rf with
 | nil=>simp[kK,rowAt,bI]at h
 | cons x l=>
  simp only[kK,rowAt,gx,bI]at h;split at h
  ·rename_i y hy;split at hy
   ·cases hy;split at h
    ·exact Km h
    cases h
   cases hy
  cases h
theorem OH {la:kD}(gW:mT O w0 la rd φ) {d:Option Nat}{n:Nat}{args:List AV}{K:St→Prop}(h:Rel rd φ O w0 s a w) {eg:Array Value}(eY:PW rd φ args eg.toList) (hv:ED P s d n args K):
  th P n∧Calls P n eg w fun e w'=>∃v s',e=.returned v∧K s'∧ik la O w0 s' (a.put d v) w':=by
 unfold ED at hv;obtain⟨⟨σ1,qF⟩,hl,hv⟩:=f7 hv;obtain⟨res,rf,⟨nU,hc⟩,⟨g9,Sz⟩,hk⟩:=hv;refine⟨nU,?_⟩;obtain⟨d9,x1,h1,l1⟩:=G4 h.heap eY hl;have dJ:∀p,φ (d.getD 0) s.G p=none:=fun p=>by
  cases hp:φ (d.getD 0) s.G p with
  | none=>rfl
  | some x=>exact absurd (h.gen _ s.G p (by rw[hp];simp)) (Nat.lt_irrefl _)
 refine(hc w d9 eg h1.eh (l1 _)).mono ?_;rintro e w' ⟨v,rd',ψ,rfl,x2,h2,h4⟩
 let dO:RD:=fun b o=>if b<w.heap.size then rd b o else rd' b o
 have ab:∀b o v,rd b o=some v→b<w.heap.size:=fun b o v e=>sZ (k:=o) (by rw[h.heap.eh _ _ _ e];rfl)
 have x3:Ext (fun _=>False) w rd dO:=⟨fun b o v e=>by simp only[dO];rw[if_pos (ab _ _ _ e)];exact e,fun b o hb _=>by simp only[dO];rw[if_pos hb]⟩;have gb:∀{r g p row pl b q},rowAt (kK rf) r g p=some row→jQ ψ r g p=some pl→pl.ad=some (b,q)→¬b<w.heap.size:=fun e1 e2 e3 hb=>by
  have:=(h2.own _ _ _ _ _ _ _ e1 e2 e3).1;rcases this with hh|hh
  ·exact hh
  omega
 have k2:bp dO (jQ ψ) (fun _=>False) w (kK rf) w':=by
  refine⟨?_,h2.sep,?_,?_,h2.own,h2.frame,h2.size,h2.os,h2.tape,h2.output⟩
  ·intro r g p row hr;obtain⟨pl,hp,aF⟩:=h2.rows _ _ _ _ hr;obtain⟨q0,hq0⟩:=YZ hr;have fA:=Jz Sz _ hq0;refine⟨pl,hp,aF.wide,aF.len,aF.kind,aF.nil,aF.room,fun b q aK i j c aU=>?_,fun ha=>⟨(aF.ic ha).1,fun b q aK k hk=>?_⟩,aF.mp⟩
   ·obtain⟨u,hu,eR⟩:=aF.cells b q aK i j c aU;refine⟨u,hu,eR.Fw ?_⟩;cases he:row.es[i]? with
    | none=>rw[he]at aU;cases aU
    | some e'=>
     rw[he]at aU;have:=(aF.kind e' (dh he)).2 fA c (dh aU);cases c<;>first|rfl|cases this
   simp only[dO];rw[if_neg (gb hr hp aK)];exact(aF.ic ha).2 b q aK k hk
  ·intro b o v e;simp only[dO]at e;split at e
   ·rename_i hb;rw[World.cell?_of_block (h2.frame b hb (fun h=>h))];exact h.heap.eh _ _ _ e
   exact h2.eh _ _ _ e
  intro r g p row pl b q e1 e2 e3 k dD;simp only[dO];rw[if_neg (gb e1 e2 e3)];exact h2.et _ _ _ _ _ _ _ e1 e2 e3 k dD
 obtain⟨j1,j2⟩:=h.heap.join dJ x3 k2 (fun p row hp=>by
  obtain⟨q,hq⟩:=Km hp;have:=Jz Sz _ hq;simp only at this;omega)
 have hr:=QN (φ:=φ) (d:=d.getD 0) (G:=s.G) (h4.QE (rd':=dO) g9);have x4:Ext O w0 rd dO:=⟨x3.1,fun b k hb hO=>x3.2 b k (Nat.lt_of_lt_of_le hb h.heap.size) (fun h=>h)⟩;obtain⟨s',hs,eR⟩:=h.put hk x3.1 j1 hr j2 (fun r g p hp=>(rV r g p hp).imp id fun h=>⟨rfl,h⟩);exact⟨v,s',rfl,hs,dO,_,gW.step x4 j2,eR⟩
theorem XI {la:kD}(gW:mT O w0 la rd φ) {d:Option Nat}{n:Nat}{ms:List Bool}{args:List AV}{K:St→Prop}(h:Rel rd φ O w0 s a w) {eg:Array Value}(eY:PW rd φ args eg.toList) (hv:IJ P s d n ms args K):
  th P n∧Calls P n eg w fun e w'=>∃v s',e=.returned v∧K s'∧ik la O w0 s' (a.put d v) w':=by
 unfold IJ FI at hv;generalize mN false s.σ 1 30 1000000 [] (qM ms args)=L at hv;obtain⟨⟨hd,cc⟩,hv⟩:=hv;obtain⟨⟨σ1,qF⟩,hp,hv⟩:=f7 hv;obtain⟨σin,hr,zU,res,σout,⟨nU,hc⟩,⟨g9,fA⟩,hk,hv⟩:=f7 hv;obtain⟨σ2,ho,hv⟩:=f7 hv;refine⟨nU,?_⟩;have hL:∀x∈L,1000000≤x.2.1∧x.2.2=0:=fun x hx=>by
  have:=List.all_eq_true.1 cc x hx;simp only[Bool.and_eq_true]at this;exact⟨Nat.le_of_ble_eq_true this.1,Nat.eq_of_beq_eq_true this.2⟩
 obtain⟨d9,x1,h1,p1⟩:=Fg (φ':=kM φ L) (zs hd) h.heap eY hp;have h2:=(h1.EW hd hr).Jk;refine(hc w d9 (kM φ L) eg (fun r g p bO=>?_) h2 p1).mono ?_
 ·unfold kM at bO;split at bO
  ·rename_i x hx;exact(hL _ (Cc hx)).2
  exact absurd rfl bO
 rintro e w' ⟨v,rd',φ',rfl,x2,hm,h3,xR⟩
 let dO:RD:=fun b o=>if b<w.heap.size then rd b o else rd' b o
 have ab:∀b o v,rd b o=some v→b<w.heap.size:=fun b o v e=>sZ (k:=o) (by rw[h.heap.eh _ _ _ e];rfl)
 have su:∀b o v,dO b o=some v→rd' b o=some v:=fun b o v e=>by
  simp only[dO]at e;split at e
  ·exact x2.1 _ _ _ (x1.1 _ _ _ e)
  exact e
 have x3:Ext (gO (kM φ L) σin) w rd dO:=⟨fun b o v e=>by simp only[dO];rw[if_pos (ab _ _ _ e)];exact e,fun b o hb _=>by simp only[dO];rw[if_pos hb]⟩;have k2:bp dO φ' (gO (kM φ L) σin) w σout w':=by
  refine⟨?_,h3.sep,fun b o v e=>h3.eh _ _ _ (su _ _ _ e),?_,h3.own,h3.frame,h3.size,h3.os,h3.tape,h3.output⟩
  ·intro r g p row fo;obtain⟨pl,mE,aF⟩:=h3.rows _ _ _ _ fo;obtain⟨jF,nV⟩:=adZ fA fo;refine⟨pl,mE,aF.wide,aF.len,aF.kind,aF.nil,aF.room,fun b q aK i j c aU=>?_,fun ha=>(by rw[nV]at ha;cases ha),aF.mp⟩;obtain⟨u,hu,eR⟩:=aF.cells b q aK i j c aU;refine⟨u,hu,eR.Fw ?_⟩;cases he:row.es[i]? with
   | none=>rw[he]at aU;cases aU
   | some e'=>
    rw[he]at aU;have:=(aF.kind e' (dh he)).2 jF c (dh aU);cases c<;>first|rfl|cases this
  intro r g p row pl b q e1 e2 e3 k dD;have h0:=h3.et _ _ _ _ _ _ _ e1 e2 e3 k dD;cases hh:dO b k with
  | none=>rfl
  | some u=>rw[su _ _ _ hh]at h0;cases h0
 obtain⟨j1,j2,j3,j4⟩:=h.heap.Se (d:=d.getD 0) (G:=s.G) h.gen hL hd zU hk x3 hm k2 ho;obtain⟨s',hs,eR⟩:=h.P7 hv x3.1 j1 (J5 j3 (xR.QE (rd':=dO) g9)) j2 (fun r g p hp=>by
  have:=Qm h.gen (EV zU) h.heap r g p hp
  simpa[s9]using this)
 exact⟨v,s',rfl,hs,dO,_,gW.step j4 j2,eR⟩
end
end
section
open Go Go.RowKit
set_option linter.unusedVariables false
def sN (f:dZ) (p:List Nat):dZ:=fun q=>if q=p then none else f q
def Am (σ:aj) (r:Nat) (p:List Nat):aj:=match p with
 | []=>pH σ r
 | p=>match bI σ r with
  | some (g,f)=>bQ σ r (g,sN f p)
  | none=>σ
def Nw (σ:aj) (sz:Nat):AV→Option (List (List AV) × Nat × aj)
 | .aG=>some ([],2,σ)
 | .au r g p s off len=>(rowAt σ r g p).bind fun row=>match Nat.beq s sz,Nat.beq row.sz sz,row.ao with
  | true,true,false=>kQ (off+len) row.es.length (some (sub off len row.es,row.fl,Am σ r p))
  | _,_,_=>none
 | _=>none
def NH (d G TJ eby:Nat) (fV:List (List AV)) (fl:Nat) (σ:aj) (news:List (List AV)) (fn:Nat):Option (AV × aj):=
 nJ ((fV++news).length≤maxLen∧(fV++news).length * eby≤140737488355328)
  (some (.au d G [] TJ 0 (fV++news).length,bQ σ d (G,one ⟨TJ,fV++news,min fl fn,false⟩)))
def AO (P:Program) (d G:Nat) (σ:aj) (t tx:Nat) (b x:AV):Option (AV × aj):=
 (ti P t).bind fun i=>(ti P i.el).bind fun e=>e.zero.bind fun z=>match i.k,Nat.beq z.length e.sz,Nat.ble 1 e.sz with
  | .slice,true,true=>(wE P σ tx e.sz x).bind fun s=>(Nw σ e.sz b).bind fun o=>NH d G e.sz e.bytes o.1 o.2.1 o.2.2 s.1 s.2
  | _,_,_=>none
def AL (P:Program) (σ:aj) (t tx:Nat) (a x:AV):Option (AV × aj):=
 (ti P t).bind fun i=>(ti P i.el).bind fun e=>match i.k,Nat.ble 1 e.sz,tk P tx with
  | .slice,true,some .slice=>(wE P σ tx e.sz x).bind fun s=>match a with
   | .au r g p sz off len=>(bI σ r).bind fun gf=>match Nat.beq gf.1 g with
    | true=>(gf.2 p).bind fun row=>match Nat.beq sz e.sz,Nat.beq row.sz e.sz,row.ao with
     | true,true,false=>kQ (off+len) row.es.length (some (.sc (.int .i64 (min s.1.length len:Nat)),
       bQ σ r (g,dB gf.2 p ⟨row.sz,row.es.take off++(s.1.take len++(row.es.drop off).drop (min s.1.length len)),min row.fl s.2,false⟩)))
     | _,_,_=>none
    | false=>none
   | _=>none
  | _,_,_=>none
def zg (P:Program) (d G:Nat) (σ:aj) (t:Nat) (x:AV):Option (AV × aj):=
 (ti P t).bind fun i=>match tk P t,tk P i.el,x with
  | some .slice,some (.int .u8),.sc (.string s)=>some (.au d G [] 1 0 s.data.toList.length,bQ σ d (G,one ⟨1,s.data.toList.map cW,2,false⟩))
  | _,_,_=>none
def yK (P:Program) (d G:Nat) (σ:aj) (t len:Nat) (parts:List (Nat × AV)):Option (AV × aj):=
 (D5 P t len parts).bind fun x=>some (.au d G [] x.1 0 len,bQ σ d (G,one ⟨x.1,x.2,dx x.2,false⟩))
section
variable {P:Program}{rd:RD}{φ:b9}{O:Nat→Prop}{w0 w:World}{σ:aj}{d G:Nat}
theorem bp.less (h:bp rd φ O w0 σ w) {σ':aj}(hs:∀r g p row,rowAt σ' r g p=some row→rowAt σ r g p=some row):bp rd φ O w0 σ' w:=
 ⟨fun r g p row hr=>h.rows r g p row (hs _ _ _ _ hr),fun r g p row r' g' p' cq pl cV b q q' h1 h2=>h.sep _ _ _ _ _ _ _ _ _ _ _ _ _ (hs _ _ _ _ h1) (hs _ _ _ _ h2),h.eh,
  fun r g p row pl b q h1=>h.et _ _ _ _ _ _ _ (hs _ _ _ _ h1),fun r g p row pl b q h1=>h.own _ _ _ _ _ _ _ (hs _ _ _ _ h1),h.frame,h.size,h.os,h.tape,h.output⟩
theorem Py {r:Nat}{p:List Nat}{r2 g2:Nat}{p2:List Nat}{row:Row}(h:rowAt (Am σ r p) r2 g2 p2=some row):rowAt σ r2 g2 p2=some row∧¬(r2=r∧p2=p):=by
 unfold Am at h;split at h
 ·unfold rowAt at h;rw[tN]at h;by_cases hr:r2=r
  ·rw[if_pos hr]at h;cases h
  rw[if_neg hr]at h;exact⟨h,fun hh=>hr hh.1⟩
 rename_i hp;split at h
 ·rename_i g f hl;rw[jy]at h;by_cases hr:r2=r
  ·rw[if_pos hr]at h;split at h
   ·rename_i hg;unfold sN at h;split at h
    ·cases h
    rename_i bO;refine⟨?_,fun hh=>bO hh.2⟩;unfold rowAt;rw[hr,hl];simp[hg,h]
   cases h
  rw[if_neg hr]at h;exact⟨h,fun hh=>hr hh.1⟩
 rename_i hl;refine⟨h,fun hh=>?_⟩;unfold rowAt at h;rw[hh.1,hl]at h;cases h
theorem bp.aa3 (h:bp rd φ O w0 σ w) (dJ:∀p,φ d G p=none) {r g:Nat}{p:List Nat}{row:Row}(hr:rowAt σ r g p=some row) (j6:row.ao=false) {pl:Pl}(hp:φ r g p=some pl) {off n:Nat}(hn:off+n≤row.es.length) (T:aj) (hT:∀{r2 g2 p2 bD},rowAt T r2 g2 p2=some bD→rowAt σ r2 g2 p2=some bD∧¬(r2=r∧p2=p)):
  bp rd (dz φ d G fun q=>match q with|[]=>some ⟨pl.ad.map fun x=>(x.1,x.2+off * row.sz),pl.cap - off⟩|_=>none) O w0 (bQ T d (G,one ⟨row.sz,sub off n row.es,row.fl,false⟩)) w∧
  (∀r g p cV,φ r g p=some cV→dz φ d G (fun q=>match q with|[]=>some ⟨pl.ad.map fun x=>(x.1,x.2+off * row.sz),pl.cap - off⟩|_=>none) r g p=some cV):=by
 have fL:∀r g p cV,φ r g p=some cV→dz φ d G (fun q=>match q with|[]=>some (⟨pl.ad.map fun x=>(x.1,x.2+off * row.sz),pl.cap - off⟩:Pl)|_=>none) r g p=some cV:=by
  intro r g p cV hp;unfold dz;rw[if_neg (by rintro⟨rfl,rfl⟩;rw[dJ]at hp;cases hp)];exact hp
 generalize fj:(dz φ d G fun q=>match q with|[]=>some (⟨pl.ad.map fun x=>(x.1,x.2+off * row.sz),pl.cap - off⟩:Pl)|_=>none)=φ' at fL ⊢;have gb:φ' d G []=some ⟨pl.ad.map fun x=>(x.1,x.2+off * row.sz),pl.cap - off⟩:=by rw[←fj];simp[dz]
 obtain⟨uO,sy,aF⟩:=h.rows _ _ _ _ hr;rw[hp]at sy;cases sy;have ch:∀{r2 g2 p2 bD},rowAt (bQ T d (G,one ⟨row.sz,sub off n row.es,row.fl,false⟩)) r2 g2 p2=some bD→(d=r2∧G=g2∧[]=p2∧⟨row.sz,sub off n row.es,row.fl,false⟩=bD)∨(rowAt σ r2 g2 p2=some bD∧¬(r2=r∧p2=p)∧φ' r2 g2 p2=φ r2 g2 p2):=by
  intro r2 g2 p2 bD h2;rw[jy]at h2;by_cases hd:r2=d
  ·rw[if_pos hd]at h2;by_cases hg:G=g2
   ·rw[if_pos hg]at h2;obtain⟨e1,e2⟩:=pY h2;exact .inl ⟨hd.symm,hg,e1.symm,e2.symm⟩
   rw[if_neg hg]at h2;cases h2
  rw[if_neg hd]at h2;obtain⟨e1,e2⟩:=hT h2;refine .inr ⟨e1,e2,?_⟩;obtain⟨cX,e3,_⟩:=h.rows _ _ _ _ e1;rw[fL _ _ _ _ e3,e3]
 refine⟨⟨?_,?_,h.eh,?_,?_,h.frame,h.size,h.os,h.tape,h.output⟩,fL⟩
 ·intro r2 g2 p2 bD h2;rcases ch h2 with ⟨rfl,rfl,rfl,rfl⟩|⟨e1,e2,e3⟩
  ·refine⟨_,gb,fun e he=>aF.wide e (List.mem_of_mem_drop (List.mem_of_mem_take he)),by simp[sub];have:=aF.len;omega,fun e he=>aF.kind e (List.mem_of_mem_drop (List.mem_of_mem_take he)),fun ha=>?_,?_,?_,fun ha=>(by cases ha),fun C e=>?_⟩
   ·cases hq:pl.ad with
    | none=>have:=aF.nil hq;simp;omega
    | some x=>rw[hq]at ha;cases ha
   ·intro b q hb k hk;cases hq:pl.ad with
    | none=>rw[hq]at hb;cases hb
    | some x=>
     rw[hq]at hb;simp only[Option.map_some,Option.some.injEq,Prod.mk.injEq]at hb;obtain⟨rfl,rfl⟩:=hb;have:=aF.room x.1 x.2 hq (off * row.sz+k) (by
      have bW:k<(pl.cap - off) * row.sz:=hk;rw[Nat.sub_mul]at bW;omega)
     rwa[Nat.add_assoc]
   ·intro b q hb i j c hc;cases hq:pl.ad with
    | none=>rw[hq]at hb;cases hb
    | some x=>
     rw[hq]at hb;simp only[Option.map_some,Option.some.injEq,Prod.mk.injEq]at hb;obtain⟨rfl,rfl⟩:=hb;have sF:(row.es[off+i]?).bind (·[j]?)=some c:=by
      simp only[sub,List.getElem?_take]at hc;split at hc
      ·rwa[List.getElem?_drop]at hc
      cases hc
     obtain⟨v,hv,eR⟩:=aF.cells x.1 x.2 hq _ _ _ sF;refine⟨v,?_,eR.mono (fun _ _ _ h=>h) fL⟩;rw[←hv];congr 2;show x.2+off * row.sz+i * row.sz+j=x.2+(off+i) * row.sz+j
     rw[Nat.add_mul];omega
   obtain⟨hz,b,aK,hm⟩:=aF.mp C e;have hz:row.sz=0:=hz;exact⟨hz,b,by rw[aK];simp[hz],hm⟩
  obtain⟨cX,e4,e5⟩:=h.rows _ _ _ _ e1;exact⟨cX,fL _ _ _ _ e4,e5.mono (fun _ _ _ h=>h) fL⟩
 ·intro r1 g1 p1 fg r2 g2 p2 bD iZ cX b q1 q2 h1 h2 h3 h4 h5 h6;have aux:∀{cX q q2},(pl.ad.map fun x=>(x.1,x.2+off * row.sz))=some (b,q)→rowAt σ r2 g2 p2=some bD→φ r2 g2 p2=some cX→cX.ad=some (b,q2)→r2=r∧p2=p:=by
   intro cX q q2 e1 e2 e3 e4;cases hq:pl.ad with
   | none=>rw[hq]at e1;cases e1
   | some x=>
    rw[hq]at e1;simp only[Option.map_some,Option.some.injEq,Prod.mk.injEq]at e1;exact h.sep _ _ _ _ _ _ _ _ _ _ b q2 x.2 e2 hr e3 hp e4 (by rw[hq,←e1.1])
  have aux1:∀{cX q q2},(pl.ad.map fun x=>(x.1,x.2+off * row.sz))=some (b,q)→rowAt σ r1 g1 p1=some fg→φ r1 g1 p1=some cX→cX.ad=some (b,q2)→r1=r∧p1=p:=by
   intro cX q q2 e1 e2 e3 e4;cases hq:pl.ad with
   | none=>rw[hq]at e1;cases e1
   | some x=>
    rw[hq]at e1;simp only[Option.map_some,Option.some.injEq,Prod.mk.injEq]at e1;exact h.sep _ _ _ _ _ _ _ _ _ _ b q2 x.2 e2 hr e3 hp e4 (by rw[hq,←e1.1])
  rcases ch h1 with ⟨a1,a2,a3,a4⟩|⟨a1,a2,a3⟩<;>rcases ch h2 with ⟨b1,b2,b3,b4⟩|⟨b1,b2,b3⟩
  ·exact⟨a1.symm.trans b1,a3.symm.trans b3⟩
  ·subst a1;subst a2;subst a3;rw[gb]at h3;cases h3;rw[b3]at h4;exact absurd (aux h5 b1 h4 h6) b2
  ·subst b1;subst b2;subst b3;rw[gb]at h4;cases h4;rw[a3]at h3;exact absurd (aux1 h6 a1 h3 h5) a2
  rw[a3]at h3;rw[b3]at h4;exact h.sep _ _ _ _ _ _ _ _ _ _ _ _ _ a1 b1 h3 h4 h5 h6
 ·intro r2 g2 p2 bD cX b q h1 h2 h3 k dD;rcases ch h1 with ⟨rfl,rfl,rfl,rfl⟩|⟨e1,e2,e3⟩
  ·rw[gb]at h2;cases h2;cases hq:pl.ad with
   | none=>rw[hq]at h3;cases h3
   | some x=>
    rw[hq]at h3;simp only[Option.map_some,Option.some.injEq,Prod.mk.injEq]at h3;obtain⟨rfl,rfl⟩:=h3;exact h.et _ _ _ _ _ _ _ hr hp hq k (.inl j6)
  rw[e3]at h2;exact h.et _ _ _ _ _ _ _ e1 h2 h3 k dD
 intro r2 g2 p2 bD cX b q h1 h2 h3;rcases ch h1 with ⟨rfl,rfl,rfl,rfl⟩|⟨e1,e2,e3⟩
 ·rw[gb]at h2;cases h2;cases hq:pl.ad with
  | none=>rw[hq]at h3;cases h3
  | some x=>
   rw[hq]at h3;simp only[Option.map_some,Option.some.injEq,Prod.mk.injEq]at h3;obtain⟨rfl,rfl⟩:=h3;exact h.own _ _ _ _ _ _ _ hr hp hq
 rw[e3]at h2;exact h.own _ _ _ _ _ _ _ e1 h2 h3
theorem bp.JT (h:bp rd φ O w0 σ w) (dJ:∀p,φ d G p=none) (sz fl:Nat) (tY:fl<3:=by decide):
  bp rd (dz φ d G fun q=>match q with|[]=>some ⟨none,0⟩|_=>none) O w0 (bQ σ d (G,one ⟨sz,[],fl,false⟩)) w∧
  (∀r g p cV,φ r g p=some cV→dz φ d G (fun q=>match q with|[]=>some ⟨none,0⟩|_=>none) r g p=some cV):=by
 have fL:∀r g p cV,φ r g p=some cV→dz φ d G (fun q=>match q with|[]=>some (⟨none,0⟩:Pl)|_=>none) r g p=some cV:=by
  intro r g p cV hp;unfold dz;rw[if_neg (by rintro⟨rfl,rfl⟩;rw[dJ]at hp;cases hp)];exact hp
 generalize fj:(dz φ d G fun q=>match q with|[]=>some (⟨none,0⟩:Pl)|_=>none)=φ' at fL ⊢;have gb:φ' d G []=some ⟨none,0⟩:=by rw[←fj];simp[dz]
 have ch:∀{r2 g2 p2 bD},rowAt (bQ σ d (G,one ⟨sz,[],fl,false⟩)) r2 g2 p2=some bD→(d=r2∧G=g2∧[]=p2∧⟨sz,[],fl,false⟩=bD)∨(rowAt σ r2 g2 p2=some bD∧φ' r2 g2 p2=φ r2 g2 p2):=by
  intro r2 g2 p2 bD h2;rw[jy]at h2;by_cases hd:r2=d
  ·rw[if_pos hd]at h2;by_cases hg:G=g2
   ·rw[if_pos hg]at h2;obtain⟨e1,e2⟩:=pY h2;exact .inl ⟨hd.symm,hg,e1.symm,e2.symm⟩
   rw[if_neg hg]at h2;cases h2
  rw[if_neg hd]at h2;refine .inr ⟨h2,?_⟩;obtain⟨cX,e3,_⟩:=h.rows _ _ _ _ h2;rw[fL _ _ _ _ e3,e3]
 refine⟨⟨?_,?_,h.eh,?_,?_,h.frame,h.size,h.os,h.tape,h.output⟩,fL⟩
 ·intro r2 g2 p2 bD h2;rcases ch h2 with ⟨rfl,rfl,rfl,rfl⟩|⟨e1,e2⟩
  ·exact⟨_,gb,by simp,by simp,by simp,fun _=>rfl,by simp,by simp,fun ha=>(by cases ha),lj tY⟩
  obtain⟨cX,e4,e5⟩:=h.rows _ _ _ _ e1;exact⟨cX,fL _ _ _ _ e4,e5.mono (fun _ _ _ h=>h) fL⟩
 ·intro r1 g1 p1 fg r2 g2 p2 bD iZ cX b q1 q2 h1 h2 h3 h4 h5 h6;rcases ch h1 with ⟨a1,a2,a3,a4⟩|⟨a1,a3⟩<;>rcases ch h2 with ⟨b1,b2,b3,b4⟩|⟨b1,b3⟩
  ·exact⟨a1.symm.trans b1,a3.symm.trans b3⟩
  ·subst a1;subst a2;subst a3;rw[gb]at h3;cases h3;cases h5
  ·subst b1;subst b2;subst b3;rw[gb]at h4;cases h4;cases h6
  rw[a3]at h3;rw[b3]at h4;exact h.sep _ _ _ _ _ _ _ _ _ _ _ _ _ a1 b1 h3 h4 h5 h6
 ·intro r2 g2 p2 bD cX b q h1 h2 h3 k dD;rcases ch h1 with ⟨rfl,rfl,rfl,rfl⟩|⟨e1,e3⟩
  ·rw[gb]at h2;cases h2;cases h3
  rw[e3]at h2;exact h.et _ _ _ _ _ _ _ e1 h2 h3 k dD
 intro r2 g2 p2 bD cX b q h1 h2 h3;rcases ch h1 with ⟨rfl,rfl,rfl,rfl⟩|⟨e1,e3⟩
 ·rw[gb]at h2;cases h2;cases h3
 rw[e3]at h2;exact h.own _ _ _ _ _ _ _ e1 h2 h3
theorem YQ {α:Type}(l:List (Nat × α)) (n:Nat) (x y:α):bQ (bQ l n x) n y=bQ l n y:=by
 induction l with
 | nil=>simp[bQ]
 | cons z l ih=>
  obtain⟨k,v⟩:=z;simp only[bQ];cases h:k==n with
  | true=>simp[bQ,h]
  | false=>simp[bQ,h,ih]
theorem abH {α:Type}(l:List (Nat × α)) (n:Nat) (x:α):bI (bQ l n x) n=some x:=by rw[zK,if_pos rfl]
theorem bp.abD {T:aj}{row:Row}{rq:Nat}(h:bp rd φ O w0 (bQ T d (G,one row)) w) (hle:rq≤row.fl) (tY:rq<3) (j6:row.ao=false):bp rd φ O w0 (bQ T d (G,one ⟨row.sz,row.es,rq,row.ao⟩)) w:=by
 have ch:∀{r g p bD},rowAt (bQ T d (G,one ⟨row.sz,row.es,rq,row.ao⟩)) r g p=some bD→∃fg,rowAt (bQ T d (G,one row)) r g p=some fg∧bD.sz=fg.sz∧bD.es=fg.es∧bD.ao=fg.ao∧bD.fl≤fg.fl∧(bD.ao=true→bD.fl=fg.fl)∧(bD.fl=fg.fl∨bD.fl<3):=by
  intro r g p bD hr;rw[jy]at hr ⊢;by_cases hd:r=d
  ·rw[if_pos hd]at hr ⊢;by_cases hg:G=g
   ·rw[if_pos hg]at hr ⊢;obtain⟨rfl,rfl⟩:=pY hr;exact⟨row,rfl,rfl,rfl,rfl,hle,fun ha=>(by rw[j6]at ha;cases ha),.inr tY⟩
   rw[if_neg hg]at hr;cases hr
  rw[if_neg hd]at hr ⊢;exact⟨bD,hr,rfl,rfl,rfl,Nat.le_refl _,fun _=>rfl,.inl rfl⟩
 refine⟨?_,?_,h.eh,?_,?_,h.frame,h.size,h.os,h.tape,h.output⟩
 ·intro r g p bD hr;obtain⟨fg,h1,e1,e2,e3,e4,e5,e6⟩:=ch hr;obtain⟨pl,hp,aF⟩:=h.rows _ _ _ _ h1;refine⟨pl,hp,by rw[e1,e2];exact aF.wide,by rw[e2];exact aF.len,fun x hx=>(aF.kind x (by rwa[←e2])).le e4,aF.nil,by rw[e1];exact aF.room,by rw[e1,e2];exact aF.cells,fun ha=>?_,fun C e=>?_⟩
  ·rw[e5 ha,e1,e2];exact aF.ic (by rw[←e3];exact ha)
  rcases e6 with e6|e6
  ·rw[e1];exact aF.mp C (e6▸e)
  exact lj (X:=fun C=>bD.sz=0∧∃b,pl.ad=some (b,0)∧v9 w b C) e6 C e
 ·intro r g p row r' g' p' cq pl cV b q q' h1 h2 h3 h4 h5 h6;obtain⟨x1,k1,_⟩:=ch h1;obtain⟨x2,k2,_⟩:=ch h2;exact h.sep _ _ _ _ _ _ _ _ _ _ _ _ _ k1 k2 h3 h4 h5 h6
 ·intro r g p row pl b q h1 h2 h3 k dD;obtain⟨x1,k1,e1,e2,e3,_⟩:=ch h1;rw[e1,e2,e3]at dD;exact h.et _ _ _ _ _ _ _ k1 h2 h3 k dD
 intro r g p row pl b q h1 h2 h3;obtain⟨x1,k1,_⟩:=ch h1;exact h.own _ _ _ _ _ _ _ k1 h2 h3
theorem ahI (h:bp rd φ O w0 σ w) (dJ:∀p,φ d G p=none) {t tx ty:Nat}{b x v:AV}{cb cx:Value}(hb:aL rd φ b cb) (hx:aL rd φ x cx) {σ':aj}(ha:AO P d G σ t tx b x=some (v,σ')):
  tl rd φ O w0 d G σ' v ((Builtin.append_ #[t,tx] ty #[cb,cx]).run P w):=by
 unfold AO at ha;obtain⟨i,hi,cN⟩:=cw ha;obtain⟨e,he,cA⟩:=cw cN;obtain⟨z,hz,fZ⟩:=cw cA;clear ha cN cA;split at fZ
 ·rename_i hk KH gZ;have KH:=Nat.eq_of_beq_eq_true KH;have gZ:=Nat.le_of_ble_eq_true gZ;obtain⟨⟨es,fn⟩,hs,oK⟩:=cw fZ;obtain⟨⟨fV,fl,T⟩,uc,nX⟩:=cw oK;clear fZ oK;unfold NH at nX;obtain⟨⟨pz,Gx⟩,S3⟩:=qg nX;clear nX;simp only at pz Gx S3;cases S3;have hu:=qJ hi hk;obtain⟨inf,dj,e1,e2,e3,e4,e5,e6,-⟩:=o6 he;rw[e6]at hz;obtain⟨zv,sm,Gi⟩:=cJ hz;have xJ:zv.cells.size=e.sz:=by rw[←KH,←Gi];simp
  obtain⟨news,s1,s2,s3,s4,s6,s5⟩:=I4 h hx hs;simp only at s1 s2 s3 s4 s6;clear s5;rw[e3]at s1;have vl:news.length=es.length * e.sz:=by rw[s1.newsLen,e3]
  have hlen:(fV++es).length=fV.length+es.length:=by simp
  have ac6:∀i4,i4<fV.length+es.length→Builtin.nextslicecap (fV.length+es.length) i4 * inf.bytes≤281474976710656:=fun i4 ho=>growslice_fits ho (by rw[←e4,←hlen];exact Gx)
  have h63:((fV.length+es.length:Nat):Int)≤9223372036854775807:=by rw[hlen]at pz;simp only[maxLen]at pz;omega
  have pn:∀{a:List (List AV)},(∀x∈a,iB fl x)→∀x∈a++es,iB (min fl fn) x:=fun ha x hx=>(List.mem_append.1 hx).elim (fun hx=>(ha x hx).le (Nat.min_le_left _ _)) (fun hx=>(s4 x hx).le (Nat.min_le_right _ _))
  have grow:∀{T:aj},(∀r g p row,rowAt T r g p=some row→rowAt σ r g p=some row)→∀(base:Option Addr) (cap:Nat) (vo:List Value),cap<fV.length+es.length→
    (Builtin.firstCells inf.size fV.length (.slice base fV.length cap)).run P w.drew=.ok vo.toArray w.drew→vo.length=fV.length * e.sz→(∀x∈fV,x.length=e.sz)→(∀x∈fV,iB fl x)→
    (∀i j c,(fV[i]?).bind (·[j]?)=some c→∃v,vo[i * e.sz+j]?=some v∧aL rd φ c v)→
    tl rd φ O w0 d G (bQ T d (G,one ⟨e.sz,fV++es,min fl fn,false⟩)) (.au d G [] e.sz 0 (fV++es).length) ((Builtin.append_ #[t,tx] ty #[.slice base fV.length cap,cx]).run P w):=by
   intro T hT base cap vo rb xM q5 hw Gz eR;have eG:=run_append_grow_src (P:=P) w t tx ty i.el inf zv hu e1 sm base fV.length cap vo xM cx es.length news s1 rb h63 (ac6 cap rb);have bH:=grownCap_ge w (fV.length+es.length) cap i.el;have vg:∀x∈fV++es,x.length=e.sz:=fun x hx=>(List.mem_append.1 hx).elim (hw x) (s3 x)
   have hn:=((h.less hT).drew).newRow dJ ⟨e.sz,fV++es,min fl fn,false⟩ rfl (Nat.lt_of_le_of_lt (Nat.min_le_right _ _) s6) (grownCap w (fV.length+es.length) cap i.el)
    ((vo++news).toArray++Builtin.zeroCells zv.cells (grownCap w (fV.length+es.length) cap i.el - (fV.length+es.length))) i.el (0,0) (.inr (Nat.le_refl _)) vg (by simpa using bH)
    (by
     simp only[Array.size_append,List.size_toArray,List.length_append,q5,vl,size_zeroCells,xJ,←Nat.add_mul];refine Nat.mul_le_mul_right _ ?_;omega)
    (pn Gz)
    (fun a b c hc=>by
     have ab:a * e.sz+b<(vo++news).length∧∃v,(vo++news)[a * e.sz+b]?=some v∧aL rd φ c v:=by
      rw[List.getElem?_append]at hc;split at hc
      ·rename_i ab;obtain⟨v,hv,hr⟩:=eR a b c hc;have hl:a * e.sz+b<vo.length:=by
        rcases bm (a * e.sz+b) vo.length with hx|hx
        ·exact hx
        rw[List.getElem?_eq_none hx]at hv;cases hv
       exact⟨by simp;omega,v,by rw[List.getElem?_append_left hl];exact hv,hr⟩
      rename_i aiw;obtain⟨v,hv,hr⟩:=s2 (a - fV.length) b c hc;have hl:(a - fV.length) * e.sz+b<news.length:=by
       rcases bm ((a - fV.length) * e.sz+b) news.length with hx|hx
       ·exact hx
       rw[List.getElem?_eq_none hx]at hv;cases hv
      have e0:a * e.sz+b=vo.length+((a - fV.length) * e.sz+b):=by
       rw[q5,←Nat.add_assoc,←Nat.add_mul];congr 2;omega
      refine⟨by rw[e0];simp;omega,v,?_,hr⟩;rw[e0,List.getElem?_append_right (by omega),Nat.add_sub_cancel_left];exact hv
     obtain⟨ab,v,hv,hr⟩:=ab;refine⟨v,?_,hr⟩;rw[Array.getElem?_append_left (by simpa using ab)]
     simpa using hv)
   rw[eG];refine⟨_,_,_,rfl,hn.1,?_,hn.2,fun r g p hh=>rV r g p hh⟩;have:=aL.au (rd:=rd) (φ:=dz φ d G fun p=>match p with|[]=>some ⟨some (w.heap.size,0),grownCap w (fV.length+es.length) cap i.el⟩|_=>none) d G [] e.sz 0 (fV++es).length ⟨some (w.heap.size,0),grownCap w (fV.length+es.length) cap i.el⟩ (some (cI w.heap.size 0)) (by simp[dz]) (.inr (by simp)) (by simpa using bH);rw[hlen]at this ⊢;exact this
  unfold Nw at uc;split at uc
  ·cases uc;cases hb
   simp only[List.nil_append,List.length_nil,Nat.zero_add]at *;by_cases jd:es.length=0
   ·have mH:es=[]:=List.eq_nil_of_length_eq_zero jd;subst mH;have KY:news=[]:=List.eq_nil_of_length_eq_zero (by simpa using vl);subst KY;have eG:(Builtin.append_ #[t,tx] ty #[.slice none 0 0,cx]).run P w=.ok (.slice none 0 0) w:=by
     have hl:=s1.len;have hc:=s1.cells;simp only[List.length_nil]at hl hc;rcases s1.kind with ⟨e',bW⟩|bW<;>simp[Builtin.append_,run_underlying hu,run_underlying bW,sizeOf,typeInfo,e1,hl,hc]
    rw[eG];have hn:=h.JT dJ e.sz (min 2 fn) (Nat.lt_of_le_of_lt (Nat.min_le_left _ _) (by decide));refine⟨_,_,_,rfl,hn.1,?_,hn.2,fun r g p hh=>rV r g p hh⟩;exact .au d G [] e.sz 0 0 ⟨none,0⟩ none (by simp[dz]) (.inl rfl) (aQ _)
   exact grow (fun _ _ _ _ h=>h) none 0 [] (by omega) (by simp[Builtin.firstCells]) (by simp) (by simp) (by simp) (by simp)
  ·rename_i r g p s0 off len;obtain⟨row,fo,lK⟩:=cw uc;clear uc;split at lK
   ·rename_i q1 q2 q3;have q1:=Nat.eq_of_beq_eq_true q1;have q2:=Nat.eq_of_beq_eq_true q2;subst q1;unfold kQ at lK;split at lK
    ·rename_i hle;have hle:=Nat.le_of_ble_eq_true hle;simp only[Option.some.injEq,Prod.mk.injEq]at lK;obtain⟨rfl,rfl,rfl⟩:=lK;obtain⟨pl,hp,aF⟩:=h.rows _ _ _ _ fo;have dW:(sub off len row.es).length=len:=by simp[sub];omega
     have oG:∀x∈sub off len row.es,x∈row.es:=fun x hx=>List.mem_of_mem_drop (List.mem_of_mem_take hx)
     have hw:∀x∈sub off len row.es,x.length=e.sz:=fun x hx=>by rw[aF.wide x (oG x hx),q2]
     have Gz:∀x∈sub off len row.es,iB row.fl x:=fun x hx=>aF.kind x (oG x hx)
     have Sr:∀{i j:Nat} {c:AV},((sub off len row.es)[i]?).bind (·[j]?)=some c→(row.es[off+i]?).bind (·[j]?)=some c:=by
      intro i j c hc;simp only[sub,List.getElem?_take]at hc;split at hc
      ·rwa[List.getElem?_drop]at hc
      cases hc
     cases hb with
     | au _ _ _ _ _ _ cV A hφ hA hl=>
      rw[hφ]at hp;cases hp;by_cases Sw:len+es.length≤pl.cap - off
      ·
       obtain⟨m1,m2⟩:=h.aa3 dJ fo q3 hφ (off:=off) (n:=len) hle (Am σ r p) (fun hh=>Py hh);rw[q2]at m1 m2;generalize fj:(dz φ d G fun q=>match q with|[]=>some (⟨pl.ad.map fun x=>(x.1,x.2+off * e.sz),pl.cap - off⟩:Pl)|_=>none)=φ' at m1 m2;have gb:φ' d G []=some ⟨pl.ad.map fun x=>(x.1,x.2+off * e.sz),pl.cap - off⟩:=by rw[←fj];simp[dz]
       have SK:∀r g p,φ' r g p≠none→φ r g p≠none∨(r=d∧g=G):=fun r g p hh=>rV (ψ:=fun q=>match q with|[]=>some (⟨pl.ad.map fun x=>(x.1,x.2+off * e.sz),pl.cap - off⟩:Pl)|_=>none) r g p (by rw[fj];exact hh)
       by_cases jd:es.length=0
       ·have mH:es=[]:=List.eq_nil_of_length_eq_zero jd;subst mH;have KY:news=[]:=List.eq_nil_of_length_eq_zero (by simpa using vl);subst KY;have eG:(Builtin.append_ #[t,tx] ty #[.slice A len (pl.cap - off),cx]).run P w=.ok (.slice A len (pl.cap - off)) w:=by
         have l0:=s1.len;have hc:=s1.cells;simp only[List.length_nil]at l0 hc;have acE:len≤pl.cap - off:=hl;rcases s1.kind with ⟨e',bW⟩|bW<;>cases A<;>simp[Builtin.append_,run_underlying hu,run_underlying bW,sizeOf,typeInfo,e1,l0,hc,acE,storeCells]
        rw[eG];simp only[List.append_nil,dW];refine⟨_,_,φ',rfl,m1.abD (Nat.min_le_left _ _) (Nat.lt_of_le_of_lt (Nat.min_le_right _ _) s6) rfl,?_,m2,SK⟩;have:=aL.au (rd:=rd) (φ:=φ') d G [] e.sz 0 len ⟨pl.ad.map fun x=>(x.1,x.2+off * e.sz),pl.cap - off⟩ A gb (by
         rcases hA with hA|hA
         ·left;simpa using hA
         right;rw[hA];cases pl.ad<;>simp) (by simpa using hl)
        simpa using this
       have rb:pl.cap - off≠0:=by omega
       rcases hA with hA|hA
       ·exact absurd hA rb
       cases aK:pl.ad with
       | none=>exact absurd (aF.nil aK) (by omega)
       | some bq=>
        obtain⟨b0,q0⟩:=bq;rw[aK]at hA gb;simp only[Option.map_some]at hA gb;subst hA;have CD:∀j,j<news.length→off * e.sz+(len * e.sz+j)<pl.cap * e.sz:=by
         intro j hj;rw[vl]at hj;have:(off+len+es.length) * e.sz≤pl.cap * e.sz:=Nat.mul_le_mul_right _ (by omega);rw[Nat.add_mul,Nat.add_mul]at this;omega
        have Co:=fun j (hj:j<news.length)=>aF.room b0 q0 aK (off * e.sz+(len * e.sz+j)) (by rw[q2];exact CD j hj)
        have eG:=run_append_room_src (P:=P) w t tx ty i.el inf hu e1 b0 (q0+off * e.sz) len (pl.cap - off) cx es.length news s1 Sw
         (fun j hj=>by rw[←e3,show q0+off * e.sz+len * e.sz+j=q0+(off * e.sz+(len * e.sz+j)) by omega];exact(Co j hj).1)
         (fun j hj=>by rw[←e3,show q0+off * e.sz+len * e.sz+j=q0+(off * e.sz+(len * e.sz+j)) by omega];exact(Co j hj).2)
        rw[←e3]at eG;have aE:=m1.store (r:=d) (g:=G) (p:=[]) (f:=one ⟨e.sz,sub off len row.es,row.fl,false⟩) (row:=⟨e.sz,sub off len row.es,row.fl,false⟩) (abH _ _ _) rfl gb rfl rfl ⟨e.sz,sub off len row.es++es,min row.fl fn,false⟩ rfl (Nat.lt_of_le_of_lt (Nat.min_le_right _ _) s6) rfl
         (fun x hx=>(List.mem_append.1 hx).elim (hw x) (s3 x)) (by simp only[List.length_append,dW];exact Sw) (pn Gz) (q0+off * e.sz+len * e.sz) news
         (fun a b c hc=>by
          rw[List.getElem?_append]at hc;split at hc
          ·rename_i ab;rw[dW]at ab;have hb:b<e.sz:=by
            cases hh:(sub off len row.es)[a]? with
            | none=>rw[hh]at hc;cases hc
            | some x=>
             rw[hh]at hc;rw[←hw x (dh hh)];rcases bm b x.length with hx|hx
             ·exact hx
             rw[Option.bind_some,List.getElem?_eq_none hx]at hc;cases hc
           have hm:=Nat.mul_le_mul_right e.sz (show a+1≤len from ab);rw[Nat.succ_mul]at hm;rw[if_neg (by simp only;omega)];obtain⟨v,hv,hr⟩:=aF.cells b0 q0 aK _ _ _ (Sr hc);refine⟨v,?_,hr.mono (fun _ _ _ h=>h) m2⟩;rw[←hv];congr 2;simp only[q2,Nat.add_mul];omega
          rename_i bH;rw[dW]at bH hc;obtain⟨v,hv,hr⟩:=s2 (a - len) b c hc;have l0:(a - len) * e.sz+b<news.length:=by
           rcases bm ((a - len) * e.sz+b) news.length with hx|hx
           ·exact hx
           rw[List.getElem?_eq_none hx]at hv;cases hv
          have e0:a * e.sz=len * e.sz+(a - len) * e.sz:=by rw[←Nat.add_mul];congr 1;omega
          rw[if_pos (by simp only;omega)];refine⟨v,?_,hr.mono (fun _ _ _ h=>h) m2⟩;rw[←hv];congr 1;simp only;omega)
        rw[YQ,Tj]at aE;rw[show cI b0 (q0+off * e.sz)=(⟨b0,q0+off * e.sz,none⟩:Addr) from rfl,eG];refine⟨_,_,φ',rfl,aE,?_,m2,SK⟩;have:=aL.au (rd:=rd) (φ:=φ') d G [] e.sz 0 (sub off len row.es++es).length ⟨some (b0,q0+off * e.sz),pl.cap - off⟩ (some (cI b0 (q0+off * e.sz))) gb (.inr (by simp)) (by simp only[List.length_append,dW];omega)
        simpa[dW]using this
      
      have hT:∀r2 g2 p2 bD,rowAt (Am σ r p) r2 g2 p2=some bD→rowAt σ r2 g2 p2=some bD:=fun _ _ _ _ hh=>(Py hh).1
      by_cases jd:len=0
      ·subst jd;have su:sub off 0 row.es=[]:=by simp[sub]
       rw[su]at grow ⊢;exact grow hT A (pl.cap - off) [] (by simp;omega) (by cases A<;>simp[Builtin.firstCells,loadCells,loadCellsFrom]) (by simp) (by simp) (by simp) (by simp)
      rcases hA with hA|hA
      ·omega
      cases aK:pl.ad with
      | none=>exact absurd (aF.nil aK) (by omega)
      | some bq=>
       obtain⟨b0,q0⟩:=bq;rw[aK]at hA;simp only[Option.map_some]at hA;subst hA;have iR:∀k,k<len * e.sz→(w.cell? (cI b0 (q0+off * e.sz+k))).isSome=true:=by
        intro k hk;have h1:=(aF.room b0 q0 aK (off * e.sz+k) (by
         rw[q2];have:(off+len) * e.sz≤pl.cap * e.sz:=Nat.mul_le_mul_right _ (by omega);rw[Nat.add_mul]at this;omega)).1
        rwa[←Nat.add_assoc]at h1
       have xM:(Builtin.firstCells inf.size len (.slice (some (cI b0 (q0+off * e.sz))) len (pl.cap - off))).run P w.drew=.ok (sY w b0 (q0+off * e.sz) (len * e.sz)).toArray w.drew:=by
        refine run_firstCells_some w.drew inf.size len _ _ _ _ (by rw[Hs,e3]) fun j u hu=>?_
        obtain⟨h1,rfl⟩:=MB hu;obtain⟨x,hx⟩:=Option.isSome_iff_exists.1 (iR j h1);rw[p7,hx]
        simpa using hx
       have:=grow hT (some (cI b0 (q0+off * e.sz))) (pl.cap - off) (sY w b0 (q0+off * e.sz) (len * e.sz)) (by rw[dW];omega) (by rw[dW];exact xM) (by rw[Hs,dW]) hw Gz
        (fun a b c hc=>by
         have z9:a * e.sz+b<len * e.sz:=by
          cases hh:(sub off len row.es)[a]? with
          | none=>rw[hh]at hc;cases hc
          | some x=>
           have CQ:a<len:=by
            rw[←dW];rcases bm a (sub off len row.es).length with hx|hx
            ·exact hx
            rw[List.getElem?_eq_none hx]at hh;cases hh
           rw[hh]at hc;have qs:b<e.sz:=by
            rw[←hw x (dh hh)];rcases bm b x.length with hx|hx
            ·exact hx
            rw[Option.bind_some,List.getElem?_eq_none hx]at hc;cases hc
           have hm:=Nat.mul_le_mul_right e.sz (show a+1≤len from CQ);rw[Nat.succ_mul]at hm;omega
         obtain⟨v,hv,hr⟩:=aF.cells b0 q0 aK _ _ _ (Sr hc);refine⟨v,UG z9 ?_,hr⟩;rw[←hv];congr 2;rw[q2,Nat.add_mul];omega)
       rw[dW]at this;exact this
    cases lK
   cases lK
  cases uc
 cases fZ
theorem bp.adH {r g:Nat}{p:List Nat}{f:dZ}{row:Row}{rq:Nat}(h:bp rd φ O w0 σ w) (hl:bI σ r=some (g,f)) (hf:f p=some row) (j6:row.ao=false) (hle:rq≤row.fl) (tY:rq<3):bp rd φ O w0 (bQ σ r (g,dB f p ⟨row.sz,row.es,rq,false⟩)) w:=by
 have cj:rowAt σ r g p=some row:=by unfold rowAt;rw[hl];simp[hf]
 have ch:∀{r2 g2 p2 bD},rowAt (bQ σ r (g,dB f p ⟨row.sz,row.es,rq,false⟩)) r2 g2 p2=some bD→∃fg,rowAt σ r2 g2 p2=some fg∧bD.sz=fg.sz∧bD.es=fg.es∧bD.ao=fg.ao∧bD.fl≤fg.fl∧(bD.ao=true→bD.fl=fg.fl)∧(bD.fl=fg.fl∨bD.fl<3):=by
  intro r2 g2 p2 bD hr;rcases wI hl hr with ⟨rfl,rfl,rfl,rfl⟩|⟨h1,_⟩
  ·exact⟨row,cj,rfl,rfl,j6.symm,hle,fun ha=>(by cases ha),.inr tY⟩
  exact⟨bD,h1,rfl,rfl,rfl,Nat.le_refl _,fun _=>rfl,.inl rfl⟩
 refine⟨?_,?_,h.eh,?_,?_,h.frame,h.size,h.os,h.tape,h.output⟩
 ·intro r g p bD hr;obtain⟨fg,h1,e1,e2,e3,e4,e5,e6⟩:=ch hr;obtain⟨pl,hp,aF⟩:=h.rows _ _ _ _ h1;refine⟨pl,hp,by rw[e1,e2];exact aF.wide,by rw[e2];exact aF.len,fun x hx=>(aF.kind x (by rwa[←e2])).le e4,aF.nil,by rw[e1];exact aF.room,by rw[e1,e2];exact aF.cells,fun ha=>?_,fun C e=>?_⟩
  ·rw[e5 ha,e1,e2];exact aF.ic (by rw[←e3];exact ha)
  rcases e6 with e6|e6
  ·rw[e1];exact aF.mp C (e6▸e)
  exact lj (X:=fun C=>bD.sz=0∧∃b,pl.ad=some (b,0)∧v9 w b C) e6 C e
 ·intro r g p row r' g' p' cq pl cV b q q' h1 h2 h3 h4 h5 h6;obtain⟨x1,k1,_⟩:=ch h1;obtain⟨x2,k2,_⟩:=ch h2;exact h.sep _ _ _ _ _ _ _ _ _ _ _ _ _ k1 k2 h3 h4 h5 h6
 ·intro r g p row pl b q h1 h2 h3 k dD;obtain⟨x1,k1,e1,e2,e3,_⟩:=ch h1;rw[e1,e2,e3]at dD;exact h.et _ _ _ _ _ _ _ k1 h2 h3 k dD
 intro r g p row pl b q h1 h2 h3;obtain⟨x1,k1,_⟩:=ch h1;exact h.own _ _ _ _ _ _ _ k1 h2 h3
theorem ae4 (h:bp rd φ O w0 σ w) {t tx ty:Nat}{a x v:AV}{ca cx:Value}(z9:aL rd φ a ca) (hx:aL rd φ x cx) {σ':aj}(ha:AL P σ t tx a x=some (v,σ')):
  kE rd φ O w0 σ' v ((Builtin.copy_ #[t,tx] ty #[ca,cx]).run P w):=by
 unfold AL at ha;obtain⟨i,hi,cN⟩:=cw ha;obtain⟨e,he,cA⟩:=cw cN;clear ha cN;split at cA
 ·rename_i hk gZ htx;have gZ:=Nat.le_of_ble_eq_true gZ;obtain⟨⟨es,fn⟩,hs,fZ⟩:=cw cA;clear cA;obtain⟨news,s1,s2,s3,s4,s6,s5⟩:=I4 h hx hs;simp only at s1 s2 s3 s4 s5 s6 fZ;split at fZ
  ·rename_i r g p sz off len;obtain⟨⟨g',f⟩,hl,oK⟩:=cw fZ;clear fZ;split at oK
   ·rename_i hg;have hg:=Nat.eq_of_beq_eq_true hg;simp only at hg;subst hg;obtain⟨row,fo,nX⟩:=cw oK;clear oK;split at nX
    ·rename_i q1 q2 q3;have q1:=Nat.eq_of_beq_eq_true q1;have q2:=Nat.eq_of_beq_eq_true q2;subst q1;unfold kQ at nX;split at nX
     ·rename_i hle;have hle:=Nat.le_of_ble_eq_true hle;simp only[Option.some.injEq,Prod.mk.injEq]at nX;obtain⟨rfl,rfl⟩:=nX;have Cn:f p=some row:=fo;have cj:rowAt σ r g' p=some row:=by unfold rowAt;rw[hl];simp[Cn]
      obtain⟨pl,hp,aF⟩:=h.rows _ _ _ _ cj;have hu:=qJ hi hk;have hn:min es.length len≤es.length:=Nat.min_le_left _ _;have jf:=s5 htx (min es.length len) hn;have vl:(news.take (min es.length len * e.sz)).length=min es.length len * e.sz:=by
       rw[List.length_take,s1.newsLen];exact Nat.min_eq_left (Nat.mul_le_mul_right _ hn)
      have Gv:Nat.min es.length len=min es.length len:=rfl;cases z9 with
      | au _ _ _ _ _ _ cV A hφ hA l0=>
       rw[hφ]at hp;cases hp;by_cases hz:min es.length len=0
       ·have eG:(Builtin.copy_ #[t,tx] ty #[.slice A len (pl.cap - off),cx]).run P w=.ok (goInt 0) w:=by
         rw[hz]at jf;simp only[Nat.zero_mul,List.take_zero]at jf;cases A<;>simp[Builtin.copy_,run_underlying hu,s1.len,pV he,Gv,hz,jf,storeCells]
        rw[eG];have e0:row.es.take off++(es.take len++(row.es.drop off).drop (min es.length len))=row.es:=by
         have:es.take len=[]:=by
          apply List.eq_nil_of_length_eq_zero;rw[List.length_take,Nat.min_comm];exact hz
         rw[hz,this];simp
        refine⟨_,_,rfl,?_,by rw[hz];exact .sc _ rfl⟩;rw[e0];refine bp.adH h hl Cn q3 (Nat.min_le_left _ _) (Nat.lt_of_le_of_lt (Nat.min_le_right _ _) s6)
       rcases hA with hA|hA
       ·omega
       cases aK:pl.ad with
       | none=>exact absurd (aF.nil aK) (by omega)
       | some bq=>
        obtain⟨b0,q0⟩:=bq;rw[aK]at hA;simp only[Option.map_some]at hA;subst hA;have KX:∀u∈news.take (min es.length len * e.sz),u.oneCell'=true:=fun u hu=>s1.one u (List.mem_of_mem_take hu)
        have CD:∀j,j<min es.length len * e.sz→off * e.sz+j<pl.cap * e.sz:=by
         intro j hj;have:(off+min es.length len) * e.sz≤pl.cap * e.sz:=Nat.mul_le_mul_right _ (by omega);rw[Nat.add_mul]at this;omega
        have Co:=fun j (hj:j<min es.length len * e.sz)=>aF.room b0 q0 aK (off * e.sz+j) (by rw[q2];exact CD j hj)
        have aE:=run_storeCells_cells (P:=P) b0 (q0+off * e.sz) (news.take (min es.length len * e.sz)) 0 w
         (fun j hj=>by have:=(Co j (by rw[←vl];exact hj)).1;rwa[Nat.add_zero,Nat.add_assoc]) (fun j hj=>by have:=(Co j (by rw[←vl];exact hj)).2;rwa[Nat.add_zero,Nat.add_assoc]) KX
        simp only[Nat.add_zero]at aE;have eG:(Builtin.copy_ #[t,tx] ty #[.slice (some (cI b0 (q0+off * e.sz))) len (pl.cap - off),cx]).run P w=.ok (goInt (min es.length len:Nat)) (w.setCells b0 (q0+off * e.sz) (news.take (min es.length len * e.sz))):=by
         simp[Builtin.copy_,run_underlying hu,s1.len,pV he,Gv,jf,aE,goInt]
        rw[eG];refine⟨_,_,rfl,?_,.sc _ rfl⟩;refine h.store hl Cn hφ aK q3 ⟨row.sz,row.es.take off++(es.take len++(row.es.drop off).drop (min es.length len)),min row.fl fn,false⟩ rfl (Nat.lt_of_le_of_lt (Nat.min_le_right _ _) s6) rfl ?_ ?_ ?_ (q0+off * e.sz) (news.take (min es.length len * e.sz)) ?_
        ·intro y hy;rcases List.mem_append.1 hy with hy|hy
         ·exact aF.wide y (List.mem_of_mem_take hy)
         rcases List.mem_append.1 hy with hy|hy
         ·rw[q2];exact s3 y (List.mem_of_mem_take hy)
         exact aF.wide y (List.mem_of_mem_drop (List.mem_of_mem_drop hy))
        ·have:=aF.len;simp only[List.length_append,List.length_take,List.length_drop];omega
        ·intro y hy;rcases List.mem_append.1 hy with hy|hy
         ·exact(aF.kind y (List.mem_of_mem_take hy)).le (Nat.min_le_left _ _)
         rcases List.mem_append.1 hy with hy|hy
         ·exact(s4 y (List.mem_of_mem_take hy)).le (Nat.min_le_right _ _)
         exact(aF.kind y (List.mem_of_mem_drop (List.mem_of_mem_drop hy))).le (Nat.min_le_left _ _)
        intro a' b' c hc;rw[vl,q2];have acK:(row.es.take off).length=off:=by simp;omega
        have gY:(es.take len).length=min es.length len:=by simp[Nat.min_comm]
        have KF:∀{l:List (List AV)} {k:Nat},(∀x∈l,x.length=e.sz)→(l[k]?).bind (·[b']?)=some c→b'<e.sz:=by
         intro l k hw hh;cases hx:l[k]? with
         | none=>rw[hx]at hh;cases hh
         | some x=>
          rw[hx]at hh;rw[←hw x (dh hx)];rcases bm b' x.length with hy|hy
          ·exact hy
          rw[Option.bind_some,List.getElem?_eq_none hy]at hh;cases hh
        have Sj:∀x∈row.es,x.length=e.sz:=fun x hx=>by rw[aF.wide x hx,q2]
        rw[List.getElem?_append,acK]at hc;split at hc
        ·rename_i ab;rw[List.getElem?_take,if_pos ab]at hc;have hb:=KF Sj hc;have hm:=Nat.mul_le_mul_right e.sz (show a'+1≤off from ab);rw[Nat.succ_mul]at hm;rw[if_neg (by omega)];have:=aF.cells b0 q0 aK _ _ _ hc
         rwa[q2]at this
        rename_i bH;rw[List.getElem?_append,gY]at hc;split at hc
        ·rename_i ab;rw[List.getElem?_take,if_pos (by omega)]at hc;have hb:=KF s3 hc;have hm:=Nat.mul_le_mul_right e.sz (show a' - off+1≤min es.length len from ab);rw[Nat.succ_mul]at hm;have e1:a' * e.sz=off * e.sz+(a' - off) * e.sz:=by rw[←Nat.add_mul];congr 1;omega
         rw[if_pos (by omega)];obtain⟨v,hv,hr⟩:=s2 _ _ _ hc;refine⟨v,?_,hr⟩;rw[List.getElem?_take,if_pos (by omega),←hv];congr 1;omega
        rename_i aiv;rw[List.getElem?_drop,List.getElem?_drop]at hc;have hb:=KF Sj hc;have e1:off+(min es.length len+(a' - off - min es.length len))=a':=by omega
        rw[e1]at hc;have hm:=Nat.mul_le_mul_right e.sz (show off+min es.length len≤a' by omega);rw[Nat.add_mul]at hm;rw[if_neg (by omega)];have:=aF.cells b0 q0 aK _ _ _ hc
        rwa[q2]at this
     cases nX
    cases nX
   cases oK
  cases fZ
 cases cA
theorem ahf (h:bp rd φ O w0 σ w) (dJ:∀p,φ d G p=none) {t len:Nat}{v:AV}{ev:Operand→AV}{ρ:Operand→Value}(cT:∀x,aL rd φ (ev x) (ρ x)) {parts:Array (Nat × Operand)}{σ':aj}
  (ha:yK P d G σ t len (parts.toList.map fun x=>(x.1,ev x.2))=some (v,σ')):tl rd φ O w0 d G σ' v ((Instr.buildSlice t len (parts.map fun(i,x)=>(i,ρ x))).run P w):=by
 unfold yK at ha;obtain⟨x,hx,cN⟩:=cw ha;cases cN;obtain⟨arr,T,h1,h2,h3,h4⟩:=V4 (P:=P) (w:=w) cT hx;rw[h4];have hn:=h.newRow dJ ⟨x.1,x.2,dx x.2,false⟩ rfl (Dd _) len arr T (0,0) (.inr (Nat.le_refl _)) h2.2.1 (by simp[h1]) (by rw[h2.1,h1];exact Nat.le_refl _) G9 h2.2.2;refine⟨_,_,_,rfl,hn.1,?_,hn.2,fun r g p hh=>rV r g p hh⟩;exact aL.au (rd:=rd) (φ:=dz φ d G fun p=>match p with|[]=>some ⟨some (w.heap.size,0),len⟩|_=>none) d G [] x.1 0 len ⟨some (w.heap.size,0),len⟩ (some (cI w.heap.size 0)) (by simp[dz]) (.inr (by simp)) (by simp)
end
end
section
open Go Go.RowKit
set_option linter.unusedVariables false
set_option linter.unusedSimpArgs false
section
variable {P:Program}{rd:RD}{φ:b9}{O:Nat→Prop}{w0 w:World}{σ:aj}{d G:Nat}
theorem Ut:∀{cs:List AV}{vs:List Value}{l:List Nat},sW cs=some l→vL vs=some l→PW rd φ cs vs
 | [],[],_,_,_=>PW.nil
 | [],v::vs,l,h,k=>by
  simp only[sW,Option.some.injEq]at h;subst h;simp only[vL]at k;split at k
  ·rename_i a b h1 h2;obtain⟨x,y,rfl,_⟩:=yz h1;simp at k
  cases k
 | .sc u::cs,[],l,h,k=>by
  simp only[vL,Option.some.injEq]at k;subst k;simp only[sW]at h;split at h
  ·rename_i a b h1 h2;obtain⟨x,y,rfl,_⟩:=yz h1;simp at h
  cases h
 | .sc u::cs,v::vs,l,h,k=>by
  simp only[sW]at h;simp only[vL]at k;split at h
  ·rename_i a b h1 h2;split at k
   ·rename_i a' b' k1 k2;cases h;simp only[Option.some.injEq]at k;obtain⟨x,y,rfl,_⟩:=yz h1;obtain⟨x',y',rfl,_⟩:=yz k1;obtain⟨e1,e2⟩:=List.append_inj k rfl;subst e2;rw[e1]at k1;have:=Uw h1 k1;subst this;refine PW.cons (.sc u ?_) (Ut h2 k2);cases u<;>simp_all[oU,tu]
   cases k
  cases h
 | .dead::_,_,_,h,_|.aG::_,_,_,h,_|.au ..::_,_,_,h,_|.ptr ..::_,_,_,h,_|.ro ..::_,_,_,h,_|.rp _::_,_,_,h,_|.agg _::_,_,_,h,_|.ba _::_,_,_,h,_|.it _::_,_,_,h,_|.mr ..::_,_,_,h,_=>by simp[sW]at h
theorem wb.rel {v:Value}{a:AV}(h:wb v a):aL rd φ a v:=by
 obtain⟨c,h1,h2⟩:=h;cases a<;>simp only[kB,reduceCtorEq]at h1
 ·rename_i u;obtain⟨x,y,rfl,hx⟩:=yz h1;have hv:oU v=some [x,y]:=by
   cases v<;>simp only[Ds]at h2<;>first|exact h2|skip
   obtain⟨z,hz,e⟩:=cJ h2;simp only[List.cons.injEq]at e;omega
  have:=Uw h1 hv;subst this;refine .sc u ?_;cases u<;>simp_all[oU,tu]
 rename_i cs;obtain⟨l,hl,rfl⟩:=cJ h1;have one:∀{u:Value},oU u=some (10::l)→False:=fun hu=>by
  obtain⟨x,y,e,hx⟩:=yz hu;simp only[List.cons.injEq]at e;omega
 cases v<;>simp only[Ds]at h2<;>first|exact(one h2).elim|skip
 obtain⟨z,hz,e⟩:=cJ h2;simp only[List.cons.injEq,true_and]at e;subst e;exact PW.agg (Ut hl hz)
theorem Uu:∀{cs:List AV}{vs:List Value}{l:List Nat},PW rd φ cs vs→sW cs=some l→vL vs=some l
 | [],vs,l,h,k=>by
  have:vs=[]:=List.eq_nil_of_length_eq_zero h.1.symm;subst this;exact k
 | .sc u::cs,vs,l,h,k=>by
  obtain⟨v,us,rfl,h1,h2⟩:=h.kI;have:=fq h1;subst this;simp only[sW]at k;split at k
  ·rename_i a b k1 k2;simp only[vL,k1,Uu h2 k2];exact k
  cases k
 | .dead::_,_,_,_,h|.aG::_,_,_,_,h|.au ..::_,_,_,_,h|.ptr ..::_,_,_,_,h|.ro ..::_,_,_,_,h|.rp _::_,_,_,_,h|.agg _::_,_,_,_,h|.ba _::_,_,_,_,h|.it _::_,_,_,_,h|.mr ..::_,_,_,_,h=>by simp[sW]at h
theorem wb.of {v:Value}{a:AV}{c:List Nat}(h:aL rd φ a v) (k:kB a=some c):wb v a:=by
 refine⟨c,k,?_⟩;cases a<;>simp only[kB,reduceCtorEq]at k
 ·rename_i u;rw[fq h];cases u<;>simp_all[oU,Ds]
 rename_i cs;obtain⟨l,hl,rfl⟩:=cJ k;obtain⟨arr,rfl,hp⟩:=PW.mq h;simp only[Ds,Uu hp hl,Option.map_some]
def xt (P:Program) (K:Nat):AV→AV→Option Bool
 | .agg xs,.agg ys=>(jh P K).bind fun ks=>vz ks xs ys
 | _,_=>none
def oQ (P:Program) (K:Nat) (k:AV):MC→Option (Option AV)
 | []=>some none
 | e::C=>match xt P K k e.1 with
  | some true=>some (some e.2)
  | some false=>oQ P K k C
  | none=>none
def sk (P:Program) (K:Nat) (k:AV):Bool:=(xt P K k k).isSome
theorem TM {t:TypeId}{ks:List TK}(h:jh P t=some ks):∃fs,P.underlying t=some (.struct fs):=by
 unfold jh at h;split at h
 ·rename_i fs hu;exact⟨fs,hu⟩
 cases h
theorem R5 {K:Nat}{a b:AV}{va vb:Value}{r:Bool}(h:xt P K a b=some r) (ha:aL rd φ a va) (hb:aL rd φ b vb) (w:World):(Op.equal K va vb).run P w=.ok r w:=by
 unfold xt at h;split at h
 ·obtain⟨ks,hk,he⟩:=cw h;obtain⟨xa,rfl,pa⟩:=PW.mq ha;obtain⟨xb,rfl,pb⟩:=PW.mq hb
  simpa using (Ma hk (Di pa pb he) w).1
 cases h
def W0 (P:Program) (d:Nat) (t:TypeId) (ks:List TK):Prop:=∀(D:Nat),d≤D→∀(em:Bool) (w:World) (xs:List Value) (r:Bool),ni ks xs xs=some r→(Instr.checkKey em D t (tF P t xs)).run P w=.ok () w
theorem UD {d D:Nat}(IH:∀t ks,qy P d t=some ks→W0 P d t ks) (hd:d≤D) (em:Bool):∀(fs:List Field) (off:Nat) (ks:List TK),Ai (qy P d) P off fs=some ks→∀(w:World) (pre xs:List Value) (r:Bool),pre.length=off→ni ks xs xs=some r→
  (do for f in fs do if f.name≠ "_" then Instr.checkKey em D f.type (←part f.type (pre++xs).toArray f.offset):Sem Unit).run P w=.ok () w
 | [],off,ks,h,w,pre,xs,r,h1,he=>by simp
 | f::fs,off,ks,h,w,pre,xs,r,h1,he=>by
  simp only[Ai]at h;split at h
  ·rename_i k1 vp;split at h
   ·rename_i hc;obtain⟨hn,ho,hQ⟩:=hc;obtain⟨k2,ng,rfl⟩:=cJ h;have hlen:=(He he).1;rw[List.length_append]at hlen;have ex:xs=xs.take k1.length++xs.drop k1.length:=(List.take_append_drop _ _).symm;have lx:(xs.take k1.length).length=k1.length:=by rw[List.length_take];omega
    rw[ex]at he;obtain⟨b,c,e1,e2,rfl⟩:=Mc lx lx he;have p1:=JB (P:=P) (w:=w) vp hQ (pre:=pre) (xs:=xs.take k1.length) (post:=xs.drop k1.length) lx;have q:=IH _ _ vp D hd em w _ b e1;rw[List.append_assoc,←ex,h1]at p1;have rc:=UD IH hd em fs (off+k1.length) k2 ng w (pre++xs.take k1.length) (xs.drop k1.length) c (by rw[List.length_append,h1,lx]) e2;rw[List.append_assoc,←ex]at rc;rw[List.forIn_cons,ho];simp only[Sem.run_bind,hn,ne_eq,not_false_eq_true,if_true,Result.andThen_ok,p1,q,Sem.run_pure]at rc ⊢;exact rc
   cases h
  cases h
theorem UE:∀(d:Nat) (t:TypeId) (ks:List TK),qy P d t=some ks→W0 P d t ks
 | 0,t,ks,h=>by cases h
 | d+1,t,ks,h=>by
  intro D hD em w xs r he;obtain⟨D',rfl⟩:∃D',D=D'+1:=⟨D - 1,by omega⟩;unfold qy at h;unfold tF;cases hu:P.underlying t with
  | none=>rw[hu]at h;cases h
  | some dj=>
   rw[hu]at h;have plain:(∃k,ks=[k])→(∀n e,dj≠.array n e)→(∀fs,dj≠.struct fs)→(∀m,dj≠.interface m)→(Instr.checkKey em (D'+1) t (xs.headD undef)).run P w=.ok () w:=by
    rintro⟨k,rfl⟩ n1 n2 n3;cases dj<;>first
     | exact absurd rfl (n1 _ _)
     | exact absurd rfl (n2 _)
     | exact absurd rfl (n3 _)
     | simp[Instr.checkKey,run_underlying hu]
   cases dj<;>simp only at h<;>first
    | (cases h;done)
    | (cases h;exact plain ⟨_,rfl⟩ (by intros;simp) (by intros;simp) (by intros;simp))
    | skip
   rename_i fs;split at h
   ·rename_i hp;rw[Instr.checkKey];simp only[Sem.run_bind,run_underlying hu,Result.andThen_ok];rw[←Array.forIn_toList];have key:=UD (UE d) (D:=D') (by omega) em fs.toList 0 ks h w [] xs r rfl he;simp only[Sem.run_bind,Sem.run_pure,ne_eq,List.nil_append]at key ⊢;exact key
   cases h
theorem check_sound {K:Nat}{a:AV}{va:Value}(h:sk P K a=true) (ha:aL rd φ a va) (em:Bool) (w:World):(Instr.checkKey em 10000 K va).run P w=.ok () w:=by
 obtain⟨r,hr⟩:=Option.isSome_iff_exists.1 h;cases a with
 | agg xs=>
  obtain⟨ks,hk,he⟩:=cw hr;obtain⟨xa,rfl,pa⟩:=PW.mq ha;have hv:=Di pa pa he;obtain⟨fs,hu⟩:=TM hk;unfold jh at hk;rw[hu]at hk;simp only at hk;split at hk
  ·have:=UE 8 K ks hk 10000 (by omega) em w xa.toList r hv;unfold tF at this;rw[hu]at this
   simpa using this
  cases hk
 | _=>cases hr
theorem ahG {K:Nat}{k:AV}{vk:Value}(hk:aL rd φ k vk) (w:World):∀{es:List MapEntry}{C:MC},MR es C→∀{r:Option AV},oQ P K k C=some r→∀i,∃x,(Instr.findAsking K vk es i).run P w=.ok x w∧
  match r with
  | none=>x=none
  | some a=>∃j e,x=some (i+j,e.val)∧es[j]?=some e∧aL rd φ a e.val:=by
 intro es C h;induction h with
 | nil=>
  intro r hr i;simp only[oQ,Option.some.injEq]at hr;subst hr;exact⟨none,by simp[Instr.findAsking],rfl⟩
 | @cons e x l C h1 h2 t ih=>
  intro r hr i;simp only[oQ]at hr;split at hr
  ·rename_i hq;cases hr;have:=R5 hq hk (h1.rel (rd:=rd) (φ:=φ)) w;exact⟨some (i,e.val),by simp[Instr.findAsking,this],0,e,rfl,rfl,h2.rel⟩
  ·rename_i hq;have hq:=R5 hq hk (h1.rel (rd:=rd) (φ:=φ)) w;obtain⟨y,k1,k2⟩:=ih hr (i+1);refine⟨y,by simp[Instr.findAsking,hq,k1],?_⟩;cases r with
   | none=>exact k2
   | some a=>
    obtain⟨j,e',rfl,k3,k4⟩:=k2;exact⟨j+1,e',by rw[Nat.add_assoc,Nat.add_comm 1 j],by simpa using k3,k4⟩
  cases hr
theorem TA {K:Nat}{k:AV}{vk:Value}(hk:aL rd φ k vk) (aF:sk P K k=true) (w:World) {es:List MapEntry}{C:MC}(h:MR es C) {r:Option AV}(hr:oQ P K k C=some r):∃x,(Instr.findKey K vk es).run P w=.ok x w∧
  match r with
  | none=>x=none
  | some a=>∃j e,x=some (j,e.val)∧es[j]?=some e∧aL rd φ a e.val:=by
 have hw:(match P.underlying K with|some (.array _ _)|some (.struct _)=>true|_=>false)=true:=by
  obtain⟨r,hr⟩:=Option.isSome_iff_exists.1 aF;unfold xt at hr;split at hr
  ·obtain⟨ks,hk,he⟩:=cw hr;obtain⟨fs,hu⟩:=TM hk;rw[hu]
  cases hr
 rw[run_findKey_eq w hw];obtain⟨x,h1,h2⟩:=ahG hk w h hr 0;refine⟨x,h1,?_⟩;cases r with
 | none=>exact h2
 | some a=>
  obtain⟨j,e,rfl,k3,k4⟩:=h2;exact⟨j,e,by rw[Nat.zero_add],k3,k4⟩
abbrev gR (C:MC):Row:=⟨0,[],qP C,false⟩
theorem bp.aaX (h:bp rd φ O w0 σ w) (dJ:∀p,φ d G p=none):
  bp rd (dz φ d G fun p=>match p with|[]=>some ⟨some (w.heap.size,0),0⟩|_=>none) O w0 (bQ σ d (G,one (gR []))) (w.alloc (.map #[] 0))∧
  (∀r g p pl,φ r g p=some pl→dz φ d G (fun p=>match p with|[]=>some ⟨some (w.heap.size,0),0⟩|_=>none) r g p=some pl):=by
 have fL:∀r g p pl,φ r g p=some pl→dz φ d G (fun p=>match p with|[]=>some ⟨some (w.heap.size,0),0⟩|_=>none) r g p=some pl:=by
  intro r g p pl hp;unfold dz;rw[if_neg (by rintro⟨rfl,rfl⟩;rw[dJ]at hp;cases hp)];exact hp
 have ab:∀{r g p row pl b q},rowAt σ r g p=some row→φ r g p=some pl→pl.ad=some (b,q)→b<w.heap.size:=fun h1 h2 h3=>(h.own _ _ _ _ _ _ _ h1 h2 h3).2
 have ch:∀{r g p cq},rowAt (bQ σ d (G,one (gR []))) r g p=some cq→(d=r∧G=g∧[]=p∧gR []=cq)∨(rowAt σ r g p=some cq∧r≠d):=by
  intro r g p cq hr;rw[jy]at hr;by_cases hd:r=d
  ·rw[if_pos hd]at hr;by_cases hg:G=g
   ·rw[if_pos hg]at hr;obtain⟨h1,h2⟩:=pY hr;exact .inl ⟨hd.symm,hg,h1.symm,h2.symm⟩
   rw[if_neg hg]at hr;cases hr
  rw[if_neg hd]at hr;exact .inr ⟨hr,hd⟩
 have lE:dz φ d G (fun p=>match p with|[]=>some ⟨some (w.heap.size,0),0⟩|_=>none) d G []=some ⟨some (w.heap.size,0),0⟩:=by simp[dz]
 have hold:∀{r g p},r≠d→dz φ d G (fun p=>match p with|[]=>some ⟨some (w.heap.size,0),0⟩|_=>none) r g p=φ r g p:=by
  intro r g p hr;unfold dz;rw[if_neg (fun hh=>hr hh.1)]
 refine⟨⟨?_,?_,?_,?_,?_,?_,?_,h.os,h.tape,h.output⟩,fL⟩
 ·intro r g p cq hr;rcases ch hr with ⟨rfl,rfl,rfl,rfl⟩|⟨hr,hd⟩
  ·refine⟨_,lE,by simp,by simp,by simp,by simp,by intro b q hb k hk;simp at hk,by intro b q hb i j c hc;simp at hc,fun ha=>(by cases ha),fun C e=>⟨rfl,w.heap.size,rfl,?_⟩⟩;refine v9.enc (C:=[]) ⟨#[],0,?_,.nil⟩ e;show(w.heap.push _)[w.heap.size]?=_
   rw[Array.getElem?_push_size]
  obtain⟨pl,h1,h2⟩:=h.rows r g p cq hr;refine⟨pl,by rw[hold hd];exact h1,(h2.of_same (fun b q aK k=>⟨vM (ab hr h1 aK),G5 (ab hr h1 aK)⟩) fun b q aK es ck e=>by rw[Below.heap_alloc _ _ _ (ab hr h1 aK)];exact e).mono (fun _ _ _ h=>h) fL⟩
 ·intro r g p cq r' g' p' Y0 pl cV b q q' h1 h2 h3 h4 h5 h6;rcases ch h1 with ⟨rfl,rfl,rfl,rfl⟩|⟨h1,hd⟩<;>rcases ch h2 with ⟨rfl,rfl,rfl,rfl⟩|⟨h2,qo⟩
  ·exact⟨rfl,rfl⟩
  ·rw[lE]at h3;cases h3;cases h5;rw[hold qo]at h4;exact absurd (ab h2 h4 h6) (Nat.lt_irrefl _)
  ·rw[lE]at h4;cases h4;cases h6;rw[hold hd]at h3;exact absurd (ab h1 h3 h5) (Nat.lt_irrefl _)
  rw[hold hd]at h3;rw[hold qo]at h4;exact h.sep _ _ _ _ _ _ _ _ _ _ _ _ _ h1 h2 h3 h4 h5 h6
 ·intro b o v hv;have:=h.eh b o v hv;rw[vM (sZ (by rw[this];rfl))];exact this
 ·intro r g p cq pl b q h1 h2 h3 k dD;rcases ch h1 with ⟨rfl,rfl,rfl,rfl⟩|⟨h1,hd⟩
  ·rw[lE]at h2;cases h2;cases h3;cases hk:rd w.heap.size k with
   | none=>rfl
   | some v=>
    have:=sZ (w:=w) (b:=w.heap.size) (k:=k) (by rw[h.eh _ _ _ hk];rfl);exact absurd this (Nat.lt_irrefl _)
  rw[hold hd]at h2;exact h.et _ _ _ _ _ _ _ h1 h2 h3 k dD
 ·intro r g p cq pl b q h1 h2 h3;rw[World.size_alloc];rcases ch h1 with ⟨rfl,rfl,rfl,rfl⟩|⟨h1,hd⟩
  ·rw[lE]at h2;cases h2;cases h3;exact⟨.inr h.size,Nat.lt_succ_self _⟩
  rw[hold hd]at h2;obtain⟨ha,hb⟩:=h.own _ _ _ _ _ _ _ h1 h2 h3;exact⟨ha,by omega⟩
 ·intro b hb hO;rw[Below.heap_alloc _ _ _ (Nat.lt_of_lt_of_le hb h.size)];exact h.frame b hb hO
 rw[World.size_alloc];exact Nat.le_succ_of_le h.size
theorem bp.YP (h:bp rd φ O w0 σ w) {r g:Nat}{p:List Nat}{f:dZ}{C C':MC}(hl:bI σ r=some (g,f)) (hf:f p=some (gR C)) {pl:Pl}{b:Nat}(hφ:φ r g p=some pl) (aK:pl.ad=some (b,0)) {es:Array MapEntry}{ck:Nat}(hC:MR es.toList C') (iI:∃TL UC,w.heap[b]?=some (.map TL UC)):
  bp rd φ O w0 (bQ σ r (g,dB f p (gR C'))) {w with heap:=w.heap.setIfInBounds b (.map es ck)}:=by
 have cj:rowAt σ r g p=some (gR C):=by unfold rowAt;rw[hl];simp[hf]
 obtain⟨TL,UC,iI⟩:=iI;have adl:b<w.heap.size:=(Array.getElem?_eq_some_iff.1 iI).1;have bO:∀{b':Nat},b'≠b→(w.heap.setIfInBounds b (.map es ck))[b']?=w.heap[b']?:=fun hb=>by rw[Array.getElem?_setIfInBounds_ne (Ne.symm hb)]
 have ch:=fun {r2 g2 p2 bD} (hr:rowAt (bQ σ r (g,dB f p (gR C'))) r2 g2 p2=some bD)=>wI hl hr
 have lD:∀{r2 g2 p2 bD},rowAt (bQ σ r (g,dB f p (gR C'))) r2 g2 p2=some bD→∃x,rowAt σ r2 g2 p2=some x:=by
  intro r2 g2 p2 bD hr;rcases ch hr with ⟨rfl,rfl,rfl,rfl⟩|⟨h1,_⟩
  ·exact⟨_,cj⟩
  exact⟨_,h1⟩
 have cs:∀{b' k:Nat},b'≠b→World.cell? {w with heap:=w.heap.setIfInBounds b (.map es ck)} (cI b' k)=w.cell? (cI b' k):=fun hb=>by
  unfold World.cell?;rw[show(cI _ _).block=_ from rfl,bO hb]
 have fs:∀{b' k:Nat},b'≠b→World.frozen? {w with heap:=w.heap.setIfInBounds b (.map es ck)} (cI b' k)=w.frozen? (cI b' k):=fun hb=>by
  unfold World.frozen?;rw[show(cI _ _).block=_ from rfl,bO hb]
 refine⟨?_,?_,?_,?_,?_,?_,?_,h.os,h.tape,h.output⟩
 ·intro r2 g2 p2 bD hr;rcases ch hr with ⟨rfl,rfl,rfl,rfl⟩|⟨hr,hn⟩
  ·obtain⟨uO,sy,aF⟩:=h.rows _ _ _ _ cj;rw[hφ]at sy;cases sy;refine⟨pl,hφ,by simp,by simp,by simp,aF.nil,by intro b q hb k hk;simp at hk,by intro b q hb i j c hc;simp at hc,fun ha=>(by cases ha),fun D e=>⟨rfl,b,aK,?_⟩⟩;refine v9.enc (C:=C') ⟨es,ck,?_,hC⟩ e;show(w.heap.setIfInBounds b _)[b]?=_
   rw[Array.getElem?_setIfInBounds,if_pos rfl,if_pos adl]
  obtain⟨cX,h1,h2⟩:=h.rows r2 g2 p2 bD hr;have hb:∀b2 q2,cX.ad=some (b2,q2)→b2≠b:=fun b2 q2 sI e=>by
   subst e;exact hn (h.sep _ _ _ _ _ _ _ _ _ _ _ _ _ hr cj h1 hφ sI aK)
  exact⟨cX,h1,h2.of_same (fun b2 q2 sI k=>⟨cs (hb _ _ sI),fs (hb _ _ sI)⟩) fun b2 q2 sI es ck e=>by
   show(w.heap.setIfInBounds b _)[b2]?=_
   rw[bO (hb _ _ sI)];exact e⟩
 ·intro r1 g1 p1 fg r2 g2 p2 bD iZ cX b1 q1 q2 h1 h2 h3 h4 h5 h6;obtain⟨x1,e1⟩:=lD h1;obtain⟨x2,e2⟩:=lD h2;exact h.sep _ _ _ _ _ _ _ _ _ _ _ _ _ e1 e2 h3 h4 h5 h6
 ·intro b2 o2 v hv;rw[cs]
  ·exact h.eh _ _ _ hv
  rintro rfl;have:=h.et _ _ _ _ _ _ _ cj hφ aK o2 (.inl rfl);rw[this]at hv;cases hv
 ·intro r2 g2 p2 bD cX b2 q2 h1 h2 h3 k dD;rcases ch h1 with ⟨rfl,rfl,rfl,rfl⟩|⟨h1,_⟩
  ·exact h.et _ _ _ _ _ _ _ cj h2 h3 k (.inl rfl)
  exact h.et _ _ _ _ _ _ _ h1 h2 h3 k dD
 ·intro r2 g2 p2 bD cX b2 q2 h1 h2 h3;rw[show({w with heap:=w.heap.setIfInBounds b (.map es ck)}:World).heap.size=w.heap.size by simp];obtain⟨x1,e1⟩:=lD h1;exact h.own _ _ _ _ _ _ _ e1 h2 h3
 ·intro k hk hO;show(w.heap.setIfInBounds b _)[k]?=_
  rw[bO]
  ·exact h.frame k hk hO
  rintro rfl;rcases(h.own _ _ _ _ _ _ _ cj hφ aK).1 with hh|hh
  ·exact hO hh
  omega
 show w0.heap.size≤(w.heap.setIfInBounds b _).size
 rw[Array.size_setIfInBounds];exact h.size
def tG (P:Program) (t:Nat):Option (Nat × Nat):=match P.underlying t with
 | some (.map k e)=>some (k,e)
 | _=>none
theorem Rm {t K E:Nat}(h:tG P t=some (K,E)):P.underlying t=some (.map K E):=by
 unfold tG at h;split at h
 ·rename_i k e hu;cases h;exact hu
 cases h
def Ca (zv:Value) (ok:Bool):Option AV→AV
 | some a=>match ok with
  | true=>.ba [a,.sc (.bool true)]
  | false=>a
 | none=>match ok with
  | true=>.ba [v8 zv,.sc (.bool false)]
  | false=>v8 zv
def Eg (P:Program) (E:Nat):Option Value:=(P.info? E).bind fun i=>i.zero
def Ij (P:Program) (d G:Nat) (e:Operand→AV) (σ:aj) (op:Op) (v:AV) (σ':aj) (b:Bool):Prop:=
 (b=true∧∃t,op=.makeMap t none∧v=.mr d G []∧σ'=bQ σ d (G,one (gR [])))∨
 (b=false∧∃t x k ok K E r g p f C res zv,op=.lookup t x k ok∧tG P t=some (K,E)∧Eg P E=some zv∧e x=.mr r g p∧bI σ r=some (g,f)∧f p=some (gR C)∧sk P K (e k)=true∧oQ P K (e k) C=some res∧v=Ca zv ok res∧σ'=σ)∨
 (b=false∧∃t m k x K E r g p f C ck cx,op=.mapUpdate t m k x∧tG P t=some (K,E)∧e m=.mr r g p∧bI σ r=some (g,f)∧f p=some (gR C)∧sk P K (e k)=true∧oQ P K (e k) C=some none∧kB (e k)=some ck∧kB (e x)=some cx∧v=.dead∧σ'=bQ σ r (g,dB f p (gR (C++[(e k,e x)]))))
theorem MR.snoc {l:List MapEntry}{C:MC}(h:MR l C) {e:MapEntry}{x:AV × AV}(h1:wb e.key x.1) (h2:wb e.val x.2):MR (l++[e]) (C++[x]):=by
 induction h with
 | nil=>exact .cons h1 h2 .nil
 | cons a b _ ih=>exact .cons a b ih
theorem aff (h:bp rd φ O w0 σ w) (dJ:∀p,φ d G p=none) {ev:Operand→AV}{ρ:Operand→Value}(cT:∀x,aL rd φ (ev x) (ρ x)) {o:Oper}{v:AV}{σ':aj}{b:Bool}
  (ha:Ij P d G ev σ o.op v σ' b):yM rd φ O w0 d G b σ' v ((execOp ρ o).run P w):=by
 rcases ha with ⟨rfl,t,dV,rfl,rfl⟩|⟨rfl,t,x,k,ok,K,E,r,g,p,f,C,res,zv,dV,hT,hE,hx,hl,hf,hk,jE,rfl,rfl⟩|⟨rfl,t,m,k,x,K,E,r,g,p,f,C,ck,cx,dV,hT,hx,hl,hf,hk,jE,GN,GL,rfl,rfl⟩
 ·obtain⟨n1,n2⟩:=h.aaX dJ;refine⟨.value (.map (some w.heap.size)),.map (some w.heap.size),_,rd,_,?_,.inl rfl,.refl,n1,.mr d G [] ⟨some (w.heap.size,0),0⟩ w.heap.size (by simp[dz]) rfl,n2,fun r g p hh=>(rV r g p hh).imp id fun h=>⟨rfl,h⟩⟩;unfold execOp;rw[dV];simp only[Option.map_none,Sem.run_bind,run_makeMap,Result.andThen_ok,Sem.run_pure]
 ·have hu:=Rm hT;obtain⟨pl,hφ,aF⟩:=h.rows r g p (gR C) (by unfold rowAt;rw[hl];simp[hf]);obtain⟨-,b,aK,es,ck,hb,hM⟩:=aF.mp C rfl;have di:=cT x;rw[hx]at di;have hm:ρ x=.map (some b):=by
   cases hr:ρ x with
   | map a=>
    rw[hr]at di;cases di with
    | mr _ _ _ cV b' h1 h2=>rw[hφ]at h1;cases h1;rw[aK]at h2;cases h2;rfl
   | _=>rw[hr]at di;cases di
  obtain⟨y,qi,zQ⟩:=TA (cT k) hk w hM jE;have hc:=check_sound hk (cT k) es.isEmpty w;obtain⟨ii,xZ,xY⟩:=cw hE;have hz:(zeroValue E).run P w=.ok zv w:=by simp[zeroValue,typeInfo,xZ,xY]
  have eG:∃cv,(Instr.lookup t (ρ x) (ρ k) ok).run P w=.ok cv w∧aL rd φ (Ca zv ok res) cv:=by
   rw[hm];unfold Instr.lookup;simp only[Sem.run_bind,run_underlying hu,Result.andThen_ok,MapKept.run_getObj_map hb,Sem.run_pure,hc,qi];cases res with
   | none=>
    subst zQ;simp only[Sem.run_bind,hz,Result.andThen_ok,Sem.run_pure];cases ok with
    | true=>exact⟨_,rfl,PW.ba (PW.cons (NU zv) (PW.cons (.sc _ rfl) PW.nil))⟩
    | false=>exact⟨_,rfl,NU zv⟩
   | some a=>
    obtain⟨j,en,rfl,-,hv⟩:=zQ;simp only[Sem.run_bind,Result.andThen_ok,Sem.run_pure];cases ok with
    | true=>exact⟨_,rfl,PW.ba (PW.cons hv (PW.cons (.sc _ rfl) PW.nil))⟩
    | false=>exact⟨_,rfl,hv⟩
  obtain⟨cv,eG,hv⟩:=eG;unfold execOp;rw[dV];exact(kE.same h eG hv).next
 have hu:=Rm hT;obtain⟨pl,hφ,aF⟩:=h.rows r g p (gR C) (by unfold rowAt;rw[hl];simp[hf]);obtain⟨-,b,aK,es,Hq,hb,hM⟩:=aF.mp C rfl;have di:=cT m;rw[hx]at di;have hm:ρ m=.map (some b):=by
  cases hr:ρ m with
  | map a=>
   rw[hr]at di;cases di with
   | mr _ _ _ cV b' h1 h2=>rw[hφ]at h1;cases h1;rw[aK]at h2;cases h2;rfl
  | _=>rw[hr]at di;cases di
 obtain⟨y,qi,zQ⟩:=TA (cT k) hk w hM jE;subst zQ;have hc:=check_sound hk (cT k) false w;have eG:(Instr.mapUpdate t (ρ m) (ρ k) (ρ x)).run P w=.ok () {w with heap:=w.heap.setIfInBounds b (.map (es.push {key:=ρ k,val:=ρ x,born:=Hq}) (Hq+1))}:=by
  rw[hm];unfold Instr.mapUpdate;simp only[Sem.run_bind,run_underlying hu,Result.andThen_ok,MapKept.run_getObj_map hb,Sem.run_pure,hc,qi];exact MapKept.run_setObj_map _ hb
 have hn:=h.YP hl hf hφ aK (es:=es.push {key:=ρ k,val:=ρ x,born:=Hq}) (ck:=Hq+1) (C':=C++[(ev k,ev x)]) (by rw[Array.toList_push];exact hM.snoc (.of (cT k) GN) (.of (cT x) GL)) ⟨_,_,hb⟩;refine⟨.skip,undef,_,rd,φ,?_,.inr ⟨rfl,rfl⟩,.refl,hn,.dead _,fun _ _ _ _ h=>h,fun _ _ _ h=>.inl h⟩;unfold execOp;rw[dV];simp only[Sem.run_bind,eG,Result.andThen_ok,Sem.run_pure]
end
end
section
open Go Go.RowKit
set_option linter.unusedVariables false
def td (P:Program) (d G:Nat) (ev:Operand→AV) (σ:aj):Op→Option (AV × aj)
 | .buildSlice t len parts=>yK P d G σ t len (parts.toList.map fun x=>(x.1,ev x.2))
 | .convert s t x=>match tk P s with
  | some .string=>zg P d G σ t (ev x)
  | _=>none
 | .call c=>match c.callee,c.args.toList,c.argTypes.toList with
  | .builtin .append,[x,y],[t,tx]=>AO P d G σ t tx (ev x) (ev y)
  | .builtin .copy,[x,y],[t,tx]=>AL P σ t tx (ev x) (ev y)
  | _,_,_=>none
 | _=>none
section
variable {P:Program}{rd:RD}{φ:b9}{O:Nat→Prop}{w0 w:World}{σ:aj}{d G:Nat}
theorem agZ (w:World) (e:TypeId) (s:ByteArray):Lib.bytesWorld w e s=w.drew.alloc (.cells (Lib.bytesCells w e s) e ((Lib.bytesCells w e s).size,(Lib.bytesCells w e s).size+1)):=by
 have hh:(Lib.bytesWorld w e s).heap=(w.drew.alloc (.cells (Lib.bytesCells w e s) e ((Lib.bytesCells w e s).size,(Lib.bytesCells w e s).size+1))).heap:=by
  apply Array.ext_getElem?;intro i;rcases Nat.lt_trichotomy i w.heap.size with h|h|h
  ·rw[Lib.bytesWorld_at_old w e s i h];have:=Below.heap_alloc w.drew (.cells (Lib.bytesCells w e s) e ((Lib.bytesCells w e s).size,(Lib.bytesCells w e s).size+1)) i h;rw[this];rfl
  ·subst h;rw[Lib.bytesWorld_at_new];show _=(w.heap.push _)[w.heap.size]?
   rw[Array.getElem?_push_size]
  rw[Array.getElem?_eq_none (by rw[Lib.bytesWorld_size];omega),Array.getElem?_eq_none (by rw[World.size_alloc];show w.heap.size+1≤i;omega)]
 have fL:∀a b:World,a.heap=b.heap→a.tape=b.tape→a.drawn=b.drawn→a.os=b.os→a.output=b.output→a=b:=by
  rintro⟨⟩ ⟨⟩ h1 h2 h3 h4 h5;simp_all
 exact fL _ _ hh rfl rfl rfl rfl
theorem YY (h:bp rd φ O w0 σ w) (dJ:∀p,φ d G p=none) {s t:Nat}{x v:AV}{cx:Value}(hs:tk P s=some .string) (hx:aL rd φ x cx) {σ':aj}(ha:zg P d G σ t x=some (v,σ')):
  tl rd φ O w0 d G σ' v ((convert s t cx).run P w):=by
 unfold zg at ha;obtain⟨i,hi,cN⟩:=cw ha;split at cN
 ·rename_i b hk sD;cases cN;cases fq hx;have hu:P.underlying t=some (.slice i.el):=by
   obtain⟨i',fK,bW⟩:=jM hk;rw[hi]at fK;cases fK;exact qJ hi bW
  have he:P.underlying i.el=some (.int .u8):=by
   obtain⟨e,he,hk⟩:=jM sD;obtain⟨dj,h1,h2,_⟩:=mW he;rw[hk]at h2;cases dj<;>simp[kP]at h2;rw[h1,h2]
  rw[Lib.run_convert_string_bytes w s t i.el b (Bg hs) hu he,agZ];have bH:=grownCap_ge w b.size 0 i.el;have hl:(b.data.toList.map cW).length=b.size:=by rw[List.length_map,Array.length_toList];rfl
  have dg:(Lib.bytesCells w i.el b).size=grownCap w b.size 0 i.el:=by
   have:b.data.size=b.size:=rfl;simp[Lib.bytesCells,this];omega
  have hn:=h.drew.newRow dJ ⟨1,b.data.toList.map cW,2,false⟩ rfl (by show(2:Nat)<3;decide) (grownCap w b.size 0 i.el) (Lib.bytesCells w i.el b) i.el ((Lib.bytesCells w i.el b).size,(Lib.bytesCells w i.el b).size+1) (.inl (Nat.le_refl _))
   (fun e he=>by obtain⟨x,_,rfl⟩:=List.mem_map.1 he;rfl) (by rw[hl];exact bH) (by rw[dg,Nat.mul_one];exact Nat.le_refl _)
   (fun e he=>by obtain⟨x,_,rfl⟩:=List.mem_map.1 he;exact iB.BO (cW x))
   (fun a c u hc=>by
    simp only[List.getElem?_map]at hc;cases hb:b.data.toList[a]? with
    | none=>rw[hb]at hc;cases hc
    | some y=>
     rw[hb]at hc;cases c with
     | zero=>
      simp only[Option.map_some,Option.bind_some,cW,List.getElem?_cons_zero,Option.some.injEq]at hc;subst hc;have ab:a<b.data.size:=by
       rcases bm a b.data.size with hx|hx
       ·exact hx
       rw[List.getElem?_eq_none (by simpa using hx)]at hb;cases hb
      refine⟨.int .u8 y.toNat,?_,.sc _ rfl⟩;have qs:b.data[a]?=some y:=by rw[←hb];simp
      simp only[Lib.bytesCells,Nat.mul_one,Nat.add_zero];rw[Array.getElem?_append_left (by simpa using ab),Array.getElem?_map,qs];rfl
     | succ c=>simp[cW]at hc)
  refine⟨_,_,_,rfl,hn.1,?_,hn.2,fun r g p hh=>rV r g p hh⟩;have:=aL.au (rd:=rd) (φ:=dz φ d G fun p=>match p with|[]=>some ⟨some (w.heap.size,0),grownCap w b.size 0 i.el⟩|_=>none) d G [] 1 0 b.data.toList.length ⟨some (w.heap.size,0),grownCap w b.size 0 i.el⟩ (some (cI w.heap.size 0)) (by simp[dz]) (.inr (by simp)) (by rw[Array.length_toList];simpa using bH);have e1:b.data.toList.length=b.size:=by rw[Array.length_toList];rfl
  rw[e1]at this ⊢;exact this
 cases cN
theorem ahS (h:bp rd φ O w0 σ w) (dJ:∀p,φ d G p=none) {ev:Operand→AV}{ρ:Operand→Value}(cT:∀x,aL rd φ (ev x) (ρ x)) {o:Oper}{v:AV}{σ':aj}
  (ha:td P d G ev σ o.op=some (v,σ')):yM rd φ O w0 d G true σ' v ((execOp ρ o).run P w):=by
 unfold execOp;cases dV:o.op with
 | buildSlice t len parts=>
  rw[dV]at ha;exact(ahf h dJ cT ha).next
 | convert s t x=>
  rw[dV]at ha;simp only[td]at ha;split at ha
  ·rename_i hs;exact(YY h dJ hs (cT x) ha).next
  cases ha
 | call c=>
  rw[dV]at ha;simp only[td]at ha;split at ha
  ·rename_i x y t tx j0 eY jr;have h1:c.args=#[x,y]:=by rw[←Array.toList_inj,eY]
   have h2:c.argTypes=#[t,tx]:=by rw[←Array.toList_inj,jr]
   have key:=(ahI (ty:=o.type) h dJ (cT x) (cT y) ha).next
   have e1:Array.map ρ #[x,y]=#[ρ x,ρ y]:=by simp
   simp only[resolve,j0,h1,h2,e1];exact key
  ·rename_i x y t tx j0 eY jr;have h1:c.args=#[x,y]:=by rw[←Array.toList_inj,eY]
   have h2:c.argTypes=#[t,tx]:=by rw[←Array.toList_inj,jr]
   have key:=(ae4 (ty:=o.type) h (cT x) (cT y) ha).next (d:=d) (G:=G) (b:=true)
   have e1:Array.map ρ #[x,y]=#[ρ x,ρ y]:=by simp
   simp only[resolve,j0,h1,h2,e1];exact key
  cases ha
 | _=>rw[dV]at ha;cases ha
end
def aii (P:Program) (n d G:Nat) (σ:aj) (args:List AV) (v:AV) (σ':aj):Prop:=
 ∃σ1 as res rf,oP σ args=some (σ1,as)∧aR P n as res rf∧Bz rf=true∧v=nm d G res∧σ'=np σ1 d G rf
def W4 (P:Program) (n d G:Nat) (σ:aj) (args:List AV) (v:AV) (σ':aj):Prop:=
 ∃σ1 as res rf,oP σ args=some (σ1,as)∧aR P n as res rf∧(zq res=true∧zr rf=true)∧v=nm d G res∧σ'=np σ d G rf
def aif (P:Program) (n d G:Nat) (σ:aj) (args:List AV) (v:AV) (σ':aj):Prop:=
 ∃ms L σ1 as σin res σout,L=mN false σ 1 30 1000000 [] (qM ms args)∧(l7 L=true∧Cf L=true)∧rU (iy L) σ ms args=some (σ1,as)∧mi σ1 (iy L) L=some σin∧bb P n σin as res σout∧
  vC σout=true∧uR (oY L d G) (yr σ1 L) σout=some σ'∧v=zD (oY L d G) res
def aie (P:Program) (n d G:Nat) (σ:aj) (args:List AV) (v:AV) (σ':aj):Prop:=
 ∃ms L σ1 as σin res σout,L=mN false σ 1 30 1000000 [] (qM ms args)∧(l7 L=true∧Cf L=true)∧rU (iy L) σ ms args=some (σ1,as)∧mi σ1 (iy L) L=some σin∧mi σ (iy L) L=some σin∧bb P n σin as res σout∧
  (zq res=true∧Ah σout)∧vC σout=true∧uR (oY L d G) (yr σ L) σout=some σ'∧v=zD (oY L d G) res
def G7:Value→Option Nat
 | .func (.func n) first captured=>match first.toList,captured.toList with
  | [.agg a],[]=>match a.toList with
   | []=>some n
   | _=>none
  | _,_=>none
 | _=>none
theorem adU {n:Nat}:G7 (.func (.func n) #[.agg #[]] #[])=some n:=rfl
def DW (P:Program) (t:Nat):Option AV:=(ti P t).bind fun i=>match i.ag,i.sz with
 | true,0=>some (.agg [])
 | _,_=>none
def AJ (f:Nat):AV→Option AV
 | .agg []=>some (.sc (.func (.func f) #[.agg #[]] #[]))
 | _=>none
def AG (P:Program) (e:Operand→AV):Op→Option AV
 | .load t (.global g)=>DW P t
 | .makeFunc (.func f) first captured=>match first.toList,captured.toList with
  | [x],[]=>AJ f (e x)
  | _,_=>none
 | _=>none
def Af:AV→Option Nat
 | .sc v=>G7 v
 | _=>none
def W3 (P:Program) (d:Nat) (op:Op) (e:Operand→AV) (σ:aj) (G:Nat) (v:AV) (σ':aj) (b:Bool):Prop:=
 (jJ P d G e σ op=some (v,σ')∧b=uv op)∨(td P d G e σ op=some (v,σ')∧b=true)∨
 (b=true∧∃c n,op=.call c∧c.callee=.value (.func n)∧
  (aii P n d G σ (c.args.toList.map e) v σ'∨W4 P n d G σ (c.args.toList.map e) v σ'∨aif P n d G σ (c.args.toList.map e) v σ'∨aie P n d G σ (c.args.toList.map e) v σ'))∨
 (AG P e op=some v∧σ'=σ∧b=false)∨
 (b=true∧∃c n x,op=.call c∧c.callee=.value x∧Af (e x)=some n∧W4 P n d G σ (.agg []::c.args.toList.map e) v σ')∨
 Ij P d G e σ op v σ' b
def Can (P:Program) (o:Oper) (e:Operand→AV) (σ:aj) (G:Nat) (v:AV) (σ':aj) (b:Bool):Prop:=W3 P (o.dst.getD 0) o.op e σ G v σ' b
def qI (P:Program) (o:Oper) (s:St) (K:St→Prop):Prop:=∃v σ' b,Can P o (ev s) s.σ s.G v σ' b∧put s o.dst v σ' b K
def kG (P:Program) (ops:Array Oper) (o:Oper) (s:St) (K:St→Prop):Prop:=
 match o.guard with
 | none=>qI P o s K
 | some (j,want)=>match mh ops j with
  | none=>False
  | some t=>match bI s.tm t with
   | some (.sc (.bool b))=>Br b (Br want (qI P o s K) (put s o.dst (.ba []) s.σ false K)) (Br want (put s o.dst (.ba []) s.σ false K) (qI P o s K))
   | some (.ba [])=>put s o.dst (.ba []) s.σ false K
   | _=>False
def yW (P:Program) (ops:Array Oper):List Oper→St→(St→Prop)→Prop
 | [],s,Q=>Q s
 | o::os,s,Q=>kG P ops o s fun s'=>yW P ops os s' Q
section
variable {P:Program}{rd:RD}{φ:b9}{O:Nat→Prop}{w0 w:World}{s:St}{a:Act}
theorem aek {o:Oper}{c:Call}{n:Nat}(dV:o.op=.call c) (j0:c.callee=.value (.func n)) (nU:th P n):(execOp a.eval o).run P w=.ok (.enter n (c.args.map a.eval)) w:=by
 obtain⟨fn,jF,nV,CJ⟩:=nU;unfold execOp;rw[dV];have Ll:¬fn.name= "runtime.NumGoroutine" :=by simpa using nV
 have Lk:¬fn.body=none:=fun e=>by rw[e]at CJ;cases CJ
 simp[resolve,j0,Act.eval,Deferred.ofValue,invoke,callFunc,jF,Ll,Lk]
theorem adT {v:Value}{n:Nat}(h:G7 v=some n):v=.func (.func n) #[.agg #[]] #[]:=by
 unfold G7 at h;split at h
 ·rename_i m first captured
  split at h
  ·rename_i a h1 h2;split at h
   ·rename_i h3;cases h;have e1:first=#[.agg a]:=by rw[←Array.toList_inj,h1]
    have e2:captured=#[]:=by rw[←Array.toList_inj,h2]
    have e3:a=#[]:=by rw[←Array.toList_inj,h3]
    rw[e1,e2,e3]
   cases h
  cases h
 cases h
theorem adS {c:AV}{v:Value}{n:Nat}(hv:aL rd φ c v) (h:Af c=some n):v=.func (.func n) #[.agg #[]] #[]:=by
 unfold Af at h;split at h
 ·rw[fq hv];exact adT h
 cases h
theorem XZ {v:Value}(hv:aL rd φ (.agg []) v):v=.agg #[]:=by
 obtain⟨arr,rfl,hp⟩:=PW.mq hv;have:arr.toList=[]:=List.eq_nil_of_length_eq_zero hp.1.symm;rw[show arr=#[] by rw[←Array.toList_inj,this]]
theorem ahP {ρ:Operand→Value}{d G:Nat}{o:Oper}{v:AV}{e:Operand→AV}{σ:aj}(h:bp rd φ O w0 σ w) (hg:∀g,ρ (.global g)=.pointer (some ⟨g,0,none⟩)) (cT:∀x,aL rd φ (e x) (ρ x)) (ha:AG P e o.op=some v):
  yM rd φ O w0 d G false σ v ((execOp ρ o).run P w):=by
 unfold execOp;unfold AG at ha;split at ha
 ·rename_i t g dV;rw[dV];obtain⟨i,hi,ha⟩:=cw ha;split at ha
  ·rename_i h1 h2;cases ha;refine kE.next ?_;rw[hg];obtain⟨cv,eG,hv⟩:=Kt (P:=P) (rd:=rd) (φ:=φ) (w:=w) hi (cs:=[]) (b:=g) (q:=0) (fun j c hc=>by simp at hc) (o:=0) (v:=.agg []) (by simp[sj,h1,h2]);exact .same h eG hv
  cases ha
 ·rename_i f first captured dV
  rw[dV];split at ha
  ·rename_i x h1 h2;have e1:first=#[x]:=by rw[←Array.toList_inj,h1]
   have e2:captured=#[]:=by rw[←Array.toList_inj,h2]
   unfold AJ at ha;split at ha
   ·rename_i hx;cases ha;have di:=cT x;rw[hx]at di;have di:=XZ di;refine kE.next ?_;refine .same h (cv:=.func (.func f) #[.agg #[]] #[]) ?_ (.sc _ rfl);simp[Instr.makeFunc,e1,e2,di]
   cases ha
  cases ha
 cases ha
theorem ael {o:Oper}{c:Call}{n:Nat}{x:Operand}(dV:o.op=.call c) (j0:c.callee=.value x) (hx:a.eval x=.func (.func n) #[.agg #[]] #[]) (nU:th P n):(execOp a.eval o).run P w=.ok (.enter n (#[Value.agg #[]]++c.args.map a.eval)) w:=by
 obtain⟨fn,jF,nV,CJ⟩:=nU;unfold execOp;rw[dV];have Ll:¬fn.name= "runtime.NumGoroutine" :=by simpa using nV
 have Lk:¬fn.body=none:=fun e=>by rw[e]at CJ;cases CJ
 simp[resolve,j0,hx,Deferred.ofValue,invoke,callFunc,jF,Ll,Lk]
theorem IG {la:kD}(gW:mT O w0 la rd φ) {o:Oper}{K:St→Prop}{Q:Exit→Act→World→Prop}{next:Act→World→Prop}(h:Rel rd φ O w0 s a w)
  (hv:qI P o s K) (hn:∀s' a' w',K s'→ik la O w0 s' a' w'→next a' w'):o.wp P a w next Q:=by
 have dJ:∀p,φ (o.dst.getD 0) s.G p=none:=fun p=>by
  cases hp:φ (o.dst.getD 0) s.G p with
  | none=>rfl
  | some x=>exact absurd (h.gen _ s.G p (by rw[hp];simp)) (Nat.lt_irrefl _)
 obtain⟨v,σ',b,hc,hk⟩:=hv;have plain:∀{b:Bool},put s o.dst v σ' b K→yM rd φ O w0 (o.dst.getD 0) s.G b σ' v ((execOp a.eval o).run P w)→o.wp P a w next Q:=by
  rintro b hk ⟨nx,cv,w',rd',φ',h1,h2,hx,h3,h4,h5,h6⟩;obtain⟨s',hs,eR⟩:=h.put hk hx.1 h3 h4 h5 h6;unfold Oper.wp;rw[h1];rcases h2 with rfl|⟨rfl,rfl⟩
  ·exact hn _ _ _ hs ⟨rd',φ',gW.step hx h5,eR⟩
  exact hn _ _ _ hs ⟨rd',φ',gW.step hx h5,eR⟩
 rcases hc with ⟨ha,rfl⟩|⟨ha,rfl⟩|⟨rfl,c,n,dV,j0,hc⟩|⟨ha,rfl,rfl⟩|⟨rfl,c,n,x,dV,j0,Lh,hc⟩|LB
 ·exact plain hk (ahR h.heap dJ (fun x=>h.ev x) ha)
 ·exact plain hk (ahS h.heap dJ (fun x=>h.ev x) ha)
 ·have tW:PW rd φ (c.args.toList.map (ev s)) (c.args.map a.eval).toList:=by
   refine⟨by simp,fun j x hj=>?_⟩;rw[List.getElem?_map]at hj;obtain⟨y,hy,rfl⟩:=cJ hj;exact⟨a.eval y,by simp[hy],h.ev y⟩
  have fin:th P n∧Calls P n (c.args.map a.eval) w (fun e w'=>∃v s',e=.returned v∧K s'∧ik la O w0 s' (a.put o.dst v) w')→o.wp P a w next Q:=by
   rintro⟨nU,LF⟩;unfold Oper.wp;rw[aek dV j0 nU];show Calls P n _ w _
   refine LF.mono ?_;rintro e w' ⟨v,s',rfl,hk,eR⟩;exact hn _ _ _ hk eR
  rcases hc with ⟨σ1,as,res,rf,h1,h2,h3,rfl,rfl⟩|⟨σ1,as,res,rf,h1,h2,h3,rfl,rfl⟩|⟨ms,L,σ1,as,σin,res,σout,rfl,h2,h3,h4,h5,h6,h7,rfl⟩|⟨ms,L,σ1,as,σin,res,σout,rfl,h2,h3,h4,h5,h6,h7,h8,h9,rfl⟩
  ·exact fin (XJ gW h tW (ml h1 ⟨res,rf,h2,h3,hk⟩))
  ·exact fin (OH (d:=o.dst) gW h tW (ml h1 ⟨res,rf,h2,h3,hk⟩))
  ·exact fin (XH (ms:=ms) (d:=o.dst) gW h tW ⟨h2,ml h3 (ml h4 ⟨res,σout,h5,h6,ml h7 hk⟩)⟩)
  exact fin (XI (ms:=ms) (d:=o.dst) gW h tW ⟨h2,ml h3 (ml h4 ⟨h5,res,σout,h6,h7,h8,ml h9 hk⟩)⟩)
 ·exact plain hk (ahP h.heap (fun _=>rfl) (fun x=>h.ev x) ha)
 ·have tW:PW rd φ (AV.agg []::c.args.toList.map (ev s)) (#[Value.agg #[]]++c.args.map a.eval).toList:=by
   rw[Array.toList_append];refine PW.cons (PW.agg (arr:=#[]) PW.nil) ⟨by simp,fun j x hj=>?_⟩;rw[List.getElem?_map]at hj;obtain⟨y,hy,rfl⟩:=cJ hj;exact⟨a.eval y,by simp[hy],h.ev y⟩
  have fin:th P n∧Calls P n (#[Value.agg #[]]++c.args.map a.eval) w (fun e w'=>∃v s',e=.returned v∧K s'∧ik la O w0 s' (a.put o.dst v) w')→o.wp P a w next Q:=by
   rintro⟨nU,LF⟩;unfold Oper.wp;rw[ael dV j0 (adS (h.ev x) Lh) nU];show Calls P n _ w _
   refine LF.mono ?_;rintro e w' ⟨v,s',rfl,hk,eR⟩;exact hn _ _ _ hk eR
  obtain⟨σ1,as,res,rf,h1,h2,h3,rfl,rfl⟩:=hc;exact fin (OH (d:=o.dst) gW h tW (ml h1 ⟨res,rf,h2,h3,hk⟩))
 exact plain hk (aff h.heap dJ (fun x=>h.ev x) LB)
theorem IF {la:kD}(gW:mT O w0 la rd φ) {ops:Array Oper}{i:Nat}{o:Oper}(ho:ops[i]?=some o) {K:St→Prop}{Q:Exit→Act→World→Prop}{next:Act→World→Prop}(h:Rel rd φ O w0 s a w)
  (hv:kG P ops o s K) (hn:∀s' a' w',K s'→ik la O w0 s' a' w'→next a' w'):
  if Region.wanted o (yielded ops a.tmps) then o.wp P a w next Q∨(o.asks P a w∧LetsOut Q) else next (a.put o.dst undef) w:=by
 have skip:∀{s:St},Rel rd φ O w0 s a w→put s o.dst (.ba []) s.σ false K→next (a.put o.dst undef) w:=by
  intro s h hk;obtain⟨s',hs,eR⟩:=h.put hk (fun _ _ _ h=>h) h.heap (PW.ba (arr:=#[]) PW.nil) (fun _ _ _ _ h=>h) (fun _ _ _ h=>.inl h);exact hn _ _ _ hs ⟨rd,φ,gW,eR⟩
 unfold kG at hv;split at hv
 ·rename_i hg;have hw:Region.wanted o (yielded ops a.tmps)=true:=by simp[Region.wanted,hg]
  rw[if_pos hw];exact .inl (IG gW h hv hn)
 rename_i j want hg;split at hv
 ·cases hv
 rename_i t Gn;have Su:(ops[j]?).bind (·.dst)=some t:=by
  unfold mh at Gn;split at Gn
  ·rename_i hx;rw[hx];exact Gn
  cases Gn
 split at hv
 ·rename_i b hl;obtain⟨h1,_⟩:=h.known hl;have hw:Region.wanted o (yielded ops a.tmps)=(b==want):=by
   simp[Region.wanted,hg,yielded,Su,h1]
  cases b with
  | true=>
   rw[wc]at hv;cases want with
   | true=>rw[if_pos (by rw[hw];rfl)];exact .inl (IG gW h hv hn)
   | false=>rw[if_neg (by rw[hw];decide)];exact skip h hv
  | false=>
   rw[we]at hv;cases want with
   | false=>rw[if_pos (by rw[hw];rfl)];exact .inl (IG gW h hv hn)
   | true=>rw[if_neg (by rw[hw];decide)];exact skip h hv
 ·rename_i hl;have hv0:=h.tm t _ hl;have hw:Region.wanted o (yielded ops a.tmps)=false:=by
   obtain⟨arr,e,_⟩:=PW.tE hv0;have e2:∀b:Bool,a.tmps[t]?≠some (.bool b):=by
    intro b hb;rw[Array.getD_eq_getD_getElem?,hb]at e;cases e
   have e3:yielded ops a.tmps j=none:=by
    unfold yielded;rw[Su];split
    ·rename_i b hb;exact absurd hb (e2 b)
    rfl
   simp[Region.wanted,hg,e3]
  rw[if_neg (by rw[hw];decide)];exact skip h hv
 cases hv
theorem OG {rd:kD}{ops:Array Oper}{K:St→Prop}{Q:Exit→Act→World→Prop}(hn:∀s' a' w',K s'→ik rd O w0 s' a' w'→Q .normal a' w'):
  ∀(l:List Nat) (os:List Oper),l.map (ops[·]?)=os.map some→∀s a w,ik rd O w0 s a w→yW P ops os s K→wpOps P ops Q l a w
 | [],[],_,s,a,w,h,hv=>hn _ _ _ hv h
 | [],_::_,hl,_,_,_,_,_=>by cases hl
 | _::_,[],hl,_,_,_,_,_=>by cases hl
 | i::l,o::os,hl,s,a,w,⟨rd',φ,hx,h⟩,hv=>by
  simp only[List.map_cons,List.cons.injEq]at hl;simp only[wpOps,hl.1];exact IF hx hl.1 h hv fun s' a' w' hk hr=>OG hn l os hl.2 s' a' w' hr hk
theorem jP {s:St}{d:Option Nat}{v:AV}{σ:aj}{b:Bool}{K1 K2:St→Prop}(hk:∀s,K1 s→K2 s) (h:put s d v σ b K1):put s d v σ b K2:=by
 unfold put at h ⊢;cases d with
 | none=>exact hk _ h
 | some d=>
  simp only at h ⊢;split at h
  ·exact hk _ h
  cases h
theorem XF {o:Oper}{s:St}{K1 K2:St→Prop}(hk:∀s,K1 s→K2 s) (h:qI P o s K1):qI P o s K2:=by
 obtain⟨v,σ',b,h1,h2⟩:=h;exact⟨v,σ',b,h1,jP hk h2⟩
theorem EC {ops:Array Oper}{o:Oper}{s s':St}{K K':St→Prop}(hl:∀j w t,o.guard=some (j,w)→mh ops j=some t→bI s.tm t=bI s'.tm t) (h1:qI P o s K→qI P o s' K') (h2:put s o.dst (.ba []) s.σ false K→put s' o.dst (.ba []) s'.σ false K')
  (h:kG P ops o s K):kG P ops o s' K':=by
 unfold kG at h ⊢;cases hg:o.guard with
 | none=>rw[hg]at h;exact h1 h
 | some jw=>
  obtain⟨j,want⟩:=jw;rw[hg]at h;simp only at h ⊢;cases hs:mh ops j with
  | none=>rw[hs]at h;cases h
  | some t=>
   rw[hs]at h;simp only at h ⊢;rw[←hl j want t hg hs];split at h
   ·rename_i b hb;cases b<;>cases want<;>simp only[wc,we]at h ⊢<;>first|exact h1 h|exact h2 h
   ·exact h2 h
   cases h
theorem yU {ops:Array Oper}{o:Oper}{s:St}{K1 K2:St→Prop}(hk:∀s,K1 s→K2 s) (h:kG P ops o s K1):kG P ops o s K2:=
 EC (fun _ _ _ _ _=>rfl) (XF hk) (jP hk) h
def lR (s s':St):Prop:=s.n=s'.n∧s.σ=s'.σ∧s.G=s'.G∧∀t,bI s.tm t=bI s'.tm t
theorem lR.refl (s:St):lR s s:=⟨rfl,rfl,rfl,fun _=>rfl⟩
theorem lR.symm {s s':St}(h:lR s s'):lR s' s:=⟨h.1.symm,h.2.1.symm,h.2.2.1.symm,fun t=>(h.2.2.2 t).symm⟩
theorem lR.trans {s s' gG:St}(h:lR s s') (k:lR s' gG):lR s gG:=⟨h.1.trans k.1,h.2.1.trans k.2.1,h.2.2.1.trans k.2.2.1,fun t=>(h.2.2.2 t).trans (k.2.2.2 t)⟩
theorem lR.ev {s s':St}(h:lR s s'):ev s=ev s':=by
 funext x;cases x with
 | tmp t=>simp only[E.ev,h.2.2.2 t]
 | _=>rfl
def upto (K:St→Prop) (s:St):Prop:=∃t,lR t s∧K t
theorem OL {K:St→Prop}{s:St}(h:upto (upto K) s):upto K s:=by
 obtain⟨t,e,u,e2,hk⟩:=h;exact⟨u,e2.trans e,hk⟩
theorem Jv {s s':St}{d:Option Nat}{v:AV}{σ:aj}{b:Bool}{K:St→Prop}(h:lR s s') (hk:put s d v σ b K):put s' d v σ b (upto K):=by
 obtain⟨n,tm,σ0,G⟩:=s;obtain⟨n',tm',σ1,G'⟩:=s';obtain⟨h1,h2,h3,h4⟩:=h;simp only at h1 h2 h3 h4;subst h1;subst h2;subst h3;unfold put at hk ⊢;cases d with
 | none=>exact⟨⟨n,tm,σ,s9 b G⟩,⟨rfl,rfl,rfl,h4⟩,hk⟩
 | some d=>
  simp only at hk ⊢;split at hk
  ·exact⟨⟨n,(d,v)::tm,σ,s9 b G⟩,⟨rfl,rfl,rfl,fun t=>by simp only[gx,h4]⟩,hk⟩
  cases hk
theorem XG {o:Oper}{s s':St}{K:St→Prop}(h:lR s s') (hk:qI P o s K):qI P o s' (upto K):=by
 obtain⟨v,σ',b,h1,h2⟩:=hk;rw[h.ev,h.2.1,h.2.2.1]at h1;exact⟨v,σ',b,h1,Jv h h2⟩
theorem XA {ops:Array Oper}{o:Oper}{s s':St}{K:St→Prop}(h:lR s s') (hk:kG P ops o s K):kG P ops o s' (upto K):=
 EC (fun _ _ t _ _=>h.2.2.2 t) (XG h) (fun hp=>by rw[←h.2.1];exact Jv h hp) hk
def WM (y:Oper) (s s':St):Prop:=∃cy σ' G',s'=⟨s.n,cy++s.tm,σ',G'⟩∧((cy=[]∧y.dst=none)∨∃t u,y.dst=some t∧cy=[(t,u)])
theorem P5 {y:Oper}{s:St}{v:AV}{σ:aj}{b:Bool}{K:St→Prop}(h:put s y.dst v σ b K):put s y.dst v σ b fun s'=>K s'∧WM y s s':=by
 unfold put at h ⊢;cases hd:y.dst with
 | none=>rw[hd]at h;exact⟨h,[],σ,_,rfl,.inl ⟨rfl,hd⟩⟩
 | some d=>
  rw[hd]at h;simp only at h ⊢;split at h
  ·exact⟨h,[(d,v)],σ,_,rfl,.inr ⟨d,v,hd,rfl⟩⟩
  cases h
theorem OD {ops:Array Oper}{y:Oper}{s:St}{K:St→Prop}(h:kG P ops y s K):kG P ops y s fun s'=>K s'∧WM y s s':=
 EC (fun _ _ _ _ _=>rfl) (fun⟨v,σ',b,h1,h2⟩=>⟨v,σ',b,h1,P5 h2⟩) P5 h
end
def iu:Op→Bool
 | .move _|.assign _|.pick ..|.load ..|.fieldAddr ..|.extract ..|.nilCheck _|.binOp ..|.unOp ..|.convert ..|.indexAddr ..|.slice ..|.index ..|.field ..|.build ..|.buildSlice ..=>true
 | .call c=>match c.callee with
  | .builtin .len|.builtin .min|.builtin .max=>true
  | _=>false
 | _=>false
def Db:Op→Bool
 | .load ..|.indexAddr ..|.convert ..=>false
 | o=>iu o
def kL (P:Program) (σ:aj) (ev:Operand→AV) (op:Op):Option AV:=(jJ P 0 0 ev σ op).map (·.1)
theorem WH {P:Program}{d G:Nat}{ev:Operand→AV}{σ:aj}{op:Op}(h:iu op=true):jJ P d G ev σ op=(kL P σ ev op).map fun v=>(v,σ):=by
 unfold kL;cases op<;>simp[iu]at h<;>simp[jJ,Option.map_map,Function.comp_def];rename_i c;split at h
 ·rename_i hc;rw[hc];split<;>first|rfl|simp[Option.map_map,Function.comp_def]
 ·rename_i hc;rw[hc];split<;>first|rfl|simp[Option.map_map,Function.comp_def]
 ·rename_i hc;rw[hc];split<;>first|rfl|simp[Option.map_map,Function.comp_def]
 cases h
theorem aae {P:Program}{σ σ':aj}{ev:Operand→AV}{op:Op}(h:Db op=true):kL P σ ev op=kL P σ' ev op:=by
 unfold kL;cases op<;>simp[Db,iu]at h<;>simp[jJ,Option.map_map,Function.comp_def];rename_i c;split at h
 ·rename_i hc;rw[hc];split<;>first|rfl|simp[Option.map_map,Function.comp_def]
 ·rename_i hc;rw[hc];split<;>first|rfl|simp[Option.map_map,Function.comp_def]
 ·rename_i hc;rw[hc];split<;>first|rfl|simp[Option.map_map,Function.comp_def]
 cases h
theorem P9 {op:Op}(h:iu op=true):uv op=false:=by cases op<;>first|rfl|cases h
theorem J3 {e e':Operand→AV}{ps:Array (Nat × Operand)}(h:∀x∈ps,e x.2=e' x.2):(ps.toList.map fun x=>(x.1,e x.2))=ps.toList.map fun x=>(x.1,e' x.2):=
 List.map_congr_left fun x hx=>by rw[h x (by simpa using hx)]
theorem WI {P:Program}{d G:Nat}{e e':Operand→AV}{σ:aj}{op:Op}(h:∀x∈op.operands,e x=e' x):jJ P d G e σ op=jJ P d G e' σ op:=by
 cases op
 case call c=>
  simp only[Op.operands]at h;simp only[jJ];have hx:∀x∈c.args.toList,e x=e' x:=fun x hx=>h x (by simp[Call.operands];exact .inr (by simpa using hx))
  split
  ·rename_i x t h1 h2 h3;rw[hx x (by rw[h2];simp)]
  ·rename_i x y h1 h2;rw[hx x (by rw[h2];simp),hx y (by rw[h2];simp)]
  ·rename_i x y h1 h2;rw[hx x (by rw[h2];simp),hx y (by rw[h2];simp)]
  rfl
 case slice t x lo hi mx=>
  simp only[Op.operands]at h;simp only[jJ];have h1:e x=e' x:=h x (by simp);have h2:lo.map e=lo.map e':=by cases lo with|none=>rfl|some y=>simp[h y (by simp)]
  have h3:hi.map e=hi.map e':=by cases hi with|none=>rfl|some y=>simp[h y (by simp)]
  have h4:mx.map e=mx.map e':=by cases mx with|none=>rfl|some y=>simp[h y (by simp)]
  rw[h1,h2,h3,h4]
 case build t ps=>
  simp only[jJ];rw[J3 fun x hx=>h x.2 (by simp only[Op.operands];exact List.mem_toArray.2 (List.mem_map.2 ⟨x,by simpa using hx,rfl⟩))]
 case buildSlice t n ps=>
  simp only[jJ];rw[J3 fun x hx=>h x.2 (by simp only[Op.operands];exact List.mem_toArray.2 (List.mem_map.2 ⟨x,by simpa using hx,rfl⟩))]
 all_goals(simp only[Op.operands]at h;simp only[jJ])
 all_goals(first|rfl|(simp_all;done))
theorem ahT {P:Program}{d G:Nat}{e e':Operand→AV}{σ:aj}{op:Op}(h:∀x∈op.operands,e x=e' x):td P d G e σ op=td P d G e' σ op:=by
 cases op<;>try rfl
 case buildSlice t n ps=>
  simp only[td];rw[J3 fun x hx=>h x.2 (by simp only[Op.operands];exact List.mem_toArray.2 (List.mem_map.2 ⟨x,by simpa using hx,rfl⟩))]
 case convert s t x=>
  simp only[td,h x (by simp[Op.operands])]
 case call c=>
  simp only[Op.operands]at h;simp only[td];have hx:∀x∈c.args.toList,e x=e' x:=fun x hx=>h x (by simp[Call.operands];exact .inr (by simpa using hx))
  split
  ·rename_i x y t tx h1 h2 h3;rw[hx x (by rw[h2];simp),hx y (by rw[h2];simp)]
  ·rename_i x y t tx h1 h2 h3;rw[hx x (by rw[h2];simp),hx y (by rw[h2];simp)]
  rfl
theorem ahQ {P:Program}{e e':Operand→AV}{op:Op}(h:∀x∈op.operands,e x=e' x):AG P e op=AG P e' op:=by
 cases op<;>try rfl
 case load t x=>cases x<;>rfl
 case makeFunc f first captured=>
  cases f<;>try rfl
  simp only[AG];split
  ·rename_i x h1 h2;rw[h x (by simp only[Op.operands];rw[Array.mem_append];exact .inl (by rw[←Array.mem_toList_iff,h1];simp))]
  rfl
theorem aih {P:Program}{d G:Nat}{e e':Operand→AV}{σ σ':aj}{op:Op}{v:AV}{b:Bool}(h:∀x∈op.operands,e x=e' x) (hc:Ij P d G e σ op v σ' b):Ij P d G e' σ op v σ' b:=by
 rcases hc with h1|⟨rfl,t,x,k,ok,K,E,r,g,p,f,C,res,zv,rfl,hT,hE,hx,hl,hf,hk,jE,rfl,rfl⟩|⟨rfl,t,m,k,x,K,E,r,g,p,f,C,ck,cx,rfl,hT,hx,hl,hf,hk,jE,GN,GL,rfl,rfl⟩
 ·exact .inl h1
 ·rw[h x (by simp[Op.operands])]at hx;rw[h k (by simp[Op.operands])]at hk jE;exact .inr (.inl ⟨rfl,t,x,k,ok,K,E,r,g,p,f,C,res,zv,rfl,hT,hE,hx,hl,hf,hk,jE,rfl,rfl⟩)
 rw[h m (by simp[Op.operands])]at hx;rw[h k (by simp[Op.operands])]at hk jE GN ⊢;rw[h x (by simp[Op.operands])]at GL ⊢;exact .inr (.inr ⟨rfl,t,m,k,x,K,E,r,g,p,f,C,ck,cx,rfl,hT,hx,hl,hf,hk,jE,GN,GL,rfl,rfl⟩)
theorem aid {P:Program}{o:Oper}{e e':Operand→AV}{σ σ':aj}{G:Nat}{v:AV}{b:Bool}(h:∀x∈o.op.operands,e x=e' x) (hc:Can P o e σ G v σ' b):Can P o e' σ G v σ' b:=by
 rcases hc with ⟨h1,h2⟩|⟨h1,h2⟩|⟨hb,c,n,dV,j0,h1⟩|⟨h1,h2⟩|⟨hb,c,n,x,dV,j0,Lh,h1⟩|LB
 ·exact .inl ⟨by rw[←WI h];exact h1,h2⟩
 ·exact .inr (.inl ⟨by rw[←ahT h];exact h1,h2⟩)
 ·have:c.args.toList.map e=c.args.toList.map e':=List.map_congr_left fun x hx=>h x (by rw[dV];simp[Op.operands,Call.operands];exact .inr (by simpa using hx))
  rw[this]at h1;exact .inr (.inr (.inl ⟨hb,c,n,dV,j0,h1⟩))
 ·exact .inr (.inr (.inr (.inl ⟨by rw[←ahQ h];exact h1,h2⟩)))
 ·have:c.args.toList.map e=c.args.toList.map e':=List.map_congr_left fun x hx=>h x (by rw[dV];simp[Op.operands,Call.operands];exact .inr (by simpa using hx))
  rw[this]at h1;exact .inr (.inr (.inr (.inr (.inl ⟨hb,c,n,x,dV,j0,by rw[←h x (by rw[dV];simp[Op.operands,Call.operands,j0])];exact Lh,h1⟩))))
 exact .inr (.inr (.inr (.inr (.inr (aih h LB)))))
def o7 (P:Program) (ops:Array Oper) (σ:aj) (e:Operand→AV) (o:Oper):Option AV:=match o.guard with
 | none=>kL P σ e o.op
 | some (j,want)=>match mh ops j with
  | none=>none
  | some t=>match e (.tmp t) with
   | .sc (.bool b)=>match b==want with
    | true=>kL P σ e o.op
    | false=>some (.ba [])
   | .ba []=>some (.ba [])
   | _=>none
def yV (P:Program) (ops:Array Oper) (o:Oper) (s:St) (K:St→Prop):Prop:=cZ (o7 P ops s.σ (ev s) o) fun v=>put s o.dst v s.σ false K
theorem OE {P:Program}{ops:Array Oper}{o:Oper}{s:St}{K1 K2:St→Prop}(hk:∀s,K1 s→K2 s) (h:yV P ops o s K1):yV P ops o s K2:=by
 obtain⟨v,hv,h1⟩:=f7 h;exact ml hv (jP hk h1)
theorem XC {P:Program}{ops:Array Oper}{o:Oper}{s:St}{K:St→Prop}(h:iu o.op=true) (hv:yV P ops o s K):kG P ops o s K:=by
 have plain:∀{v},kL P s.σ (ev s) o.op=some v→put s o.dst v s.σ false K→qI P o s K:=fun h1 h2=>
  ⟨_,_,_,.inl ⟨by rw[WH h,h1];rfl,rfl⟩,by rw[P9 h];exact h2⟩
 obtain⟨v,h1,h2⟩:=f7 hv;unfold o7 at h1;unfold kG;cases hg:o.guard with
 | none=>rw[hg]at h1;exact plain h1 h2
 | some jw=>
  obtain⟨j,want⟩:=jw;rw[hg]at h1;simp only at h1 ⊢;cases hs:mh ops j with
  | none=>rw[hs]at h1;cases h1
  | some t=>
   rw[hs]at h1;simp only[ev]at h1 ⊢;cases hl:bI s.tm t with
   | none=>rw[hl]at h1;cases h1
   | some u=>
    rw[hl]at h1;cases u with
    | sc u=>
     cases u with
     | bool b=>
      cases b<;>cases want<;>simp only[wc,we]at h1 ⊢<;>first|exact plain h1 h2|(cases h1;exact h2)
     | _=>cases h1
    | ba vs=>
     cases vs with
     | nil=>cases h1;exact h2
     | cons=>cases h1
    | _=>cases h1
theorem EK {P:Program}{ops:Array Oper}{σ σ':aj}{e e':Operand→AV}{o:Oper}(hσ:kL P σ e o.op=kL P σ' e o.op) (ht:∀t∈o.looksAt ops,e (.tmp t)=e' (.tmp t)) (hn:∀x,(∀t,x≠.tmp t)→e x=e' x):o7 P ops σ e o=o7 P ops σ' e' o:=by
 have dV:kL P σ e o.op=kL P σ' e' o.op:=by
  rw[hσ];unfold kL;rw[WI fun x hx=>?_];by_cases aX:∃t,x=.tmp t
  ·obtain⟨t,rfl⟩:=aX;exact ht t (List.mem_append_left _ (List.mem_filterMap.2 ⟨.tmp t,by simpa using hx,rfl⟩))
  exact hn x fun t e=>aX ⟨t,e⟩
 unfold o7;split
 ·exact dV
 rename_i j want hg;cases hs:mh ops j with
 | none=>rfl
 | some t=>
  have:e (.tmp t)=e' (.tmp t):=ht t (by
   have tU:(ops[j]?).bind (·.dst)=some t:=by
    unfold mh at hs;split at hs
    ·rename_i hx;rw[hx];exact hs
    cases hs
   simp[Oper.looksAt,hg,tU])
  simp only[this,dV]
end
section
open Go Go.RowKit
set_option linter.unusedVariables false
inductive DT where
 | nil
 | pu (i:Nat) (t:DT)
 | ef (i:Nat) (rc:List Nat) (t:DT)
 | or (a b:DT)
def cG:DT→List Nat
 | .nil=>[]
 | .pu i t=>i::cG t
 | .ef i _ t=>i::cG t
 | .or a _=>cG a
def j9:DT→List (Nat × Option (List Nat))
 | .nil=>[]
 | .pu i t=>(i,none)::j9 t
 | .ef i rc t=>(i,some rc)::j9 t
 | .or a b=>j9 a++j9 b
def kU:DT→List Nat
 | .nil=>[]
 | .pu i _=>[i]
 | .ef i _ _=>[i]
 | .or a b=>kU a++kU b
def ahW (P:Program) (ops:Array Oper) (rc:List Nat) (s:St) (σ':aj):Prop:=∀k∈rc,∀x,ops[k]?=some x→o7 P ops σ' (ev s) x=o7 P ops s.σ (ev s) x
def gP (P:Program) (ops:Array Oper):DT→St→(St→Prop)→Prop
 | .nil,s,K=>K s
 | .pu i t,s,K=>match ops[i]? with
  | none=>False
  | some o=>iu o.op=true∧yV P ops o s fun s'=>gP P ops t s' K
 | .ef i rc t,s,K=>match ops[i]? with
  | none=>False
  | some o=>kG P ops o s fun s'=>ahW P ops rc s s'.σ∧gP P ops t s' K
 | .or a b,s,K=>gP P ops a s K∧gP P ops b s K
section
variable {P:Program}{ops:Array Oper}
theorem tt:∀{t:DT}{s:St}{K1 K2:St→Prop},(∀s,K1 s→K2 s)→gP P ops t s K1→gP P ops t s K2
 | .nil,s,K1,K2,hk,h=>hk _ h
 | .pu i t,s,K1,K2,hk,h=>by
  unfold gP at h ⊢;split at h
  ·cases h
  exact⟨h.1,OE (fun s' hs=>tt hk hs) h.2⟩
 | .ef i rc t,s,K1,K2,hk,h=>by
  unfold gP at h ⊢;split at h
  ·cases h
  exact yU (fun s' hs=>⟨hs.1,tt hk hs.2⟩) h
 | .or a b,s,K1,K2,hk,h=>⟨tt hk h.1,tt hk h.2⟩
theorem XD {o:Oper}{s s':St}{K:St→Prop}(h:lR s s') (hk:yV P ops o s K):yV P ops o s' (upto K):=by
 obtain⟨v,h1,h2⟩:=f7 hk;rw[h.ev,h.2.1]at h1;refine ml h1 ?_;rw[←h.2.1];exact Jv h h2
theorem Bb:∀{t:DT}{s s':St}{K:St→Prop},lR s s'→gP P ops t s K→gP P ops t s' (upto K)
 | .nil,s,s',K,e,h=>⟨s,e,h⟩
 | .pu i t,s,s',K,e,h=>by
  unfold gP at h ⊢;split at h
  ·cases h
  refine⟨h.1,OE (fun s2 hs=>?_) (XD e h.2)⟩;obtain⟨u,e2,hu⟩:=hs;exact Bb e2 hu
 | .ef i rc t,s,s',K,e,h=>by
  unfold gP at h ⊢;split at h
  ·cases h
  refine yU (fun s2 hs=>?_) (XA e h);obtain⟨u,e2,h1,hu⟩:=hs;refine⟨fun k hk x hx=>?_,Bb e2 hu⟩;have:=h1 k hk x hx
  rwa[e.ev,e.2.1,e2.2.1]at this
 | .or a b,s,s',K,e,h=>⟨Bb e h.1,Bb e h.2⟩
def WX (n d:Nat) (v:AV) (tm:List (Nat × AV)) (K:St→Prop) (s2:St):Prop:=∃cy σ' G',s2=⟨n,cy++tm,σ',G'⟩∧K ⟨n,cy++(d,v)::tm,σ',G'⟩
theorem L8 {n d G:Nat}{v:AV}{tm:List (Nat × AV)}{σ:aj}{x:Operand}(hx:x≠.tmp d):ev ⟨n,(d,v)::tm,σ,G⟩ x=ev ⟨n,tm,σ,G⟩ x:=by
 cases x with
 | tmp t=>
  simp only[ev,gx];rw[if_neg (fun e=>hx (by rw[e]))]
 | _=>rfl
theorem P6 {n d G:Nat}{v u:AV}{tm:List (Nat × AV)}{σ0 σ:aj}{dst:Option Nat}{b:Bool}{K:St→Prop}(h:put ⟨n,(d,v)::tm,σ0,G⟩ dst u σ b K):put ⟨n,tm,σ0,G⟩ dst u σ b (WX n d v tm K):=by
 unfold put at h ⊢;cases dst with
 | none=>exact⟨[],σ,_,rfl,h⟩
 | some t=>
  simp only at h ⊢;split at h
  ·exact⟨[(t,u)],σ,_,rfl,h⟩
  cases h
theorem Xz {y:Oper}{n d G:Nat}{v:AV}{tm:List (Nat × AV)}{σ:aj}{K:St→Prop}(hd:d ∉ y.looksAt ops) (h:kG P ops y ⟨n,(d,v)::tm,σ,G⟩ K):kG P ops y ⟨n,tm,σ,G⟩ (WX n d v tm K):=by
 have hy:∀x∈y.op.operands,x≠.tmp d:=by
  rintro x hx rfl;exact hd (List.mem_append_left _ (List.mem_filterMap.2 ⟨.tmp d,by simpa using hx,rfl⟩))
 refine EC (fun j w t hg ht=>?_) (fun hv=>?_) P6 h
 ·have bO:d≠t:=by
   rintro rfl;have tU:(ops[j]?).bind (·.dst)=some d:=by
    unfold mh at ht;split at ht
    ·rename_i hx;rw[hx];exact ht
    cases ht
   exact hd (by simp[Oper.looksAt,hg,tU])
  simp only[gx,if_neg bO]
 obtain⟨u,σ',b,h1,h2⟩:=hv;exact⟨u,σ',b,aid (fun x hx=>L8 (hy x hx)) h1,P6 h2⟩
inductive Fr (ops:Array Oper) (j:Nat) (o:Oper):Option (List Nat)→List Nat→DT→DT→Prop
 | pu {t}:Fr ops j o none [] (.pu j t) t
 | ef {rc t}:Fr ops j o (some rc) [] (.ef j rc t) t
 | rY {i x k D t t'} (hi:ops[i]?=some x) (ej:x.apart ops o=true) (sx:∀d,x.dst=some d→d ∉ x.looksAt ops) (hD:∀d∈D,d ∉ x.looksAt ops)
   (SL:Db x.op=true∨k=none∨∃rc,k=some rc∧i∈rc) (h:Fr ops j o k D t t'):Fr ops j o k (x.dst.toList++D) (.pu i t) (.pu i t')
 | left {k D a b t'} (h:Fr ops j o k D a t'):Fr ops j o k D (.or a b) t'
 | right {k D a b t'} (h:Fr ops j o k D b t'):Fr ops j o k D (.or a b) t'
def Ag (P:Program) (ops:Array Oper) (k:Option (List Nat)) (D:List Nat) (s:St) (σ':aj):Prop:=match k with
 | none=>σ'=s.σ
 | some rc=>∀i∈rc,∀x,ops[i]?=some x→(∀d∈D,d ∉ x.looksAt ops)→∀e:Operand→AV,(∀t∈x.looksAt ops,e (.tmp t)=ev s (.tmp t))→(∀y,(∀t,y≠.tmp t)→e y=ev s y)→o7 P ops σ' e x=o7 P ops s.σ e x
theorem Z7 {s:St}{d:Option Nat}{v:AV}{K:St→Prop}(h:put s d v s.σ false K):put s d v s.σ false fun s'=>s'.σ=s.σ∧K s':=by
 unfold put at h ⊢;cases d with
 | none=>exact⟨rfl,h⟩
 | some d=>
  simp only at h ⊢;split at h
  ·exact⟨trivial,h⟩
  cases h
theorem adP {j:Nat}{o:Oper}(ho:ops[j]?=some o) {k:Option (List Nat)}{D:List Nat}{t t':DT}(hf:Fr ops j o k D t t'):∀{s:St}{K:St→Prop},gP P ops t s K→kG P ops o s fun s'=>Ag P ops k D s s'.σ∧gP P ops t' s' (upto K):=by
 have up:∀{t:DT} {s:St} {K:St→Prop},gP P ops t s K→gP P ops t s (upto K):=fun h=>tt (fun s hk=>⟨s,.refl s,hk⟩) h
 induction hf with
 | pu=>
  intro s K h;unfold gP at h;rw[ho]at h;refine XC h.1 ?_;obtain⟨v,h1,h2⟩:=f7 h.2;exact ml h1 (jP (fun s' hs=>⟨hs.1,up hs.2⟩) (Z7 h2))
 | ef=>
  intro s K h;unfold gP at h;rw[ho]at h;refine yU (fun s' hs=>⟨fun i hi x hx hD e he hn=>?_,up hs.2⟩) h;have h1:=hs.1 i hi x hx;rw[EK (e:=e) (e':=ev s) rfl he hn,EK (e:=e) (e':=ev s) rfl he hn];exact h1
 | @rY i x k D t t' hi ej sx hD SL hf ih=>
  intro s K h;unfold gP at h;rw[hi]at h;obtain⟨hp,h⟩:=h;obtain⟨a1,a2,a3⟩:=Oper.apart_spec ej;obtain⟨v,hv,h1⟩:=f7 h;obtain⟨n,tm,σ,G⟩:=s;have OV:∀{s1:St} {σ':aj} {e:Operand→AV},s1.σ=σ→(∀t∈x.looksAt ops,ev s1 (.tmp t)=ev ⟨n,tm,σ,G⟩ (.tmp t))→Ag P ops k D s1 σ'→(∀t∈x.looksAt ops,e (.tmp t)=ev ⟨n,tm,σ,G⟩ (.tmp t))→(∀y,(∀t,y≠.tmp t)→e y=ev ⟨n,tm,σ,G⟩ y)→o7 P ops σ' e x=some v:=by
   intro s1 σ' e hσ pq l5 he hn;have h2:o7 P ops σ e x=some v:=by rw[←hv];exact EK rfl he hn
   rcases SL with dJ|rfl|⟨rc,rfl,xS⟩
   ·rw[←h2];refine EK (aae dJ) (fun _ _=>rfl) (fun _ _=>rfl)
   ·simp only[Ag]at l5;rw[l5,hσ];exact h2
   have:=l5 i xS x hi hD e (fun t ht=>by rw[he t ht,pq t ht]) (fun y hy=>by
    rw[hn y hy];cases y with
    | tmp t=>exact absurd rfl (hy t)
    | _=>rfl)
   rw[this,hσ];exact h2
  unfold put at h1;cases yc:x.dst with
  | none=>
   rw[yc]at h1;have h1:gP P ops t ⟨n,tm,σ,G⟩ K:=h1;refine yU ?_ (OD (ih h1));rintro s2 ⟨⟨l5,hk⟩,cy,σ',G',rfl,GK⟩;refine⟨by simpa using l5,?_⟩;unfold gP;rw[hi];refine⟨hp,ml (OV (s1:=⟨n,tm,σ,G⟩) rfl (fun _ _=>rfl) l5 (fun t ht=>?_) (fun y hy=>?_)) ?_⟩
   ·rcases GK with ⟨rfl,_⟩|⟨t',u,hy,rfl⟩
    ·rfl
    simp only[ev,List.cons_append,List.nil_append,gx];rw[if_neg];rintro rfl;exact a3 _ hy ht
   ·cases y with
    | tmp t=>exact absurd rfl (hy t)
    | _=>rfl
   unfold put;rw[yc];exact hk
  | some d=>
   rw[yc]at h1;simp only at h1;split at h1
   ·rename_i hb;have h1:gP P ops t ⟨n,(d,v)::tm,σ,G⟩ K:=h1;have pq:∀t∈x.looksAt ops,ev ⟨n,(d,v)::tm,σ,G⟩ (.tmp t)=ev ⟨n,tm,σ,G⟩ (.tmp t):=fun t ht=>L8 (fun e=>by cases e;exact sx d yc ht)
    refine yU ?_ (OD (Xz (a1 d yc) (ih h1)));rintro s2 ⟨⟨cy,σ',G',rfl,l5,hk⟩,hs⟩;obtain⟨cy2,σ2,G2,e,GK⟩:=hs;simp only[St.mk.injEq,true_and]at e;obtain⟨e1,rfl,rfl⟩:=e;have e1:=List.append_cancel_right e1;subst e1;refine⟨?_,?_⟩
    ·cases k with
     | none=>exact l5
     | some rc=>
      intro i' fK x' sn S8 e he hn;refine l5 i' fK x' sn (fun d' qo=>S8 d' (by simp[qo])) e (fun t ht=>?_) (fun y hy=>?_)
      ·rw[he t ht];exact(L8 (fun e=>by cases e;exact S8 d (by simp) ht)).symm
      rw[hn y hy];cases y with
      | tmp t=>exact absurd rfl (hy t)
      | _=>rfl
    unfold gP;rw[hi];refine⟨hp,ml (OV (s1:=⟨n,(d,v)::tm,σ,G⟩) rfl pq l5 (fun t ht=>?_) (fun y hy=>?_)) ?_⟩
    ·rcases GK with ⟨rfl,_⟩|⟨t',u,hy,rfl⟩
     ·rfl
     simp only[ev,List.cons_append,List.nil_append,gx];rw[if_neg];rintro rfl;exact a3 _ hy ht
    ·cases y with
     | tmp t=>exact absurd rfl (hy t)
     | _=>rfl
    unfold put;rw[yc];simp only[hb];refine tt (fun _ h=>OL h) (Bb (s:=⟨n,cy++(d,v)::tm,σ',G'⟩) ⟨rfl,rfl,rfl,fun t=>?_⟩ hk);rcases GK with ⟨rfl,_⟩|⟨t',u,hyd,rfl⟩
    ·rfl
    have bO:t'≠d:=fun e=>a2 d yc (by rw[hyd,e])
    simp only[List.cons_append,List.nil_append,gx];by_cases h1:t'=t
    ·subst h1;have h2:¬d=t':=fun e=>bO e.symm
     simp[h2]
    simp[h1]
   cases h1
 | left hf ih=>intro s K h;exact ih h.1
 | right hf ih=>intro s K h;exact ih h.2
def wy (o:Oper):List Nat:=(o.after.toList.filter fun e=>Region.binds .any e).map (·.on)
def waits (o:Oper) (k:Nat):Prop:=∃e∈o.after,Region.binds .any e=true∧e.on=k
theorem Ox {o:Oper}{k:Nat}:k∈wy o↔waits o k:=by
 unfold wy waits;simp only[List.mem_map,List.mem_filter,Array.mem_toList_iff];constructor
 ·rintro⟨e,⟨h1,h2⟩,h3⟩;exact⟨e,h1,h2,h3⟩
 rintro⟨e,h1,h2,h3⟩;exact⟨e,⟨h1,h2⟩,h3⟩
structure Static (ops:Array Oper) (A:Nat→List Nat):Prop where
 less:∀i o k,ops[i]?=some o→waits o k→k<i
 dY:∀i k,k∈A i→∃o j,ops[i]?=some o∧waits o j∧(j=k∨k∈A j)
def WZ (ops:Array Oper) (L:Array Bool):Prop:=∀j o k,L.getD j false=true→ops[j]?=some o→waits o k→L.getD k false=true
theorem ahK {A:Nat→List Nat}(hs:Static ops A) {L:Array Bool}(hc:WZ ops L):∀(i:Nat),(∀o k,ops[i]?=some o→waits o k→L.getD k false=true)→∀k∈A i,L.getD k false=true:=by
 intro i;induction i using Nat.strongRecOn with
 | _ i ih=>
  intro hp k hk;obtain⟨o,j,ho,hw,hj⟩:=hs.dY i k hk;have hL:=hp o j ho hw;rcases hj with rfl|hj
  ·exact hL
  exact ih j (hs.less i o j ho hw) (fun o' k' mF zS=>hc j o' k' hL mF zS) k hj
theorem Jl {L:Array Bool}{i:Nat}:i∈Region.ready .any ops L↔L.getD i true=false∧∃o,ops[i]?=some o∧∀k,waits o k→L.getD k false=true:=by
 rw[mem_ready];constructor
 ·rintro⟨h1,o,ho,h⟩;refine⟨h1,o,ho,?_⟩;rintro k ⟨e,he,hb,rfl⟩;exact h e he hb
 rintro⟨h1,o,ho,h⟩;exact⟨h1,o,ho,fun e he hb=>h e.on ⟨e,he,hb,rfl⟩⟩
theorem lR.rel {s s':St}(e:lR s s') {rd:kD}{O:Nat→Prop}{w0:World}{a:Act}{w:World}(h:ik rd O w0 s a w):ik rd O w0 s' a w:=by
 obtain⟨rd',φ,hx,h1,h2,h3,h4,h5⟩:=h;exact⟨rd',φ,hx,e.2.1▸h1,fun t v hl=>h2 t v ((e.2.2.2 t).trans hl),by rw[h3,e.1],h4,fun r g p hp=>e.2.2.1▸h5 r g p hp⟩
theorem adx {L:Array Bool}{k:Nat}(hk:k<L.size) (h:L.getD k false≠true):L.getD k true=false:=by
 simp only[Array.getD_eq_getD_getElem?,Array.getElem?_eq_getElem hk,Option.getD_some]at h ⊢
 simpa using h
structure WQ (ops:Array Oper) (A:Nat→List Nat) (i:Nat) (t:DT):Prop where
 ex:∃x,ops[i]?=some x
 self:∀x,ops[i]?=some x→∀d,x.dst=some d→d ∉ x.looksAt ops
 look:∀x,ops[i]?=some x→∀j∈cG t,∀o,ops[j]?=some o→∀d,o.dst=some d→d ∉ x.looksAt ops∨∀m∈cG t,m=j∨m∈A j
 OO:∀m∈cG t,m ∉ A i
 nodes:∀x,ops[i]?=some x→∀n∈j9 t,∀o,ops[n.1]?=some o→i∈A n.1∨(x.apart ops o=true∧(Db x.op=true∨n.2=none∨∃rc,n.2=some rc∧i∈rc))
def mo (ops:Array Oper) (A:Nat→List Nat):Bool→DT→Prop
 | _,.nil=>True
 | false,.pu i t=>i ∉ cG t∧WQ ops A i t∧mo ops A false t
 | true,.pu _ _=>False
 | false,.ef i rc t=>i ∉ cG t∧(∀j∈cG t,i∈A j)∧mo ops A false t
 | true,.ef i rc t=>i ∉ cG t∧mo ops A false t
 | f,.or a b=>mo ops A true a∧mo ops A true b∧((∀i,i∈cG a↔i∈cG b)∧(cG a).length=(cG b).length)∧(f=false→∀j∈cG a,∃h,(h∈kU a∨h∈kU b)∧(h=j∨h∈A j))
theorem GG {A:Nat→List Nat}:∀{t:DT}{f:Bool},mo ops A f t→∀h∈kU t,h∈cG t
 | .nil,_,_,h,hh=>by simp[kU]at hh
 | .pu i t,_,_,h,hh=>by simp[kU]at hh;simp[cG,hh]
 | .ef i rc t,_,_,h,hh=>by simp[kU]at hh;simp[cG,hh]
 | .or a b,f,ok,h,hh=>by
  have JK:mo ops A true a∧mo ops A true b∧(∀i,i∈cG a↔i∈cG b):=by cases f<;>exact⟨ok.1,ok.2.1,ok.2.2.1.1⟩
  simp only[kU,List.mem_append]at hh;simp only[cG];rcases hh with hh|hh
  ·exact GG JK.1 h hh
  exact(JK.2.2 h).2 (GG JK.2.1 h hh)
structure WK (ops:Array Oper) (A:Nat→List Nat) (j:Nat) (o:Oper) (t:DT) (k:Option (List Nat)) (D:List Nat) (t':DT):Prop where
 fr:Fr ops j o k D t t'
 ok:mo ops A false t'
 set:∀i,i∈cG t'↔i∈cG t∧i≠j
 node:(j,k)∈j9 t
 nodes:∀n∈j9 t',n∈j9 t
 len:(cG t').length<(cG t).length
 EM:∀d∈D,∃i∈cG t,(i≠j∧j ∉ A i)∧∃x,ops[i]?=some x∧x.dst=some d
theorem IV {A:Nat→List Nat}{j:Nat}{o:Oper}(ho:ops[j]?=some o):∀{t:DT},mo ops A true t→j∈kU t→∃k D t',WK ops A j o t k D t'
 | .nil,_,h=>by simp[kU]at h
 | .pu i t,ok,_=>ok.elim
 | .ef i rc t,ok,h=>by
  simp only[kU,List.mem_singleton]at h;subst h;exact⟨some rc,[],t,.ef,ok.2,fun i=>by simp only[cG,List.mem_cons];exact⟨fun h=>⟨.inr h,fun e=>ok.1 (e▸h)⟩,fun h=>h.1.resolve_left h.2⟩,by simp[j9],fun n hn=>by simp[j9,hn],by simp[cG],by simp⟩
 | .or a b,ok,h=>by
  simp only[kU,List.mem_append]at h;rcases h with h|h
  ·obtain⟨k,D,t',h1⟩:=IV ho ok.1 h;exact⟨k,D,t',.left h1.fr,h1.ok,h1.set,by simp[j9,h1.node],fun n hn=>by simp[j9,h1.nodes n hn],h1.len,h1.EM⟩
  obtain⟨k,D,t',h1⟩:=IV ho ok.2.1 h;refine⟨k,D,t',.right h1.fr,h1.ok,fun i=>?_,by simp[j9,h1.node],fun n hn=>by simp[j9,h1.nodes n hn],by rw[show cG (.or a b)=cG a from rfl,ok.2.2.1.2];exact h1.len,fun d hd=>?_⟩
  ·rw[h1.set,show cG (.or a b)=cG a from rfl,ok.2.2.1.1]
  obtain⟨i,hi,x⟩:=h1.EM d hd;exact⟨i,(ok.2.2.1.1 i).2 hi,x⟩
theorem OP {A:Nat→List Nat}{j:Nat}{o:Oper}(ho:ops[j]?=some o):∀{t:DT},mo ops A false t→j∈cG t→(∀k∈A j,k ∉ cG t)→∃k D t',WK ops A j o t k D t'
 | .nil,_,h,_=>by simp[cG]at h
 | .pu i t,ok,h,hA=>by
  obtain⟨wT,om,wR⟩:=ok;by_cases oH:i=j
  ·subst oH;exact⟨none,[],t,.pu,wR,fun i'=>by simp only[cG,List.mem_cons];exact⟨fun h=>⟨.inr h,fun e=>wT (e▸h)⟩,fun h=>h.1.resolve_left h.2⟩,by simp[j9],fun n hn=>by simp[j9,hn],by simp[cG],by simp⟩
  have hj:j∈cG t:=by
   simp only[cG,List.mem_cons]at h;exact h.resolve_left fun e=>oH e.symm
  obtain⟨k,D,t',h1⟩:=OP ho wR hj (fun k hk cc=>hA k hk (by simp[cG,cc]));obtain⟨x,hx⟩:=om.ex;have hn:=(om.nodes x hx (j,k) h1.node o ho).resolve_left fun cc=>hA i cc (by simp[cG])
  refine⟨k,x.dst.toList++D,.pu i t',.rY hx hn.1 (om.self x hx) (fun d hd=>?_) hn.2 h1.fr,⟨fun cc=>wT ((h1.set i).1 cc).1,⟨⟨x,hx⟩,om.self,fun y hy j' iH o' mF d hd=>(om.look y hy j' ((h1.set j').1 iH).1 o' mF d hd).imp id fun gh m hm=>gh m ((h1.set m).1 hm).1,fun m hm=>om.OO m ((h1.set m).1 hm).1,fun y hy n hn=>om.nodes y hy n (h1.nodes n hn)⟩,h1.ok⟩,fun i'=>?_,by simp[j9,h1.node],fun n hn=>?_,by simpa[cG]using h1.len,fun d hd=>?_⟩
  ·obtain⟨i',fK,⟨bO,hnA⟩,y,hy,qo⟩:=h1.EM d hd;rcases om.look x hx i' fK y hy d qo with K9|gh
   ·exact K9
   rcases gh j hj with rfl|cc
   ·exact absurd rfl bO
   exact absurd cc hnA
  ·simp only[cG,List.mem_cons,h1.set];constructor
   ·rintro(rfl|h)
    ·exact⟨.inl rfl,oH⟩
    exact⟨.inr h.1,h.2⟩
   rintro⟨rfl|h,h2⟩
   ·exact .inl rfl
   exact .inr ⟨h,h2⟩
  ·simp only[j9,List.mem_cons]at hn ⊢;exact hn.imp id (h1.nodes n)
  rcases List.mem_append.1 hd with hd|hd
  ·exact⟨i,by simp[cG],⟨oH,om.OO j hj⟩,x,hx,by simpa using hd⟩
  obtain⟨i',fK,y⟩:=h1.EM d hd;exact⟨i',by simp[cG,fK],y⟩
 | .ef i rc t,ok,h,hA=>by
  obtain⟨wT,om,wR⟩:=ok;by_cases oH:i=j
  ·subst oH;exact⟨some rc,[],t,.ef,wR,fun i'=>by simp only[cG,List.mem_cons];exact⟨fun h=>⟨.inr h,fun e=>wT (e▸h)⟩,fun h=>h.1.resolve_left h.2⟩,by simp[j9],fun n hn=>by simp[j9,hn],by simp[cG],by simp⟩
  have hj:j∈cG t:=by
   simp only[cG,List.mem_cons]at h;exact h.resolve_left fun e=>oH e.symm
  exact absurd (by simp[cG]) (hA i (om j hj))
 | .or a b,ok,h,hA=>by
  obtain⟨wT,om,wR,ok4⟩:=ok;obtain⟨h0,hh,hj⟩:=ok4 rfl j h;have cc:h0∈cG (.or a b):=hh.elim (fun h=>GG wT h0 h) (fun h=>(wR.1 h0).2 (GG om h0 h));rcases hj with rfl|hj
  ·exact IV (t:=.or a b) ho ⟨wT,om,wR,fun h=>by cases h⟩ (by simpa[kU]using hh)
  exact absurd cc (hA h0 hj)
theorem Xy {rd:kD}{O:Nat→Prop}{w0:World}{K:St→Prop}{Q:Exit→Act→World→Prop}{A:Nat→List Nat}(hs:Static ops A) (hn:∀s a w,K s→ik rd O w0 s a w→Q .normal a w):
  ∀(fuel:Nat) (L:Array Bool) (t:DT) (s:St) (a:Act) (w:World),mo ops A false t→(∀i,i∈cG t↔i<ops.size∧L.getD i true=false)→(cG t).length≤fuel→WZ ops L→
   ik rd O w0 s a w→gP P ops t s (upto K)→wpAny P .any ops Q fuel L a w:=by
 intro fuel;have fin:∀{t:DT} {s:St} {a:Act} {w:World},cG t=[]→ik rd O w0 s a w→gP P ops t s (upto K)→Q .normal a w:=by
  intro t;induction t with
  | nil=>
   intro s a w _ hr hv;obtain⟨t,e,hk⟩:=hv;exact hn t a w hk (e.symm.rel hr)
  | pu i t=>intro s a w h;cases h
  | ef i rc t=>intro s a w h;cases h
  | or a b iha=>intro s a w h hr hv;exact iha h hr hv.1
 induction fuel with
 | zero=>
  intro L t s a w aF hR hl hc hr hv;have h0:cG t=[]:=List.eq_nil_of_length_eq_zero (by omega);refine⟨?_,fin h0 hr hv⟩;apply List.eq_nil_iff_forall_not_mem.2;intro i hi;obtain⟨h1,o,ho,_⟩:=Jl.1 hi;have ab:i<ops.size:=(Array.getElem?_eq_some_iff.1 ho).1;have:=(hR i).2 ⟨ab,h1⟩;rw[h0]at this;simp at this
 | succ fuel ih=>
  intro L t s a w aF hR hl hc hr hv;refine⟨fun h0=>?_,fun i hi=>?_⟩
  ·cases sJ:cG t with
   | nil=>exact fin sJ hr hv
   | cons r R=>
    exfalso;have aaK:∀n,n ∉ cG t:=by
     intro n;induction n using Nat.strongRecOn with
     | _ n ihn=>
      intro cc;obtain⟨js,nP⟩:=(hR n).1 cc;have dg:n<L.size:=by
       rcases bm n L.size with hx|hx
       ·exact hx
       simp[Array.getElem?_eq_none hx]at nP
      have:n∈Region.ready .any ops L:=by
       refine Jl.2 ⟨nP,ops[n],by simp[js],fun k hk=>?_⟩;have hkr:=hs.less n ops[n] k (by simp[js]) hk;rcases Classical.em (L.getD k false=true) with hx|hx
       ·exact hx
       exact absurd ((hR k).2 ⟨by omega,adx (by omega) hx⟩) (ihn k hkr)
      rw[h0]at this;simp at this
    exact aaK r (by rw[sJ];simp)
  obtain⟨h1,o,ho,hw⟩:=Jl.1 hi;have ab:i<ops.size:=(Array.getElem?_eq_some_iff.1 ho).1;have hiR:=(hR i).2 ⟨ab,h1⟩;have ac1:i<L.size:=by
   rcases bm i L.size with hx|hx
   ·exact hx
   simp[Array.getElem?_eq_none hx]at h1
  obtain⟨k,D,t',gY⟩:=OP (A:=A) ho aF hiR (fun k hk cc=>by
   have h3:=ahK hs hc i (fun o' k' mF zS=>by rw[ho]at mF;cases mF;exact hw k' zS) k hk;have h4:=((hR k).1 cc).2;have acY:k<L.size:=by
    rcases bm k L.size with hx|hx
    ·exact hx
    simp[Array.getElem?_eq_none hx]at h4
   simp only[Array.getD_eq_getD_getElem?,Array.getElem?_eq_getElem acY,Option.getD_some]at h3 h4;rw[h3]at h4;cases h4)
  have acC:=adP ho gY.fr hv;obtain⟨rd',φ,hx,eR⟩:=hr;unfold wpOp;simp only[ho];refine IF hx ho eR acC fun s' a' w' hk fQ=>?_
  refine ih (L.setIfInBounds i true) t' s' a' w' gY.ok ?_ ?_ ?_ fQ (tt (fun _ h=>OL h) hk.2)
  ·intro j;rw[gY.set];constructor
   ·rintro⟨hj,bO⟩;have h2:=(hR j).1 hj;exact⟨h2.1,by rw[getD_set_ne true (fun e=>bO e.symm)];exact h2.2⟩
   rintro⟨h2,h3⟩;have CA:j≠i:=by
    rintro rfl;simp[ac1]at h3
   rw[getD_set_ne true (fun e=>CA e.symm)]at h3;exact⟨(hR j).2 ⟨h2,h3⟩,CA⟩
  ·have:=gY.len;omega
  intro j o' k hj mF zS;by_cases CA:i=j
  ·subst CA;rw[ho]at mF;cases mF;exact getD_set_true (hw k zS)
  rw[getD_set_ne false CA]at hj;exact getD_set_true (hc j o' k hj mF zS)
end
end
section
open Go Go.RowKit
set_option linter.unusedVariables false
def aI (s s':St):Prop:=∀(rd:kD) (O:Nat→Prop) (w0:World) (a:Act) (w:World),ik rd O w0 s a w→ik rd O w0 s' a w
theorem aI.rel {s s':St}(hw:aI s s') {rd:kD}{O:Nat→Prop}{w0 w:World}{a:Act}(h:ik rd O w0 s a w):ik rd O w0 s' a w:=hw _ _ _ _ _ h
theorem aI.refl (s:St):aI s s:=fun _ _ _ _ _ h=>h
theorem aI.trans {s s' gG:St}(h:aI s s') (k:aI s' gG):aI s gG:=fun _ _ _ _ _ x=>k _ _ _ _ _ (h _ _ _ _ _ x)
def iq (Q:Exit→St→Prop) (K:St→Prop):Exit→St→Prop
 | .normal,s=>K s
 | .exit id,s=>Q (.exit id) s
 | .goto l,s=>Q (.goto l) s
 | .ret,s=>Q .ret s
 | .panic c,s=>Q (.panic c) s
 | .outgrown,s=>Q .outgrown s
def lP (id:Nat) (Q:Exit→St→Prop):Exit→St→Prop
 | .normal,s=>Q .normal s
 | .exit kR,s=>match kR==id with
  | true=>Q .normal s
  | false=>Q (.exit kR) s
 | .goto l,s=>Q (.goto l) s
 | .ret,s=>Q .ret s
 | .panic c,s=>Q (.panic c) s
 | .outgrown,s=>Q .outgrown s
def AS (P:Program) (c:Code) (s:St) (Q:Exit→St→Prop):Prop:=∀(rd:kD) (O:Nat→Prop) (w0:World) (a:Act) (w:World),ik rd O w0 s a w→c.wp P (nt rd O w0 Q) a w
def vc (P:Program):Code→St→(Exit→St→Prop)→Prop
 | .skip,s,Q=>Q .normal s
 | .ret,s,Q=>Q .ret s
 | .exit id,s,Q=>Q (.exit id) s
 | .seq a b,s,Q=>vc P a s (iq Q fun s'=>∃gG,aI s' gG∧vc P b gG Q)∨AS P (.seq a b) s Q
 | .cond c x y,s,Q=>match ev s c with
  | .sc (.bool b)=>Br b (vc P x s Q) (vc P y s Q)
  | _=>False
 | .block id c,s,Q=>vc P c s (lP id Q)
 | .loop c,s,Q=>∃(I:Nat→St→Prop) (n:Nat) (s1:St),aI s s1∧I n s1∧∀m s2,I m s2→vc P c s2 (iq Q fun s3=>∃m' s4,m'<m∧aI s3 s4∧I m' s4)
 | .region _ ops draw,s,Q=>match draw with
  | false=>yW P ops ops.toList s (Q .normal)
  | true=>P.follows .mixedOrders=true∧∃(t:DT) (A:Nat→List Nat),Static ops A∧mo ops A false t∧(∀i,i∈cG t↔i<ops.size)∧(cG t).length≤ops.size∧gP P ops t s (Q .normal)
 | _,_,_=>False
theorem Oh {P:Program}{Q:Exit→Act→World→Prop}{c:Code}(I:Nat→Act→World→Prop)
  (round:∀n a w,I n a w→c.wp P (Exit.then (fun a' w'=>∃m,m<n∧I m a' w') Q) a w) (n:Nat) (a:Act) (w:World) (h:I n a w):(Code.loop c).wp P Q a w:=by
 intro b k cs;have key:∀n a w,I n a w→∃e a' w',Q e a' w'∧Arrives P (lone (b.at a (.code c::.inLoop c::k)) cs w) b k cs e a' w':=by
  intro n;induction n using Nat.strongRecOn with
  | _ n ih=>
   intro a w hI;obtain⟨e,a1,w1,hq,GR⟩:=round n a w hI b (.inLoop c::k) cs;cases e with
   | normal=>
    obtain⟨m,hm,hI1⟩:=hq;obtain⟨e2,a2,w2,KU,adq⟩:=ih m hm a1 w1 hI1;exact⟨e2,a2,w2,KU,.of_steps (Steps.trans GR (.one step_inLoop)) adq⟩
   | _=>exact⟨_,a1,w1,hq,.pass (x:=.inLoop c) rfl (fun _ _=>.inl (by simp)) GR⟩
 obtain⟨e,a',w',hq,GR⟩:=key n a w h;exact⟨e,a',w',hq,.of_steps (.one step_loop) GR⟩
theorem P2 (ops:Array Oper):(List.range ops.size).map (ops[·]?)=ops.toList.map some:=by
 apply List.ext_getElem?;intro i;rw[List.getElem?_map,List.getElem?_map];rcases bm i ops.size with h|h
 ·rw[List.getElem?_range h];simp[h]
 rw[List.getElem?_eq_none (by simpa using h),List.getElem?_eq_none (by simpa using h)];rfl
theorem rQ {P:Program}{rd:kD}{O:Nat→Prop}{w0:World}:∀(c:Code) (s:St) (Q:Exit→St→Prop),vc P c s Q→∀a w,ik rd O w0 s a w→c.wp P (nt rd O w0 Q) a w
 | .skip,s,Q,hv,a,w,h=>wp_skip ⟨s,hv,h⟩
 | .ret,s,Q,hv,a,w,h=>wp_ret ⟨s,hv,h⟩
 | .exit id,s,Q,hv,a,w,h=>wp_exit ⟨s,hv,h⟩
 | .seq x y,s,Q,hv,a,w,h=>by
  rcases hv with hv|hv
  case inr=>exact hv _ _ _ _ _ h
  refine wp_seq (wp_mono (rQ x s _ hv a w h) ?_);rintro e a' w' ⟨s',hk,hr⟩;cases e with
  | normal=>
   obtain⟨gG,hw,hk⟩:=hk;exact rQ y gG Q hk a' w' (hw.rel hr)
  | _=>exact⟨s',hk,hr⟩
 | .cond c x y,s,Q,hv,a,w,h=>by
  simp only[vc]at hv;split at hv
  ·rename_i b hb;obtain⟨rd',φ,hx,eR⟩:=h;have cT:=eR.ev c;rw[hb]at cT;have cT:=fq cT;cases b with
   | true=>exact wp_cond_true cT (rQ x s Q hv a w ⟨rd',φ,hx,eR⟩)
   | false=>exact wp_cond_false cT (rQ y s Q hv a w ⟨rd',φ,hx,eR⟩)
  cases hv
 | .block id c,s,Q,hv,a,w,h=>by
  refine wp_block (wp_mono (rQ c s _ hv a w h) ?_);rintro e a' w' ⟨s',hk,hr⟩;cases e with
  | exit kR=>
   simp only[lP]at hk;simp only[Exit.inBlock];by_cases t9:kR=id
   ·rw[if_pos t9];have:(kR==id)=true:=by simp[t9]
    rw[this]at hk;exact⟨s',hk,hr⟩
   rw[if_neg t9];have:(kR==id)=false:=by simp[t9]
   rw[this]at hk;exact⟨s',hk,hr⟩
  | _=>exact⟨s',hk,hr⟩
 | .loop c,s,Q,hv,a,w,h=>by
  obtain⟨I,n,s1,hw,hI,KR⟩:=hv;refine Oh (fun n a w=>∃s,I n s∧ik rd O w0 s a w) ?_ n a w ⟨s1,hI,hw.rel h⟩;rintro m a2 w2 ⟨s2,h2,nP⟩;refine wp_mono (rQ c s2 _ (KR m s2 h2) a2 w2 nP) ?_;rintro e a' w' ⟨s3,hk,hr⟩;cases e with
  | normal=>
   obtain⟨m',s4,ab,KK,hI4⟩:=hk;exact⟨m',ab,s4,hI4,KK.rel hr⟩
  | _=>exact⟨s3,hk,hr⟩
 | .region id ops draw,s,Q,hv,a,w,h=>by
  simp only[vc]at hv;cases draw with
  | false=>exact wp_region (OG (fun s' a' w' hk hr=>⟨s',hk,hr⟩) _ _ (P2 ops) s a w h hv)
  | true=>
   obtain⟨hm,t,A,h1,h2,h3,h4,h5⟩:=hv;refine wp_region_any hm (Xy h1 (fun s a w hk hr=>⟨s,hk,hr⟩) ops.size _ t s a _ h2 (fun i=>?_) h4 ?_ ?_ (tt (fun s hk=>⟨s,.refl s,hk⟩) h5))
   ·rw[h3];constructor
    ·intro hi;exact⟨hi,by simp[hi]⟩
    exact fun hi=>hi.1
   ·intro j o k hj;exfalso;simp only[Array.getD_eq_getD_getElem?,Array.getElem?_replicate]at hj;split at hj<;>simp at hj
   obtain⟨rd',φ,hx,hr⟩:=h;exact⟨rd',φ,hx,hr.heap.drew,hr.tm,hr.size,hr.defers,hr.gen⟩
 | .rangeFunc ..,s,Q,hv,a,w,h=>by cases hv
 | .scope _,s,Q,hv,a,w,h=>by cases hv
 | .label _,s,Q,hv,a,w,h=>by cases hv
 | .goto _,s,Q,hv,a,w,h=>by cases hv
 | .refuse _,s,Q,hv,a,w,h=>by cases hv
def NP (σ:aj) (tm:List (Nat × AV)):List Nat→d6→d6
 | [],acc=>acc
 | t::ks,acc=>NP σ tm ks (mN true σ 10000 20 t acc (zA (match bI tm t with
  | some v=>v
  | none=>.dead)))
def xg (N:NF):List (Nat × AV)→List (Nat × AV)
 | []=>[]
 | (t,v)::l=>(t,mapA N v)::xg N l
def Du (s:St) (ks:List (Nat × AV)) (L:d6):Bool→Option aj→St
 | true,some σ'=>⟨s.n,xg (iy L) ks,σ',1⟩
 | _,_=>⟨s.n,[],[],s.G⟩
def Il (L:d6):Bool:=L.all fun x=>Nat.beq x.2.2 0
def MG (s:St) (ks:List Nat):d6:=NP s.σ s.tm ks (mN true s.σ 1 20 900000 (wD s.σ) (Bu s.σ (wD s.σ)))
def s7 (s:St) (ks:List (Nat × AV)) (L:d6):St:=Du s ks L (l7 L&&(Il L&&Bj L)) (mi s.σ (iy L) L)
def wO (φ:b9) (L:d6):b9:=fun r g p=>match sh L r g with
 | some x=>φ x.1 x.2 p
 | none=>match Nat.beq g 0&&Nat.ble 1000000 r with
  | true=>φ r g p
  | false=>none
theorem Fj {φ:b9}{L:d6}:∀r g p pl,kM φ L r g p=some pl→wO φ L r g p=some pl:=by
 intro r g p pl h;unfold kM at h;unfold wO;split at h
 ·rename_i x hx
  first|exact h|(rw[hx];exact h)
 cases h
theorem Qn {φ:b9}{L:d6}(hs:Bj L=true):∀r p pl,φ r 0 p=some pl→1000000≤r→wO φ L r 0 p=some pl:=by
 intro r p pl h hr;unfold wO;split
 ·rename_i x hx;have h1:=List.all_eq_true.1 hs _ (Cc hx);simp only[Nat.ble_eq_true_of_le hr,Bool.and_eq_true]at h1;have e1:=Nat.eq_of_beq_eq_true h1.1;have e2:=Nat.eq_of_beq_eq_true h1.2;rw[e1,e2];exact h
 have:(Nat.beq 0 0&&Nat.ble 1000000 r)=true:=by rw[Nat.ble_eq_true_of_le hr];rfl
 rw[this];exact h
theorem bp.Qo {rd:RD}{φ φ':b9}{O:Nat→Prop}{w0 w:World}{σ:aj}(h:bp rd φ O w0 σ w) (hs:∀r g p pl,φ r g p=some pl→φ' r g p=some pl):bp rd φ' O w0 σ w:=by
 have same:∀{r g p row pl},rowAt σ r g p=some row→φ' r g p=some pl→φ r g p=some pl:=by
  intro r g p row pl hr hp;obtain⟨cV,h1,_⟩:=h.rows _ _ _ _ hr;rw[hs _ _ _ _ h1]at hp;cases hp;exact h1
 exact⟨fun r g p row hr=>by obtain⟨pl,h1,h2⟩:=h.rows _ _ _ _ hr;exact⟨pl,hs _ _ _ _ h1,h2.mono (fun _ _ _ h=>h) hs⟩,
  fun r g p row r' g' p' cq pl cV b q q' h1 h2 h3 h4=>h.sep _ _ _ _ _ _ _ _ _ _ _ _ _ h1 h2 (same h1 h3) (same h2 h4),h.eh,fun r g p row pl b q h1 h2=>h.et _ _ _ _ _ _ _ h1 (same h1 h2),
  fun r g p row pl b q h1 h2=>h.own _ _ _ _ _ _ _ h1 (same h1 h2),h.frame,h.size,h.os,h.tape,h.output⟩
theorem Kn {N:NF}:∀{l:List (Nat × AV)}{t:Nat}{v:AV},bI (xg N l) t=some v→∃u,bI l t=some u∧v=mapA N u
 | [],_,_,h=>by cases h
 | (k,u)::l,t,v,h=>by
  simp only[xg,gx]at h ⊢;split at h
  ·rename_i hk;rw[if_pos hk];cases h;exact⟨u,rfl,rfl⟩
  rename_i hk;rw[if_neg hk];exact Kn h
theorem aI.s7 {s:St}{ks:List (Nat × AV)}(Cz:∀t v,bI ks t=some v→∀(rd:RD) (φ:b9) (O:Nat→Prop) (w0:World) (a:Act) (w:World),Rel rd φ O w0 s a w→aL rd φ v (a.tmps.getD t undef)) (L:d6):aI s (E.s7 s ks L):=by
 intro rd O w0 a w ⟨rd',φ,hx,h⟩;have QK:ik rd O w0 ⟨s.n,[],[],s.G⟩ a w:=by
  have eH:∀{r g p row},rowAt ([]:aj) r g p=some row→False:=by
   intro r g p row hr;simp[rowAt,bI]at hr
  exact⟨rd',φ,hx,⟨fun r g p row hr=>(eH hr).elim,fun r g p row r' g' p' cq pl cV b q q' hr=>(eH hr).elim,h.heap.eh,fun r g p row pl b q hr=>(eH hr).elim,fun r g p row pl b q hr=>(eH hr).elim,h.heap.frame,h.heap.size,h.heap.os,h.heap.tape,h.heap.output⟩,
   fun t v hl=>by simp[bI]at hl,h.size,h.defers,h.gen⟩
 unfold E.s7;cases hd:l7 L&&(Il L&&Bj L) with
 | false=>
  unfold Du;exact QK
 | true=>
  cases hr:mi s.σ (iy L) L with
  | none=>
   unfold Du;exact QK
  | some σ'=>
   simp only[Bool.and_eq_true]at hd;unfold Du;refine⟨rd',wO φ L,⟨hx.1,fun r p pl e hr=>Qn hd.2.2 r p pl (hx.2 r p pl e hr) hr⟩,(h.heap.EW hd.1 hr).Qo Fj,fun t v hl=>?_,h.size,h.defers,fun r g p hp=>?_⟩
   ·obtain⟨u,hu,rfl⟩:=Kn hl;exact(B3 (zs hd.1) (Cz t u hu _ _ _ _ _ _ h)).mono (fun _ _ _ h=>h) Fj
   unfold wO at hp;split at hp
   ·rename_i x hx;have:=List.all_eq_true.1 hd.2.1 _ (Cc hx);have:=Nat.eq_of_beq_eq_true this;simp only at this;show g<1
    omega
   split at hp
   ·rename_i hg;simp only[Bool.and_eq_true]at hg;have:=Nat.eq_of_beq_eq_true hg.1;show g<1
    omega
   exact absurd rfl hp
def tc (P:Program) (s:St):List ResultVar→Option (List AV)
 | []=>some []
 | .tmp t::l=>match tc P s l with
  | some vs=>some (ev s (.tmp t)::vs)
  | none=>none
 | .cell t ty::l=>match yJ P s.σ ty (ev s (.tmp t)) with
  | some v=>match tc P s l with
   | some vs=>some (v::vs)
   | none=>none
  | none=>none
def pX:List AV→AV
 | [v]=>v
 | vs=>.ba vs
def zk (tmps:Array Value):ResultVar→Sem Value
 | .tmp t=>pure (tmps.getD t undef)
 | .cell a t=>do loadVar t (←asAddr (tmps.getD a undef))
theorem NY {P:Program}{rd:RD}{φ:b9}{O:Nat→Prop}{w0 w:World}{s:St}{a:Act}(h:Rel rd φ O w0 s a w):∀{l:List ResultVar}{vs:List AV},tc P s l=some vs→
  ∃us,PW rd φ vs us∧(l.mapM (zk a.tmps)).run P w=Result.ok us w
 | [],vs,he=>by cases he;exact⟨[],PW.nil,by simp⟩
 | .tmp t::l,vs,he=>by
  simp only[tc]at he;split at he
  ·rename_i o5 hl;cases he;obtain⟨us,h1,h2⟩:=NY h hl;have hv:=h.ev (.tmp t);refine⟨a.tmps.getD t undef::us,⟨by simp[h1.1],fun j c hc=>?_⟩,?_⟩
   ·cases j with
    | zero=>cases hc;exact⟨_,rfl,hv⟩
    | succ j=>simpa using h1.2 j c (by simpa using hc)
   simp only[List.mapM_cons,Sem.run_bind,zk,Sem.run_pure,Result.andThen_ok,h2]
  cases he
 | .cell t ty::l,vs,he=>by
  simp only[tc]at he;split at he
  ·rename_i v hv;split at he
   ·rename_i o5 hl;cases he;obtain⟨us,h1,h2⟩:=NY h hl;have hx:=h.ev (.tmp t);obtain⟨cv,e1,e2⟩:=RQ h.heap hx hv;have e3:(zk a.tmps (.cell t ty)).run P w=.ok cv w:=by
     rw[show a.eval (.tmp t)=a.tmps.getD t undef from rfl]at e1;cases hp:a.tmps.getD t undef with
     | pointer A=>
      rw[hp]at e1;cases A with
      | none=>simp[Instr.loadAt,Instr.sureAddr]at e1
      | some A=>
       simp only[Instr.loadAt,Instr.sureAddr,Sem.run_bind,Sem.run_pure,Result.andThen_ok]at e1;simp only[zk,hp,asAddr,Sem.run_bind,Sem.run_pure,Result.andThen_ok,e1]
     | _=>rw[hp]at e1;simp[Instr.loadAt,Instr.sureAddr]at e1
    refine⟨cv::us,⟨by simp[h1.1],fun j c hc=>?_⟩,?_⟩
    ·cases j with
     | zero=>cases hc;exact⟨_,rfl,e2⟩
     | succ j=>simpa using h1.2 j c (by simpa using hc)
    simp only[List.mapM_cons,Sem.run_bind,e3,Result.andThen_ok,h2,Sem.run_pure]
   cases he
  cases he
theorem PI {P:Program}{rd:RD}{φ:b9}{O:Nat→Prop}{w0 w:World}{s:St}{a:Act}(h:Rel rd φ O w0 s a w) {fn:Func}{vs:List AV}(he:tc P s fn.results.toList=some vs):
  ∃v,(results fn a.tmps).run P w=.ok v w∧aL rd φ (pX vs) v:=by
 obtain⟨us,h1,h2⟩:=NY h he;have h3:(fn.results.mapM (zk a.tmps)).run P w=.ok us.toArray w:=by
  rw[Array.mapM_eq_mapM_toList];simp[h2]
 have h4:results fn a.tmps=(do
  let vs ←fn.results.mapM (zk a.tmps)
  pure (if h:vs.size=1 then vs[0] else .tuple vs)):=rfl
 rw[h4,Sem.run_bind,h3];refine⟨_,rfl,?_⟩;split
 ·rename_i hs;have tU:us.length=1:=by simpa using hs
  match us,vs,h1,tU with
  | [u],[x],h1,_=>
   obtain⟨v',nN,hr⟩:=h1.2 0 x rfl;cases nN;exact hr
  | [u],[],h1,_=>exact absurd h1.1 (by simp)
  | [u],_::_::_,h1,_=>exact absurd h1.1 (by simp)
 rename_i hs;have tU:us.length≠1:=by simpa using hs
 have hp:pX vs=.ba vs:=by
  match vs,h1 with
  | [],_=>rfl
  | [x],h1=>exact absurd (h1.1.symm.trans rfl) tU
  | _::_::_,_=>rfl
 rw[hp];exact PW.ba h1
end
section
open Go Go.RowKit
open Go.ChangeMaps (setBlock)
set_option linter.unusedVariables false
section
variable {P:Program}{rd:RD}{φ:b9}{O:Nat→Prop}{w0 w:World}{σ:aj}
theorem UH {w w':World}{b k:Nat}(h:w'.heap[b]?=w.heap[b]?):w'.cell? (cI b k)=w.cell? (cI b k):=by
 unfold World.cell?;rw[show(cI b k).block=b from rfl,h]
theorem adO {w w':World}{b k:Nat}(h:w'.heap[b]?=w.heap[b]?):w'.frozen? (cI b k)=w.frozen? (cI b k):=by
 unfold World.frozen?;rw[show(cI b k).block=b from rfl,h]
theorem bp.newObj (h:bp rd φ O w0 σ w) (o:Obj):bp rd φ O w0 σ (w.alloc o):=by
 have ab:∀{r g p row pl b q},rowAt σ r g p=some row→φ r g p=some pl→pl.ad=some (b,q)→b<w.heap.size:=fun h1 h2 h3=>(h.own _ _ _ _ _ _ _ h1 h2 h3).2
 have hs:(w.alloc o).heap.size=w.heap.size+1:=World.size_alloc ..;refine⟨?_,h.sep,?_,h.et,?_,?_,?_,h.os,h.tape,h.output⟩
 ·intro r g p row hr;obtain⟨pl,h1,h2⟩:=h.rows _ _ _ _ hr;exact⟨pl,h1,h2.of_same (fun b q aK k=>⟨vM (ab hr h1 aK),G5 (ab hr h1 aK)⟩) fun b q aK es ck e=>by rw[Below.heap_alloc _ _ _ (ab hr h1 aK)];exact e⟩
 ·intro b o' v e;have:=h.eh b o' v e;rw[vM (sZ (by rw[this];rfl))];exact this
 ·intro r g p row pl b q h1 h2 h3;obtain⟨ha,hb⟩:=h.own _ _ _ _ _ _ _ h1 h2 h3;exact⟨ha,by rw[hs];omega⟩
 ·intro b hb hO;have:=h.size;rw[←h.frame b hb hO];show(w.heap.push o)[b]?=_
  rw[Array.getElem?_push,if_neg (by omega)]
 have:=h.size;rw[hs];omega
theorem bp.setObj (h:bp rd φ O w0 σ w) {r:Nat}(o:Obj) (eH:¬gO φ σ r) (m9:∀k,rd r k=none) (hr:w0.heap.size≤r):bp rd φ O w0 σ (setBlock w r o):=by
 have hs:(setBlock w r o).heap.size=w.heap.size:=by simp[setBlock]
 have bO:∀{b:Nat},b≠r→(setBlock w r o).heap[b]?=w.heap[b]?:=fun hb=>by
  show(w.heap.setIfInBounds r o)[_]?=_
  rw[Array.getElem?_setIfInBounds_ne (Ne.symm hb)]
 have hb:∀{r' g p row pl b q},rowAt σ r' g p=some row→φ r' g p=some pl→pl.ad=some (b,q)→b≠r:=fun h1 h2 h3 e=>eH ⟨_,_,_,_,_,_,h1,h2,e▸h3⟩
 refine⟨?_,h.sep,?_,h.et,?_,?_,?_,h.os,h.tape,h.output⟩
 ·intro r' g p row fQ;obtain⟨pl,h1,h2⟩:=h.rows _ _ _ _ fQ;exact⟨pl,h1,h2.of_same (fun b q aK k=>⟨UH (bO (hb fQ h1 aK)),adO (bO (hb fQ h1 aK))⟩) fun b q aK es ck e=>by rw[bO (hb fQ h1 aK)];exact e⟩
 ·intro b o' v e;rw[UH (bO (fun e'=>by rw[e',m9]at e;cases e))];exact h.eh b o' v e
 ·intro r' g p row pl b q h1 h2 h3;obtain⟨ha,hb⟩:=h.own _ _ _ _ _ _ _ h1 h2 h3;exact⟨ha,by rw[hs];omega⟩
 ·intro b qs hO;rw[bO (by omega)];exact h.frame b qs hO
 rw[hs];exact h.size
theorem X0 {E:kD}{w1 w2:World}{s':St}{a':Act}(hx:mT O w0 E rd φ) (h:bp rd φ O w0 σ w1) (k:ik (rd,φ) (gO φ σ) w1 s' a' w2):
  ∃dO φ2,mT O w0 E dO φ2∧Rel dO φ2 O w0 s' a' w2∧(∀b o,b<w1.heap.size→¬gO φ σ b→dO b o=rd b o)∧(∀b,gO φ2 s'.σ b→gO φ σ b∨w1.heap.size≤b)∧(∀b,b<w1.heap.size→¬gO φ σ b→w2.heap[b]?=w1.heap[b]?):=by
 obtain⟨dO,φ2,aX,k⟩:=k;have KW:∀b,gO φ σ b→O b∨w0.heap.size≤b:=fun b ⟨r,g,p,row,pl,q,h1,h2,h3⟩=>(h.own _ _ _ _ _ _ _ h1 h2 h3).1
 have hs:=h.size;refine⟨dO,φ2,⟨hx.1.trans ⟨aX.1.1,fun b o hb hO=>aX.1.2 b o (by omega) (fun hh=>(KW b hh).elim hO (by omega))⟩,fun r p pl e hr=>aX.2 r p pl (hx.2 r p pl e hr) hr⟩,⟨⟨k.heap.rows,k.heap.sep,k.heap.eh,k.heap.et,?_,?_,?_,?_,?_,?_⟩,k.tm,k.size,k.defers,k.gen⟩,aX.1.2,?_,k.heap.frame⟩
 ·intro r g p row pl b q h1 h2 h3;obtain⟨ha,hb⟩:=k.heap.own _ _ _ _ _ _ _ h1 h2 h3;refine⟨ha.elim (KW b) (fun hh=>.inr (by omega)),hb⟩
 ·intro b hb hO;rw[k.heap.frame b (by omega) (fun hh=>(KW b hh).elim hO (by omega))];exact h.frame b hb hO
 ·have:=k.heap.size;omega
 ·rw[k.heap.os,h.os]
 ·rw[k.heap.tape,h.tape]
 ·rw[k.heap.output,h.output]
 rintro b ⟨r,g,p,row,pl,q,h1,h2,h3⟩;exact(k.heap.own _ _ _ _ _ _ _ h1 h2 h3).1
theorem OF {E:kD}{ops:Array Oper}{K:St→Prop}{Q:Exit→Act→World→Prop}{l2:List Nat}(hn:∀s' a' w',K s'→ik E O w0 s' a' w'→wpOps P ops Q l2 a' w'):
  ∀(l:List Nat) (os:List Oper),l.map (ops[·]?)=os.map some→∀s a w,ik E O w0 s a w→yW P ops os s K→wpOps P ops Q (l++l2) a w
 | [],[],_,s,a,w,h,hv=>hn _ _ _ hv h
 | [],_::_,hl,_,_,_,_,_=>by cases hl
 | _::_,[],hl,_,_,_,_,_=>by cases hl
 | i::l,o::os,hl,s,a,w,⟨rd',φ,hx,h⟩,hv=>by
  simp only[List.map_cons,List.cons.injEq]at hl;simp only[List.cons_append,wpOps,hl.1];exact IF hx hl.1 h hv fun s' a' w' hk hr=>OF hn l os hl.2 s' a' w' hr hk
end
def ahZ (P:Program) (it tn tk id:Nat) (body:Code) (Q:Exit→St→Prop) (str:ByteArray) (r:Nat) (I:Nat→St→Prop) (pos:Nat) (s:St):Prop:=
 (bI s.tm it=some (.it r)∧tn<s.n∧tk<s.n)∧
 (pos<str.size→∃c,Utf8.decode str pos=(c,1)∧vc P body ⟨s.n,(tk,.sc (.bool true))::(tn,.ba [.sc (.bool true),.sc (.int .i64 pos),.sc (.int .i32 c)])::s.tm,s.σ,s.G⟩ (iq (lP id Q) fun s4=>∃s5,aI s4 s5∧I (pos+1) s5))∧
 (¬pos<str.size→Q .normal ⟨s.n,(tk,.sc (.bool false))::(tn,.ba [.sc (.bool false)])::s.tm,s.σ,s.G⟩)
def ahX (P:Program) (it tn tk id:Nat) (x:Operand) (body:Code) (Q:Exit→St→Prop) (s:St):Prop:=
 ∃str,ev s x=.sc (.string str)∧it<s.n∧∀r,∃(I:Nat→St→Prop) (s2:St),aI ⟨s.n,(it,.it r)::s.tm,s.σ,s.G⟩ s2∧I 0 s2∧∀pos s3,I pos s3→ahZ P it tn tk id body Q str r I pos s3
theorem Rel.BE {rd:RD}{φ:b9}{O:Nat→Prop}{w0 w w':World}{s:St}{a:Act}{d:Nat}{v:AV}{cv:Value}(h:Rel rd φ O w0 s a w) (hd:d<s.n) (hh:bp rd φ O w0 s.σ w') (hv:aL rd φ v cv):
  Rel rd φ O w0 ⟨s.n,(d,v)::s.tm,s.σ,s.G⟩ (a.put (some d) cv) w':=by
 obtain⟨s',e,hr⟩:=h.put (dst:=some d) (v:=v) (σ:=s.σ) (b:=false) (K:=fun s'=>s'=⟨s.n,(d,v)::s.tm,s.σ,s.G⟩) (by
  unfold E.put;simp only;rw[show Nat.blt d s.n=true from Nat.ble_eq_true_of_le hd];rfl) (fun _ _ _ h=>h) hh hv (fun _ _ _ _ h=>h) (fun _ _ _ h=>.inl h)
 exact e▸hr
theorem acn {rd:RD}{φ:b9}{r:Nat}{v:Value}(h:aL rd φ (.it r) v):v=.pointer (some ⟨r,0,none⟩):=by
 cases h;rfl
theorem Rel.Wb {rd:RD}{φ:b9}{O:Nat→Prop}{w0 w:World}{s:St}{a:Act}(h:Rel rd φ O w0 s a w):ik (rd,φ) (gO φ s.σ) w s a w:=
 ⟨rd,φ,.refl,h.heap.Jk,h.tm,h.size,h.defers,h.gen⟩
theorem Rel.kept {E:kD}{rd:RD}{φ:b9}{O:Nat→Prop}{w0 w w':World}{s s':St}{a a':Act}{r:Nat}(h:Rel rd φ O w0 s a w) (hx:mT O w0 E rd φ) (hr:r<w.heap.size) (eH:¬gO φ s.σ r) (m9:∀k,rd r k=none)
  (k:ik (rd,φ) (gO φ s.σ) w s' a' w'):∃dO φ2,mT O w0 E dO φ2∧Rel dO φ2 O w0 s' a' w'∧w'.heap[r]?=w.heap[r]?∧(∀k,dO r k=none)∧¬gO φ2 s'.σ r:=by
 obtain⟨dO,φ2,h1,h2,h3,h4,h5⟩:=X0 hx h.heap k;exact⟨dO,φ2,h1,h2,h5 r hr eH,fun k=>by rw[h3 r k hr eH,m9],fun hh=>(h4 r hh).elim eH (by omega)⟩
theorem Y1 {P:Program}{i1 i2 id it tn tk:Nat}{ty:TypeId}{x:Operand}{r6 r5:Array Oper}{body:Code}{pre:List Oper}{oR oN oE:Oper}{Q:Exit→St→Prop}{s:St}
  (h1:r6.toList=pre++[oR]) (hR:oR.op=.range ty x∧oR.dst=some it∧oR.guard=none) (h2:r5.toList=[oN,oE])
  (hN:oN.op=.next (.tmp it) true∧oN.dst=some tn∧oN.guard=none) (hE:oE.op=.extract (.tmp tn) 0∧oE.dst=some tk∧oE.guard=none) (Ck:P.underlying ty=some .string)
  (hv:yW P r6 pre s (ahX P it tn tk id x body Q)):
  AS P (.seq (.region i1 r6 false) (.block id (.loop (.seq (.region i2 r5 false) (.seq (.cond (.tmp tk) .skip (.exit id)) body))))) s Q:=by
 intro E O w0 a w h;refine wp_seq (wp_region ?_);have Gw:=P2 r6;have dg:r6.size=pre.length+1:=by rw[←Array.length_toList,h1];simp
 rw[h1,dg,List.range_succ,List.map_append,List.map_append]at Gw;obtain⟨pz,Gx⟩:=List.append_inj Gw (by simp);rw[dg,List.range_succ];refine OF ?_ _ _ pz s a w h hv;rintro s1 a1 w1 ⟨str,hx,CB,hI⟩ ⟨d9,φ1,fJ,js⟩;have hk:r6[pre.length]?=some oR:=by simpa using Gx
 simp only[wpOps,hk];have cT:=js.ev x;rw[hx]at cT;have cT:=fq cT;rw[if_pos (by simp[Region.wanted,hR.2.2])];refine .inl ?_;unfold Oper.wp;have eG:(execOp a1.eval oR).run P w1=.ok (.value (.pointer (some ⟨w1.heap.size,0,none⟩))) (w1.iter str 0):=by
  unfold execOp;rw[hR.1];simp[cT,run_range_string w1 ty str Ck]
 rw[eG,Oper.upon_value,hR.2.1];have hh1:bp d9 φ1 O w0 s1.σ (w1.iter str 0):=js.heap.newObj _;have nP:=js.BE CB hh1 (.it w1.heap.size);obtain⟨I,s2,KK,hI0,KR⟩:=hI w1.heap.size;have acN:¬gO φ1 s1.σ w1.heap.size:=fun⟨r',g,p,row,pl,q,k1,k2,k3⟩=>Nat.lt_irrefl _ (js.heap.own _ _ _ _ _ _ _ k1 k2 k3).2
 have acH:∀k,d9 w1.heap.size k=none:=fun k=>by
  cases e:d9 w1.heap.size k with
  | none=>rfl
  | some v=>exact absurd (sZ (w:=w1) (b:=w1.heap.size) (k:=k) (by rw[js.heap.eh _ _ _ e];rfl)) (Nat.lt_irrefl _)
 obtain⟨dO,φ2,aX,hr3,SJ,acG,acM⟩:=nP.kept (r:=w1.heap.size) fJ (by show w1.heap.size<(w1.alloc _).heap.size;rw[World.size_alloc];omega) acN acH (KK _ _ _ _ _ nP.Wb);have SJ:(w1.iter str 0).heap[w1.heap.size]?=some (.stringIter str 0):=World.iter_heap _ _ _;have hle:w0.heap.size≤w1.heap.size:=js.heap.size;have ab:w1.heap.size<(w1.iter str 0).heap.size:=by show w1.heap.size<(w1.alloc _).heap.size;rw[World.size_alloc];omega
 generalize w1.iter str 0=w2 at *;generalize w1.heap.size=r at *;show(Code.block id _).wp P _ _ _
 refine wp_block (Oh (fun m a w=>∃pos s3 rd' φ,m=str.size - pos∧I pos s3∧mT O w0 E rd' φ∧Rel rd' φ O w0 s3 a w∧w.heap[r]?=some (.stringIter str pos)∧(∀k,rd' r k=none)∧¬gO φ s3.σ r) ?_ (str.size - 0) _ _ ⟨0,s2,dO,φ2,rfl,hI0,aX,hr3,SJ,acG,acM⟩);rintro m a3 w3 ⟨pos,s3,PY,φ3,rfl,hIp,cr,xT,GC,Gq,Gt⟩;obtain⟨⟨K9,Gl,gY⟩,hgo,ac7⟩:=KR pos s3 hIp;have SA:a3.tmps.getD it undef=.pointer (some ⟨r,0,none⟩):=by
  exact acn (xT.tm _ _ K9)
 have Sy:r<w3.heap.size:=by
  rcases bm r w3.heap.size with h|h
  ·exact h
  rw[Array.getElem?_eq_none h]at GC;cases GC
 refine wp_seq (wp_region ?_);have KN:r5.size=2:=by rw[←Array.length_toList,h2];rfl
 have mG:r5[0]?=some oN:=by rw[←Array.getElem?_toList,h2];rfl
 have vp:r5[1]?=some oE:=by rw[←Array.getElem?_toList,h2];rfl
 rw[KN,show List.range 2=[0,1] from rfl];simp only[wpOps,mG,vp];rw[if_pos (by simp[Region.wanted,hN.2.2])];refine .inl ?_;by_cases hp:pos<str.size
 ·obtain⟨c,adi,pB⟩:=hgo hp;unfold Oper.wp;have eG:(execOp a3.eval oN).run P w3=.ok (.value (.tuple #[.bool true,.int .i64 pos,.int .i32 c])) (setBlock w3 r (.stringIter str (pos+1))):=by
   unfold execOp;rw[hN.1];simp[Act.eval,SA,Instr.next,getObj,Go.setObj,Sem.run,GC,hp,adi,Result.andThen,setBlock,goInt]
  rw[eG,Oper.upon_value,hN.2.1];have hh4:=xT.heap.setObj (Obj.stringIter str (pos+1)) Gt Gq hle;have Cq:=xT.BE (cv:=.tuple #[.bool true,.int .i64 pos,.int .i32 c]) Gl hh4 (v:=.ba [.sc (.bool true),.sc (.int .i64 pos),.sc (.int .i32 c)]) (PW.ba (PW.cons (.sc _ rfl) (PW.cons (.sc _ rfl) (PW.cons (.sc _ rfl) PW.nil))));have kA:(a3.put (some tn) (.tuple #[.bool true,.int .i64 pos,.int .i32 c])).tmps.getD tn undef=.tuple #[.bool true,.int .i64 pos,.int .i32 c]:=by
   rw[GV _ _ _ _ (by rw[xT.size];exact Gl),if_pos rfl]
  rw[if_pos (by simp[Region.wanted,hE.2.2])];refine .inl ?_;have KQ:∀w,(execOp (a3.put (some tn) (.tuple #[.bool true,.int .i64 pos,.int .i32 c])).eval oE).run P w=.ok (.value (.bool true)) w:=by
   intro w;unfold execOp;rw[hE.1];simp only[Act.eval];rw[kA];rfl
  rw[KQ,Oper.upon_value,hE.2.1];have vi:=Cq.BE (d:=tk) (cv:=.bool true) (v:=.sc (.bool true)) gY Cq.heap (.sc _ rfl);have ac0:(setBlock w3 r (.stringIter str (pos+1))).heap[r]?=some (.stringIter str (pos+1)):=by
   show(w3.heap.setIfInBounds r _)[r]?=_
   rw[Array.getElem?_setIfInBounds_self_of_lt Sy]
  have KS:r<(setBlock w3 r (.stringIter str (pos+1))).heap.size:=by simp[setBlock];exact Sy
  generalize setBlock w3 r (.stringIter str (pos+1))=w4 at *;have Ln:=fq (vi.tm tk (.sc (.bool true)) (by simp[bI]));refine wp_seq (wp_cond_true Ln (wp_skip ?_));refine wp_mono (rQ (rd:=(PY,φ3)) (O:=gO φ3 s3.σ) (w0:=w4) body _ _ pB _ _ vi.Wb) ?_;rintro e a' w' ⟨s',hk,KT⟩;cases e with
  | normal=>
   obtain⟨s5,hw5,hI5⟩:=hk;obtain⟨zl,φ5,k1,k2,k3,k4,k5⟩:=vi.kept cr KS Gt Gq (hw5.rel KT);exact⟨str.size - (pos+1),by omega,pos+1,s5,zl,φ5,rfl,hI5,k1,k2,k3.trans ac0,k4,k5⟩
  | exit kR=>
   obtain⟨zl,φ5,k1,k2,k3,k4,k5⟩:=vi.kept cr KS Gt Gq KT;simp only[iq,lP]at hk;simp only[Exit.then,Exit.inBlock];by_cases t9:kR=id
   ·rw[if_pos t9];have:(kR==id)=true:=by simp[t9]
    rw[this]at hk;exact⟨s',hk,zl,φ5,k1,k2⟩
   rw[if_neg t9];have:(kR==id)=false:=by simp[t9]
   rw[this]at hk;exact⟨s',hk,zl,φ5,k1,k2⟩
  | _=>
   obtain⟨zl,φ5,k1,k2,k3,k4,k5⟩:=vi.kept cr KS Gt Gq KT;exact⟨s',hk,zl,φ5,k1,k2⟩
 have hq:=ac7 hp;unfold Oper.wp;have eG:(execOp a3.eval oN).run P w3=.ok (.value (.tuple #[.bool false])) w3:=by
  unfold execOp;rw[hN.1];simp[Act.eval,SA,Instr.next,getObj,Sem.run,GC,hp,Result.andThen]
 rw[eG,Oper.upon_value,hN.2.1];have Cq:=xT.BE (cv:=.tuple #[.bool false]) Gl xT.heap (v:=.ba [.sc (.bool false)]) (PW.ba (PW.cons (.sc _ rfl) PW.nil));have kA:(a3.put (some tn) (.tuple #[.bool false])).tmps.getD tn undef=.tuple #[.bool false]:=by
  rw[GV _ _ _ _ (by rw[xT.size];exact Gl),if_pos rfl]
 rw[if_pos (by simp[Region.wanted,hE.2.2])];refine .inl ?_;have KQ:∀w,(execOp (a3.put (some tn) (.tuple #[.bool false])).eval oE).run P w=.ok (.value (.bool false)) w:=by
  intro w;unfold execOp;rw[hE.1];simp only[Act.eval];rw[kA];rfl
 rw[KQ,Oper.upon_value,hE.2.1];have vi:=Cq.BE (d:=tk) (cv:=.bool false) (v:=.sc (.bool false)) gY Cq.heap (.sc _ rfl);have Ln:=fq (vi.tm tk (.sc (.bool false)) (by simp[bI]));refine wp_seq (wp_cond_false Ln (wp_exit ?_));simp only[Exit.then,Exit.inBlock,if_true];exact⟨_,hq,PY,φ3,cr,vi⟩
end
section
open Go Go.RowKit
set_option linter.unusedVariables false
structure GE where
 r:Nat
 g:Nat
 p:List Nat
 q:List Nat
 row:Row
def CW (σ:aj) (q:List Nat):AV→Option (AV × List GE)
 | .au r g p sz off len=>match rowAt σ r g p with
  | some row=>match Nat.beq off 0,Nat.beq len row.es.length,Nat.ble 1 row.fl with
   | true,true,true=>some (.au 0 0 q sz 0 len,[⟨r,g,p,q,row⟩])
   | _,_,_=>none
  | none=>none
 | .ptr ..|.agg _|.ba _|.dead|.rp _|.it _|.mr ..=>none
 | v=>some (v,[])
def CV (σ:aj) (q:List Nat):Nat→List AV→Option (List AV × List GE)
 | _,[]=>some ([],[])
 | k,c::cs=>match CW σ (q++[k]) c with
  | some (c',l)=>match CV σ q (k+1) cs with
   | some (aO,l')=>some (c'::aO,l++l')
   | none=>none
  | none=>none
def CX (σ:aj) (q:List Nat):AV→Option (AV × List GE)
 | .agg cs=>match CV σ q 0 cs with
  | some (aO,l)=>some (.agg aO,l)
  | none=>none
 | v=>CW σ q v
def Ac (σ:aj):Nat→List AV→Option (List AV × List GE)
 | _,[]=>some ([],[])
 | k,c::cs=>match CX σ [k] c with
  | some (c',l)=>match Ac σ (k+1) cs with
   | some (aO,l')=>some (c'::aO,l++l')
   | none=>none
  | none=>none
def LU (σ:aj):List AV→Option (AV × List GE)
 | [v]=>CX σ [] v
 | vs=>match Ac σ 0 vs with
  | some (o5,l)=>some (.ba o5,l)
  | none=>none
def nZ:List Nat→List Nat→Bool
 | [],[]=>true
 | a::l,b::m=>match a==b with
  | true=>nZ l m
  | false=>false
 | _,_=>false
theorem Nv:∀l:List Nat,nZ l l=true
 | []=>rfl
 | a::l=>by simp[nZ,Nv l]
def DQ (e:GE):List GE→Bool
 | []=>true
 | f::l=>match nZ e.q f.q,(match e.r==f.r with|true=>nZ e.p f.p|false=>false) with
  | false,false=>DQ e l
  | _,_=>false
def v7:List GE→Bool
 | []=>true
 | e::l=>match DQ e l with
  | true=>v7 l
  | false=>false
section
variable {P:Program}{rd:RD}{φ:b9}{O:Nat→Prop}{w0 w:World}{σ:aj}
theorem NJ {e:GE}:∀{l:List GE},DQ e l=true→∀f∈l,e.q≠f.q∧¬(e.r=f.r∧e.p=f.p)
 | [],_,f,hf=>by simp at hf
 | x::l,h,f,hf=>by
  simp only[DQ]at h;split at h
  ·rename_i h1 h2;rcases List.mem_cons.1 hf with rfl|hf
   ·refine⟨fun e'=>?_,fun⟨e1,e2⟩=>?_⟩
    ·rw[e',Nv]at h1;cases h1
    have:(e.r==f.r)=true:=by simp[e1]
    rw[this,e2,Nv]at h2;cases h2
   exact NJ h f hf
  cases h
theorem Wr:∀{l:List GE},v7 l=true→∀(i j:Nat) (e f:GE),l[i]?=some e→l[j]?=some f→(e.q=f.q∨(e.r=f.r∧e.p=f.p))→i=j
 | [],_,i,j,e,f,he,_,_=>by simp at he
 | x::l,h,i,j,e,f,he,hf,hh=>by
  simp only[v7]at h;split at h
  ·rename_i h1;have hs:=NJ h1;cases i with
   | zero=>
    cases j with
    | zero=>rfl
    | succ j=>
     cases he;have Lm:l[j]?=some f:=by simpa using hf
     have:=hs f (dh Lm);exact(hh.elim (fun h=>this.1 h) (fun h=>this.2 h)).elim
   | succ i=>
    cases j with
    | zero=>
     cases hf;have Lt:l[i]?=some e:=by simpa using he
     have:=hs e (dh Lt);exact(hh.elim (fun h=>this.1 h.symm) (fun h=>this.2 ⟨h.1.symm,h.2.symm⟩)).elim
    | succ j=>
     have:=Wr h i j e f (by simpa using he) (by simpa using hf) hh;omega
  cases h
def Sound (rd:RD) (φ:b9) (σ:aj) (c':AV) (l:List GE) (v:Value):Prop:=
 (∀e∈l,rowAt σ e.r e.g e.p=some e.row∧1≤e.row.fl)∧∀ψ:List Nat→Option Pl,(∀e∈l,ψ e.q=φ e.r e.g e.p)→aL rd (jQ ψ) c' v
theorem Tf {q:List Nat}{c c':AV}{l:List GE}{v:Value}(hv:aL rd φ c v) (h:CW σ q c=some (c',l)):Sound rd φ σ c' l v:=by
 have IQ:∀{c:AV},sf c=true→aL rd φ c v→some (c,[])=some (c',l)→Sound rd φ σ c' l v:=by
  intro c hs hv h;cases h;exact⟨fun e he=>by simp at he,fun ψ _=>hv.lT hs⟩
 cases c with
 | au r g p sz off len=>
  simp only[CW]at h;split at h
  ·rename_i row fo;split at h
   ·rename_i h1 h2 h3;cases h;have h1:=Nat.eq_of_beq_eq_true h1;subst h1;refine⟨fun e he=>?_,fun ψ hψ=>?_⟩
    ·rw[List.mem_singleton.1 he];exact⟨fo,Nat.le_of_ble_eq_true h3⟩
    cases hv with
    | au _ _ _ _ _ _ pl A hφ hA hl=>
     have hq:=hψ ⟨r,g,p,q,row⟩ (by simp);simp only at hq;rw[hφ]at hq;exact .au 0 0 q sz 0 len pl A hq hA hl
   cases h
  cases h
 | sc v=>exact IQ rfl hv h
 | aG=>exact IQ rfl hv h
 | ro sz es=>exact IQ rfl hv h
 | _=>cases h
theorem Te {q:List Nat}:∀{k:Nat}{cs aO:List AV}{l:List GE}{vs:List Value},PW rd φ cs vs→CV σ q k cs=some (aO,l)→
  (∀e∈l,rowAt σ e.r e.g e.p=some e.row∧1≤e.row.fl)∧∀ψ:List Nat→Option Pl,(∀e∈l,ψ e.q=φ e.r e.g e.p)→PW rd (jQ ψ) aO vs
 | k,[],aO,l,vs,hp,h=>by
  cases h;have:vs=[]:=List.eq_nil_of_length_eq_zero hp.1.symm
  subst this;exact⟨fun e he=>by simp at he,fun _ _=>PW.nil⟩
 | k,c::cs,aO,l,vs,hp,h=>by
  cases vs with
  | nil=>exact absurd hp.1 (by simp)
  | cons v vs=>
   simp only[CV]at h;split at h
   ·rename_i c1 l1 hc;split at h
    ·rename_i uo l2 hQ;cases h;obtain⟨v',nN,hr⟩:=hp.2 0 c rfl;cases nN;have mE:PW rd φ cs vs:=⟨by simpa using hp.1,fun j c hc=>by simpa using hp.2 (j+1) c (by simpa using hc)⟩;obtain⟨a1,a2⟩:=Tf hr hc;obtain⟨b1,b2⟩:=Te mE hQ;refine⟨fun e he=>(List.mem_append.1 he).elim (a1 e) (b1 e),fun ψ hψ=>?_⟩;have x:=a2 ψ (fun e he=>hψ e (by simp[he]));have y:=b2 ψ (fun e he=>hψ e (by simp[he]));exact⟨by simp[y.1],fun j c hc=>by
      cases j with
      | zero=>cases hc;exact⟨v,rfl,x⟩
      | succ j=>simpa using y.2 j c (by simpa using hc)⟩
    cases h
   cases h
theorem Tg {q:List Nat}{c c':AV}{l:List GE}{v:Value}(hv:aL rd φ c v) (h:CX σ q c=some (c',l)):Sound rd φ σ c' l v:=by
 cases c with
 | agg cs=>
  simp only[CX]at h;split at h
  ·rename_i uo l1 hQ;cases h;obtain⟨arr,rfl,hp⟩:=PW.mq hv;obtain⟨a1,a2⟩:=Te hp hQ;exact⟨a1,fun ψ hψ=>PW.agg (a2 ψ hψ)⟩
  cases h
 | _=>exact Tf (q:=q) hv h
theorem Td:∀{k:Nat}{cs aO:List AV}{l:List GE}{vs:List Value},PW rd φ cs vs→Ac σ k cs=some (aO,l)→
  (∀e∈l,rowAt σ e.r e.g e.p=some e.row∧1≤e.row.fl)∧∀ψ:List Nat→Option Pl,(∀e∈l,ψ e.q=φ e.r e.g e.p)→PW rd (jQ ψ) aO vs
 | k,[],aO,l,vs,hp,h=>by
  cases h;have:vs=[]:=List.eq_nil_of_length_eq_zero hp.1.symm
  subst this;exact⟨fun e he=>by simp at he,fun _ _=>PW.nil⟩
 | k,c::cs,aO,l,vs,hp,h=>by
  cases vs with
  | nil=>exact absurd hp.1 (by simp)
  | cons v vs=>
   simp only[Ac]at h;split at h
   ·rename_i c1 l1 hc;split at h
    ·rename_i uo l2 hQ;cases h;obtain⟨v',nN,hr⟩:=hp.2 0 c rfl;cases nN;have mE:PW rd φ cs vs:=⟨by simpa using hp.1,fun j c hc=>by simpa using hp.2 (j+1) c (by simpa using hc)⟩;obtain⟨a1,a2⟩:=Tg hr hc;obtain⟨b1,b2⟩:=Td mE hQ;refine⟨fun e he=>(List.mem_append.1 he).elim (a1 e) (b1 e),fun ψ hψ=>?_⟩;have x:=a2 ψ (fun e he=>hψ e (by simp[he]));have y:=b2 ψ (fun e he=>hψ e (by simp[he]));exact⟨by simp[y.1],fun j c hc=>by
      cases j with
      | zero=>cases hc;exact⟨v,rfl,x⟩
      | succ j=>simpa using y.2 j c (by simpa using hc)⟩
    cases h
   cases h
theorem adz {vs:List AV}{c':AV}{l:List GE}{v:Value}(hv:aL rd φ (pX vs) v) (h:LU σ vs=some (c',l)):Sound rd φ σ c' l v:=by
 have many:pX vs=.ba vs→(match Ac σ 0 vs with|some (o5,l)=>some (AV.ba o5,l)|none=>none)=some (c',l)→Sound rd φ σ c' l v:=by
  intro hp h;rw[hp]at hv;split at h
  ·rename_i uo l1 hQ;cases h;obtain⟨arr,rfl,hp⟩:=PW.tE hv;obtain⟨a1,a2⟩:=Td hp hQ;exact⟨a1,fun ψ hψ=>PW.ba (a2 ψ hψ)⟩
  cases h
 match vs,hv,h,many with
 | [x],hv,h,_=>exact Tg hv h
 | [],_,h,many=>exact many rfl h
 | _::_::_,_,h,many=>exact many rfl h
def rowsOf:List GE→List (List Nat × Row)
 | []=>[]
 | e::l=>(e.q,e.row)::rowsOf l
def zo (φ:b9):List GE→List Nat→Option Pl
 | [],_=>none
 | e::l,q=>if q=e.q then φ e.r e.g e.p else zo φ l q
theorem RL:∀{l:List GE}{p:List Nat}{row:Row},lX (rowsOf l) p=some row→∃(i:Nat) (e:GE),l[i]?=some e∧e.q=p∧e.row=row
 | [],_,_,h=>by cases h
 | e::l,p,row,h=>by
  simp only[rowsOf,lX]at h;split at h
  ·rename_i hp;cases h;exact⟨0,e,rfl,hp.symm,rfl⟩
  obtain⟨i,f,h1,h2,h3⟩:=RL h;exact⟨i+1,f,by simpa using h1,h2,h3⟩
theorem Jx:∀{l:List GE},v7 l=true→∀e∈l,zo φ l e.q=φ e.r e.g e.p
 | [],_,e,he=>by simp at he
 | x::l,h,e,he=>by
  simp only[v7]at h;split at h
  ·rename_i h1;simp only[zo];rcases List.mem_cons.1 he with rfl|he
   ·simp
   have:=(NJ h1 e he).1;rw[if_neg (fun hh=>this hh.symm)];exact Jx h e he
  cases h
theorem bp.back (h:bp rd φ O w0 σ w) {l:List GE}(hl:∀e∈l,rowAt σ e.r e.g e.p=some e.row∧1≤e.row.fl) (ha:v7 l=true):
  bp rd (jQ (zo φ l)) O w0 (kK (rowsOf l)) w:=by
 have ch:∀{r g p row},rowAt (kK (rowsOf l)) r g p=some row→∃(i:Nat) (e:GE),l[i]?=some e∧e.q=p∧e.row=row∧rowAt σ e.r e.g e.p=some row∧1≤row.fl∧r=0∧jQ (zo φ l) r g p=φ e.r e.g e.p:=by
  intro r g p row hr;cases na:rowsOf l with
  | nil=>rw[na]at hr;simp[kK,rowAt,bI]at hr
  | cons x m=>
   rw[na]at hr;simp only[kK,rowAt,gx,bI]at hr;split at hr
   ·rename_i g' f hx;split at hx
    ·rename_i h0;cases hx;split at hr
     ·rename_i hg;rw[←na]at hr;obtain⟨i,e,h1,h2,h3⟩:=RL hr;have hm:=dh h1;obtain⟨k1,k2⟩:=hl e hm;subst h0;subst hg;refine⟨i,e,h1,h2,h3,h3▸k1,h3▸k2,rfl,?_⟩;rw[←h2];exact Jx ha e hm
     cases hr
    cases hx
   cases hr
 refine⟨?_,?_,h.eh,?_,?_,h.frame,h.size,h.os,h.tape,h.output⟩
 ·intro r g p row hr;obtain⟨i,e,h1,h2,h3,h4,h5,h6,h7⟩:=ch hr;obtain⟨pl,k1,k2⟩:=h.rows _ _ _ _ h4;refine⟨pl,by rw[h7,k1],k2.wide,k2.len,k2.kind,k2.nil,k2.room,fun b q aK i j c hc=>?_,k2.ic,k2.mp⟩;obtain⟨v,hv,eR⟩:=k2.cells b q aK i j c hc;refine⟨v,hv,eR.lT ?_⟩;have hm:∃e∈row.es,c∈e:=by
   cases he:row.es[i]? with
   | none=>rw[he]at hc;cases hc
   | some e=>rw[he]at hc;exact⟨e,dh he,dh hc⟩
  obtain⟨e',he,LC⟩:=hm;have hs:=(k2.kind e' he).1 h5 c LC;cases c<;>first|rfl|cases hs
 ·intro r g p row r' g' p' cq pl cV b q q' h1 h2 h3 h4 h5 h6;obtain⟨i,e,a1,a2,a3,a4,a5,a6,a7⟩:=ch h1;obtain⟨j,f,b1,b2,b3,b4,b5,b6,b7⟩:=ch h2;rw[a7]at h3;rw[b7]at h4;have:=h.sep _ _ _ _ _ _ _ _ _ _ _ _ _ a4 b4 h3 h4 h5 h6;have oH:=Wr ha i j e f a1 b1 (.inr this);subst oH;rw[a1]at b1;cases b1;exact⟨a6.trans b6.symm,a2.symm.trans b2⟩
 ·intro r g p row pl b q h1 h2 h3 k dD;obtain⟨i,e,a1,a2,a3,a4,a5,a6,a7⟩:=ch h1;rw[a7]at h2;exact h.et _ _ _ _ _ _ _ a4 h2 h3 k dD
 intro r g p row pl b q h1 h2 h3;obtain⟨i,e,a1,a2,a3,a4,a5,a6,a7⟩:=ch h1;rw[a7]at h2;exact h.own _ _ _ _ _ _ _ a4 h2 h3
def C4 (σ:aj):AV→AV→Option (aj × AV)
 | .au ..,c=>some (σ,c)
 | .ptr ..,c=>some (σ,c)
 | .mr ..,c=>some (σ,c)
 | .ro sz _,.aG=>some (σ,.ro sz [])
 | _,c=>rk σ c
def C3 (σ:aj):List AV→List AV→Option (aj × List AV)
 | [],[]=>some (σ,[])
 | u::us,c::cs=>(C4 σ u c).bind fun x=>(C3 x.1 us cs).map fun y=>(y.1,x.2::y.2)
 | _,_=>none
def C5 (σ:aj):AV→AV→Option (aj × AV)
 | .agg us,.agg cs=>(C3 σ us cs).map fun x=>(x.1,.agg x.2)
 | u,c=>C4 σ u c
def C2 (σ:aj):List AV→List AV→Option (aj × List AV)
 | [],[]=>some (σ,[])
 | u::us,c::cs=>(C5 σ u c).bind fun x=>(C2 x.1 us cs).map fun y=>(y.1,x.2::y.2)
 | _,_=>none
def C6 (σ:aj) (res:AV):List AV→Option (aj × List AV)
 | [v]=>(C5 σ res v).map fun x=>(x.1,[x.2])
 | vs=>match res with
  | .ba us=>C2 σ us vs
  | _=>none
theorem Tn (h:bp rd φ O w0 σ w) {u c c':AV}{v:Value}{σ':aj}(hv:aL rd φ c v) (hf:C4 σ u c=some (σ',c')):
  rJ rd φ O w0 w σ' fun rd'=>aL rd' φ c' v:=by
 unfold C4 at hf;split at hf
 ·cases hf;exact⟨rd,.refl,h,hv⟩
 ·cases hf;exact⟨rd,.refl,h,hv⟩
 ·cases hf;exact⟨rd,.refl,h,hv⟩
 ·cases hf;cases hv;exact⟨rd,.refl,h,.ir _ _ _⟩
 obtain⟨d9,x1,k1,v1,_⟩:=G1 h hv hf;exact⟨d9,x1,k1,v1 φ⟩
theorem Tm:∀{us cs aO:List AV}{vs:List Value}{rd:RD}{σ σ':aj},bp rd φ O w0 σ w→PW rd φ cs vs→C3 σ us cs=some (σ',aO)→
  rJ rd φ O w0 w σ' fun rd'=>PW rd' φ aO vs
 | [],[],aO,vs,rd,σ,σ',h,hp,hf=>by cases hf;exact⟨rd,.refl,h,hp⟩
 | u::us,c::cs,aO,vs,rd,σ,σ',h,hp,hf=>by
  obtain⟨v,us,rfl,hr,hp⟩:=hp.kI;simp only[C3]at hf;obtain⟨⟨σ1,c1⟩,h1,hf⟩:=cw hf;obtain⟨⟨σ2,Mw⟩,h2,hf⟩:=cJ hf;cases hf;obtain⟨d9,x1,k1,v1⟩:=Tn h hr h1;obtain⟨dO,x2,k2,v2⟩:=Tm k1 (hp.mono x1.1 (fun _ _ _ _ h=>h)) h2;exact⟨dO,x1.trans x2,k2,PW.cons (v1.mono x2.1 (fun _ _ _ _ h=>h)) v2⟩
 | [],_::_,_,_,_,_,_,_,_,hf=>by cases hf
 | _::_,[],_,_,_,_,_,_,_,hf=>by cases hf
theorem Tk (h:bp rd φ O w0 σ w) {u c c':AV}{v:Value}{σ':aj}(hv:aL rd φ c v) (hf:C5 σ u c=some (σ',c')):
  rJ rd φ O w0 w σ' fun rd'=>aL rd' φ c' v:=by
 unfold C5 at hf;split at hf
 ·obtain⟨arr,rfl,hp⟩:=PW.mq hv;obtain⟨⟨σ1,uo⟩,h1,hf⟩:=cJ hf;cases hf;obtain⟨d9,x1,k1,v1⟩:=Tm h hp h1;exact⟨d9,x1,k1,PW.agg v1⟩
 exact Tn h hv hf
theorem Tl:∀{us cs aO:List AV}{vs:List Value}{rd:RD}{σ σ':aj},bp rd φ O w0 σ w→PW rd φ cs vs→C2 σ us cs=some (σ',aO)→
  aO.length=cs.length∧rJ rd φ O w0 w σ' fun rd'=>PW rd' φ aO vs
 | [],[],aO,vs,rd,σ,σ',h,hp,hf=>by cases hf;exact⟨rfl,rd,.refl,h,hp⟩
 | u::us,c::cs,aO,vs,rd,σ,σ',h,hp,hf=>by
  obtain⟨v,us,rfl,hr,hp⟩:=hp.kI;simp only[C2]at hf;obtain⟨⟨σ1,c1⟩,h1,hf⟩:=cw hf;obtain⟨⟨σ2,Mw⟩,h2,hf⟩:=cJ hf;cases hf;obtain⟨d9,x1,k1,v1⟩:=Tk h hr h1;obtain⟨hlen,dO,x2,k2,v2⟩:=Tl k1 (hp.mono x1.1 (fun _ _ _ _ h=>h)) h2;exact⟨by simp[hlen],dO,x1.trans x2,k2,PW.cons (v1.mono x2.1 (fun _ _ _ _ h=>h)) v2⟩
 | [],_::_,_,_,_,_,_,_,_,hf=>by cases hf
 | _::_,[],_,_,_,_,_,_,_,hf=>by cases hf
theorem Fk {vs:List AV}(h:vs.length≠1):pX vs=.ba vs:=by
 match vs with
 | []=>rfl
 | [x]=>exact absurd rfl h
 | _::_::_=>rfl
theorem Tp (h:bp rd φ O w0 σ w) {res:AV}{vs o5:List AV}{v:Value}{σ':aj}(hv:aL rd φ (pX vs) v) (hf:C6 σ res vs=some (σ',o5)):
  rJ rd φ O w0 w σ' fun rd'=>aL rd' φ (pX o5) v:=by
 unfold C6 at hf;split at hf
 ·obtain⟨⟨σ1,c1⟩,h1,hf⟩:=cJ hf;cases hf;exact Tk h hv h1
 rename_i bO;have hl:vs.length≠1:=fun e=>by
  match vs,e with
  | [x],_=>exact bO x rfl
 split at hf
 ·rename_i us;rw[Fk hl]at hv;obtain⟨arr,rfl,hp⟩:=PW.tE hv;obtain⟨hlen,d9,x1,k1,v1⟩:=Tl h hp hf;rw[show pX o5=.ba o5 from Fk (by rw[hlen];exact hl)];exact⟨d9,x1,k1,PW.ba v1⟩
 cases hf
end
def qO (u c:AV) (σ:aj) (G:Nat):AV × aj × Nat:=match c with
 | .aG=>match u with
  | .au _ _ _ sz _ _=>(.au (800000+G) G [] sz 0 0,bQ σ (800000+G) (G,one ⟨sz,[],2,false⟩),G+1)
  | _=>(.aG,σ,G)
 | c=>(c,σ,G)
def uX:List AV→List AV→aj→Nat→List AV × aj × Nat
 | u::us,c::cs,σ,G=>((qO u c σ G).1::(uX us cs (qO u c σ G).2.1 (qO u c σ G).2.2).1,(uX us cs (qO u c σ G).2.1 (qO u c σ G).2.2).2)
 | _,cs,σ,G=>(cs,σ,G)
def uW (u c:AV) (σ:aj) (G:Nat):AV × aj × Nat:=match c with
 | .agg cs=>match u with
  | .agg us=>(.agg (uX us cs σ G).1,(uX us cs σ G).2)
  | _=>(.agg cs,σ,G)
 | c=>qO u c σ G
def AR (rd:RD) (φ:b9) (O:Nat→Prop) (w0 w:World) (X:(b9→Prop)) (σ':aj) (G':Nat):Prop:=
 ∃φ',(∀r g p pl,φ r g p=some pl→φ' r g p=some pl)∧bp rd φ' O w0 σ' w∧(∀r g p,φ' r g p≠none→g<G')∧X φ'
theorem QU {rd:RD}{φ:b9}{O:Nat→Prop}{w0 w:World}{σ:aj}{u c:AV}{v:Value}{G:Nat}(h:bp rd φ O w0 σ w) (hg:∀r g p,φ r g p≠none→g<G) (hv:aL rd φ c v):
  AR rd φ O w0 w (fun φ'=>aL rd φ' (qO u c σ G).1 v) (qO u c σ G).2.1 (qO u c σ G).2.2:=by
 have same:AR rd φ O w0 w (fun φ'=>aL rd φ' c v) σ G:=⟨φ,fun _ _ _ _ h=>h,h,hg,hv⟩;unfold qO;split
 ·split
  ·rename_i r g p sz off len;cases hv;have dJ:∀q,φ (800000+G) G q=none:=fun q=>by
    cases hh:φ (800000+G) G q with
    | none=>rfl
    | some x=>exact absurd (hg _ _ _ (by rw[hh];simp)) (Nat.lt_irrefl G)
   have hn:=h.JT dJ sz 2;refine⟨_,hn.2,hn.1,fun r g p hp=>?_,?_⟩
   ·unfold dz at hp;split at hp
    ·rename_i e;rw[e.2];exact Nat.lt_succ_self G
    exact Nat.lt_succ_of_lt (hg _ _ _ hp)
   exact .au (800000+G) G [] sz 0 0 ⟨none,0⟩ none (by simp[dz]) (.inl rfl) (aQ _)
  exact same
 exact same
theorem QT:∀{us cs:List AV}{vs:List Value}{rd:RD}{φ:b9}{O:Nat→Prop}{w0 w:World}{σ:aj}{G:Nat},bp rd φ O w0 σ w→(∀r g p,φ r g p≠none→g<G)→PW rd φ cs vs→
  AR rd φ O w0 w (fun φ'=>PW rd φ' (uX us cs σ G).1 vs) (uX us cs σ G).2.1 (uX us cs σ G).2.2
 | u::us,c::cs,vs,rd,φ,O,w0,w,σ,G,h,hg,hp=>by
  obtain⟨v,vs,rfl,hr,hp⟩:=hp.kI;obtain⟨φ1,x1,h1,g1,v1⟩:=QU (u:=u) h hg hr;obtain⟨φ2,x2,h2,g2,v2⟩:=QT (us:=us) h1 g1 (hp.mono (fun _ _ _ h=>h) x1);exact⟨φ2,fun r g p pl hh=>x2 _ _ _ _ (x1 _ _ _ _ hh),h2,g2,PW.cons (v1.mono (fun _ _ _ h=>h) x2) v2⟩
 | [],cs,vs,rd,φ,O,w0,w,σ,G,h,hg,hp=>⟨φ,fun _ _ _ _ h=>h,h,hg,hp⟩
 | _::_,[],vs,rd,φ,O,w0,w,σ,G,h,hg,hp=>⟨φ,fun _ _ _ _ h=>h,h,hg,hp⟩
theorem QR {rd:RD}{φ:b9}{O:Nat→Prop}{w0 w:World}{σ:aj}{u c:AV}{v:Value}{G:Nat}(h:bp rd φ O w0 σ w) (hg:∀r g p,φ r g p≠none→g<G) (hv:aL rd φ c v):
  AR rd φ O w0 w (fun φ'=>aL rd φ' (uW u c σ G).1 v) (uW u c σ G).2.1 (uW u c σ G).2.2:=by
 unfold uW;split
 ·split
  ·obtain⟨arr,rfl,hp⟩:=PW.mq hv;obtain⟨φ1,x1,h1,g1,v1⟩:=QT h hg hp;exact⟨φ1,x1,h1,g1,PW.agg v1⟩
  exact⟨φ,fun _ _ _ _ h=>h,h,hg,hv⟩
 exact QU h hg hv
def mY:List AV→List AV→aj→Nat→List AV × aj × Nat
 | u::us,v::vs,σ,G=>match uW u v σ G with
  | (v',σ',G')=>match mY us vs σ' G' with
   | (o5,x)=>(v'::o5,x)
 | _,vs,σ,G=>(vs,σ,G)
def uJ (res:AV):List AV→List AV
 | [_]=>[res]
 | _=>match res with
  | .ba us=>us
  | _=>[]
theorem JP:∀{us cs:List AV}{vs:List Value}{rd:RD}{φ:b9}{O:Nat→Prop}{w0 w:World}{σ:aj}{G:Nat},bp rd φ O w0 σ w→(∀r g p,φ r g p≠none→g<G)→PW rd φ cs vs→
  (mY us cs σ G).1.length=cs.length∧AR rd φ O w0 w (fun φ'=>PW rd φ' (mY us cs σ G).1 vs) (mY us cs σ G).2.1 (mY us cs σ G).2.2
 | u::us,c::cs,vs,rd,φ,O,w0,w,σ,G,h,hg,hp=>by
  obtain⟨v,vs,rfl,hr,hp⟩:=hp.kI;obtain⟨φ1,x1,h1,g1,v1⟩:=QR (u:=u) h hg hr;obtain⟨hl,φ2,x2,h2,g2,v2⟩:=JP (us:=us) h1 g1 (hp.mono (fun _ _ _ h=>h) x1);exact⟨by simp only[mY,List.length_cons,hl],φ2,fun r g p pl hh=>x2 _ _ _ _ (x1 _ _ _ _ hh),h2,g2,PW.cons (v1.mono (fun _ _ _ h=>h) x2) v2⟩
 | [],cs,vs,rd,φ,O,w0,w,σ,G,h,hg,hp=>⟨rfl,φ,fun _ _ _ _ h=>h,h,hg,hp⟩
 | _::_,[],vs,rd,φ,O,w0,w,σ,G,h,hg,hp=>⟨rfl,φ,fun _ _ _ _ h=>h,h,hg,hp⟩
theorem QS {rd:RD}{φ:b9}{O:Nat→Prop}{w0 w:World}{σ:aj}{us cs:List AV}{v:Value}{G:Nat}(h:bp rd φ O w0 σ w) (hg:∀r g p,φ r g p≠none→g<G) (hv:aL rd φ (pX cs) v):
  AR rd φ O w0 w (fun φ'=>aL rd φ' (pX (mY us cs σ G).1) v) (mY us cs σ G).2.1 (mY us cs σ G).2.2:=by
 by_cases hl:cs.length=1
 ·match cs,hl with
  | [c],_=>
   have hp:PW rd φ [c] [v]:=PW.cons hv ⟨rfl,fun j c hc=>by simp at hc⟩;obtain⟨hlen,φ',x1,h1,g1,v1⟩:=JP (us:=us) h hg hp;refine⟨φ',x1,h1,g1,?_⟩;generalize (mY us [c] σ G).1=aO at *
   match aO,hlen with
   | [c'],_=>
    obtain⟨v',o5,e,hr,-⟩:=v1.kI;cases e;exact hr
 rw[Fk hl]at hv;obtain⟨arr,rfl,hp⟩:=PW.tE hv;obtain⟨hlen,φ',x1,h1,g1,v1⟩:=JP (us:=us) h hg hp;exact⟨φ',x1,h1,g1,by rw[Fk (by rw[hlen];exact hl)];exact PW.ba v1⟩
def Ig (res:AV) (rf:List (List Nat × Row)):List AV × aj × Nat→Prop
 | (vs,σ,_)=>match C6 σ res vs with
  | some (σ1,qH)=>match LU σ1 qH with
   | some (v,l)=>v7 l=true∧v=res∧rowsOf l=rf
   | none=>False
  | none=>False
def Ic (P:Program) (fn:Func) (s:St) (res:AV) (rf:List (List Nat × Row)):Prop:=
 match tc P s fn.results.toList with
 | some vs=>Ig res rf (mY (uJ res vs) vs s.σ s.G)
 | none=>False
def PH (P:Program) (fn:Func) (res:AV) (rf:List (List Nat × Row)):Exit→St→Prop
 | .ret,s=>Ic P fn s res rf
 | .normal,s=>Ic P fn s res rf
 | _,_=>False
def nj:Nat→List AV→List (Nat × AV)
 | _,[]=>[]
 | k,v::vs=>(k,v)::nj (k+1) vs
theorem Ko:∀(vs:List AV) (k t:Nat) (v:AV),bI (nj k vs) t=some v→k≤t∧vs[t - k]?=some v
 | [],k,t,v,h=>by cases h
 | x::vs,k,t,v,h=>by
  simp only[nj,gx]at h;split at h
  ·rename_i e;subst e;cases h;exact⟨Nat.le_refl _,by simp⟩
  obtain⟨h1,h2⟩:=Ko vs (k+1) t v h;refine⟨by omega,?_⟩;rw[show t - k=(t - (k+1))+1 by omega,List.getElem?_cons_succ];exact h2
theorem afh {P:Program}{n:Nat}{fn:Func}(hf:P.funcs[n]?=some fn) {code:Code}(hb:fn.body=some code) (hn:(fn.name== "runtime.NumGoroutine")=false)
  {args:List AV} {res:AV} {rf:List (List Nat × Row)} (hlen:args.length≤fn.ntmps)
  (hv:vc P code ⟨fn.ntmps,nj 0 args,[],0⟩ (PH P fn res rf)):aR P n args res rf:=by
 refine⟨⟨fn,hf,hn,by rw[hb];rfl⟩,fun w rd eg m9 eY=>?_⟩;have dg:eg.size=args.length:=by rw[eY.1];simp
 have eR:Rel rd (fun _ _ _=>none) (fun _=>False) w ⟨fn.ntmps,nj 0 args,[],0⟩ {tmps:=eg++Array.replicate (fn.ntmps - eg.size) undef,defers:=[]} w:=by
  refine⟨⟨?_,?_,m9,?_,?_,fun _ _ _=>rfl,Nat.le_refl _,rfl,rfl,rfl⟩,?_,by simp;omega,rfl,fun r g p hp=>absurd rfl hp⟩
  ·intro r g p row hr;simp[rowAt,bI]at hr
  ·intro r g p row r' g' p' cq pl cV b q q' hr;simp[rowAt,bI]at hr
  ·intro r g p row pl b q hr;simp[rowAt,bI]at hr
  ·intro r g p row pl b q hr;simp[rowAt,bI]at hr
  intro t v hl;obtain⟨_,h2⟩:=Ko _ _ _ _ hl;obtain⟨cv,h3,h4⟩:=eY.2 t v (by simpa using h2);have h5:eg[t]?=some cv:=by simpa using h3
  have ht:t<eg.size:=by
   rcases bm t eg.size with hx|hx
   ·exact hx
   rw[Array.getElem?_eq_none hx]at h5;cases h5
  have:(eg++Array.replicate (fn.ntmps - eg.size) undef).getD t undef=cv:=by
   rw[Array.getD_eq_getD_getElem?,Array.getElem?_append_left ht,h5];rfl
  rw[this];exact h4
 refine calls_of_wp hf hb (wp_mono (rQ (rd:=((rd,fun _ _ _=>none):kD)) (O:=fun _=>False) (w0:=w) code _ _ hv _ _ ⟨rd,_,.refl,eR⟩) ?_);rintro e a w' ⟨s,hk,d9,φ,hx,hr⟩;have fin:Ic P fn s res rf→a.defers=[]∧∃v,(results fn a.tmps).run P w'=.ok v w'∧∃v' rd' ψ,Ending.returned v=.returned v'∧Ext (fun _=>False) w rd rd'∧bp rd' (jQ ψ) (fun _=>False) w (kK rf) w'∧aL rd' (jQ ψ) res v':=by
  intro hk;unfold Ic at hk;split at hk
  ·rename_i vs po;obtain⟨v,eG,qZ⟩:=PI hr po;obtain⟨φ,x0,hh,-,qZ⟩:=QS (us:=uJ res vs) hr.heap hr.gen qZ;generalize mY (uJ res vs) vs s.σ s.G=X at hk hh qZ;obtain⟨A9,σ0,G0⟩:=X;unfold Ig at hk;simp only at hk hh qZ;split at hk
   ·rename_i σ1 qH gz;split at hk
    ·rename_i v0 l hg;obtain⟨k1,k2,k3⟩:=hk;obtain⟨dO,x2,h2,v2⟩:=Tp hh qZ gz;obtain⟨g1,g2⟩:=adz v2 hg;refine⟨hr.defers,v,eG,v,dO,zo φ l,rfl,hx.1.trans x2,?_,?_⟩
     ·rw[←k3];exact h2.back g1 k1
     rw[←k2];exact g2 _ (Jx k1)
    cases hk
   cases hk
  cases hk
 cases e with
 | ret=>exact fin hk
 | normal=>exact fin hk
 | _=>cases hk
def Jh (σ:aj) (σout:aj) (vs:List AV):d6:=mN false σ 1 30 0 (wD σout) (Fz vs++Bu σ (wD σout))
def N0 (L:d6) (σ1:aj) (v:AV) (res:AV) (σout:aj):Prop:=(l7 L=true∧Bj L=true)∧mi σ1 (iy L) L=some σout∧zD (iy L) v=res
def NZ (res:AV) (σout:aj):List AV × aj × Nat→Prop
 | (vs,σ,_)=>match C6 σ res vs with
  | some (σ1,qH)=>N0 (Jh σ1 σout qH) σ1 (pX qH) res σout
  | none=>False
def mR (P:Program) (rs:List ResultVar) (s:St) (res:AV) (σout:aj):Prop:=
 match tc P s rs with
 | some vs=>NZ res σout (mY (uJ res vs) vs s.σ s.G)
 | none=>False
def Zh (P:Program) (rs:List ResultVar) (res:AV) (σout:aj):Exit→St→Prop
 | .ret,s=>mR P rs s res σout
 | .normal,s=>mR P rs s res σout
 | _,_=>False
theorem UK {P:Program}{n:Nat}{fn:Func}(hf:P.funcs[n]?=some fn) {code:Code}(hb:fn.body=some code) (hn:(fn.name== "runtime.NumGoroutine")=false)
  {σin:aj} {args:List AV} {res:AV} {σout:aj} (hlen:args.length≤fn.ntmps)
  (hv:vc P code ⟨fn.ntmps,nj 0 args,σin,1⟩ (Zh P fn.results.toList res σout)):bb P n σin args res σout:=by
 refine⟨⟨fn,hf,hn,by rw[hb];rfl⟩,fun w rd φ eg qn hh eY=>?_⟩;have dg:eg.size=args.length:=by rw[eY.1];simp
 have eR:Rel rd φ (gO φ σin) w ⟨fn.ntmps,nj 0 args,σin,1⟩ {tmps:=eg++Array.replicate (fn.ntmps - eg.size) undef,defers:=[]} w:=by
  refine⟨hh,?_,by simp;omega,rfl,fun r g p hp=>by have:=qn r g p hp;show g<1;omega⟩;intro t v hl;obtain⟨_,h2⟩:=Ko _ _ _ _ hl;obtain⟨cv,h3,h4⟩:=eY.2 t v (by simpa using h2);have h5:eg[t]?=some cv:=by simpa using h3
  have ht:t<eg.size:=by
   rcases bm t eg.size with hx|hx
   ·exact hx
   rw[Array.getElem?_eq_none hx]at h5;cases h5
  have:(eg++Array.replicate (fn.ntmps - eg.size) undef).getD t undef=cv:=by
   rw[Array.getD_eq_getD_getElem?,Array.getElem?_append_left ht,h5];rfl
  rw[this];exact h4
 refine calls_of_wp hf hb (wp_mono (rQ (rd:=(rd,φ)) (O:=gO φ σin) (w0:=w) code _ _ hv _ _ ⟨rd,φ,.refl,eR⟩) ?_);rintro e a w' ⟨s,hk,d9,φ1,hx,hr⟩;have fin:mR P fn.results.toList s res σout→a.defers=[]∧∃v,(results fn a.tmps).run P w'=.ok v w'∧∃v' rd' φ',Ending.returned v=.returned v'∧Ext (gO φ σin) w rd rd'∧(∀r p pl,φ r 0 p=some pl→1000000≤r→φ' r 0 p=some pl)∧bp rd' φ' (gO φ σin) w σout w'∧aL rd' φ' res v':=by
  intro hk;unfold mR at hk;split at hk
  ·rename_i vs po;obtain⟨v,eG,qZ⟩:=PI hr po;obtain⟨φ2,x0,hh,-,qZ⟩:=QS (us:=uJ res vs) hr.heap hr.gen qZ;generalize mY (uJ res vs) vs s.σ s.G=X at hk hh qZ;obtain⟨A9,σ0,G0⟩:=X;unfold NZ at hk;simp only at hk hh qZ;split at hk
   ·rename_i σ1 qH gz;unfold N0 at hk;generalize Jh σ1 σout qH=L at hk;obtain⟨⟨hd,aE⟩,acF,Gw⟩:=hk;obtain⟨dO,x2,h2,v2⟩:=Tp hh qZ gz;refine⟨hr.defers,v,eG,v,dO,wO φ2 L,rfl,hx.1.trans x2,fun r p pl e fQ=>Qn aE r p pl (x0 _ _ _ _ (hx.2 r p pl e fQ)) fQ,(h2.EW hd acF).Qo Fj,?_⟩;rw[←Gw];exact(J5 (zs hd) v2).mono (fun _ _ _ h=>h) Fj
   cases hk
  cases hk
 cases e with
 | ret=>exact fin hk
 | normal=>exact fin hk
 | _=>cases hk
end
end Go.Proofs.YtobpfkgabdeefaaGreat.E
