/- An evaluator of the model's code, proved sound (E2): V W X Z N Q O P H. -/
import Derived.Test.YtobpfkgabdeefaaGreatQ0
import Derived.Carry
import Derived.WideKeyRuns
import Derived.Lib.ConvBytes
import Derived.Laws.RangeString
import Derived.ChangeMaps4
namespace Go.Proofs.YtobpfkgabdeefaaGreat.E
section
open Go Go.RowKit
set_option linter.unusedVariables false
abbrev NF:=Nat->Nat->Option (Nat × Nat)
def oO (N:NF):AV->AV
 | .aw r g p sz off len=>match N r g with
  | some x=>.aw x.1 x.2 p sz off len
  | none=>.dead
 | .ptr r g p sz i o=>match N r g with
  | some x=>.ptr x.1 x.2 p sz i o
  | none=>.dead
 | .mr r g p=>match N r g with
  | some x=>.mr x.1 x.2 p
  | none=>.dead
 | .agg _=>.dead
 | .aZ _=>.dead
 | v=>v
def mapA (N:NF):AV->AV
 | .agg cs=>.agg (cs.map (oO N))
 | v=>oO N v
def zx (N:NF):AV->AV
 | .aZ vs=>.aZ (vs.map (mapA N))
 | v=>mapA N v
def ma (N:NF) (row:Row):Row:=match Nat.ble 1 row.fl with
 | true=>row
 | false=>⟨row.sz,row.es.map fun e=>e.map (oO N),row.fl,row.ao⟩
def iP (N:NF) (f:d9):d9:=fun p=>match f p with
 | some row=>some (ma N row)
 | none=>none
theorem abr {N:NF}{row:Row}:iP N (one row)=one (ma N row):=by
 funext p;cases p<;>rfl
def tC (N:NF) (φ φ':cj):Prop:=∀r g x p pl,N r g=some x->φ r g p=some pl->φ' x.1 x.2 p=some pl
section
variable {P:Program}{rd:RD}{φ φ':cj}{O:Nat->Prop}{w0 w:World}{σ σ':ak}{N:NF}
theorem J4 (hN:tC N φ φ') {c:AV}{v:Value}(h:aL rd φ c v):aL rd φ' (oO N c) v:=by
 cases h with
 | aw r g p sz off len pl A hφ hA hl=>
  simp only[oO];split
  ·rename_i x hx;exact .aw _ _ p sz off len pl A (hN _ _ _ _ _ hx hφ) hA hl
  exact .dead _
 | ptr r g p sz i o pl b q hφ aK=>
  simp only[oO];split
  ·rename_i x hx;exact .ptr _ _ p sz i o pl b q (hN _ _ _ _ _ hx hφ) aK
  exact .dead _
 | dead v=>exact .dead v
 | sc v h=>exact .sc v h
 | aG=>exact .aG
 | iC sz A cap=>exact .iC sz A cap
 | ro sz es b q cap f hc hs hr hv=>exact(aL.ro sz es b q cap f hc hs hr hv).l9 rfl
 | rp cs b q f hs hr hv=>exact(aL.rp cs b q f hs hr hv).l9 rfl
 | agg=>exact .dead _
 | aZ=>exact .dead _
 | it r=>exact .it r
 | mr r g p pl b hφ aK=>
  simp only[oO];cases hn:N r g with
  | none=>exact .dead _
  | some x=>exact .mr _ _ p pl b (hN _ _ _ _ _ hn hφ) aK
theorem BV (hN:tC N φ φ') {c:AV}{v:Value}(h:aL rd φ c v):aL rd φ' (mapA N c) v:=by
 cases c with
 | agg cs=>
  obtain⟨arr,rfl,hp⟩:=PW.mM h;exact PW.agg (hp.map (J4 hN))
 | _=>exact J4 hN h
theorem J0 (hN:tC N φ φ') {c:AV}{v:Value}(h:aL rd φ c v):aL rd φ' (zx N c) v:=by
 cases c with
 | aZ cs=>
  obtain⟨arr,rfl,hp⟩:=PW.tS h;exact PW.aZ (hp.map (BV hN))
 | _=>exact BV hN h
theorem Ro (N:NF) (row:Row):(ma N row).sz=row.sz/\(ma N row).es.length=row.es.length/\(ma N row).ao=row.ao:=by
 unfold ma;split
 ·exact⟨rfl,rfl,rfl⟩
 exact⟨rfl,by simp,rfl⟩
theorem mF.map (hN:tC N φ φ') {pl:Pl}{row:Row}(h:mF rd φ w pl row):mF rd φ' w pl (ma N row):=by
 unfold ma;split
 ·rename_i hf;have hf:=Nat.le_of_ble_eq_true hf;refine⟨h.wide,h.len,h.kind,h.nil,h.room,fun b q aK i j c hc=>?_,h.iI,h.mp⟩;obtain⟨v,hv,hr⟩:=h.cells b q aK i j c hc;refine⟨v,hv,hr.l9 ?_⟩;cases he:row.es[i]? with
  | none=>rw[he]at hc;cases hc
  | some e=>
   rw[he]at hc;have:=(h.kind e (dk he)).1 hf c (dk hc);cases c<;>first|rfl|cases this
 rename_i hf;have hf0:row.fl=0:=by
  rcases Nat.eq_zero_or_pos row.fl with h0|h0
  ·exact h0
  rw[Nat.ble_eq_true_of_le h0]at hf;cases hf
 refine⟨fun e he=>?_,by simpa using h.len,fun e he=>⟨fun h1=>?_,fun h1=>?_⟩,h.nil,h.room,fun b q aK i j c hc=>?_,fun ha=>?_,lI (by show row.fl<3;omega)⟩
 ·obtain⟨e',Lk,rfl⟩:=List.mem_map.1 he
  simpa using h.wide e' Lk
 ·simp only at h1;omega
 ·simp only at h1;omega
 ·simp only[List.getElem?_map]at hc;cases he:row.es[i]? with
  | none=>rw[he]at hc;cases hc
  | some e=>
   rw[he]at hc;simp only[Option.map_some,Option.bind_some,List.getElem?_map]at hc;obtain⟨c',sY,rfl⟩:=cP hc;obtain⟨v,hv,hr⟩:=h.cells b q aK i j c' (by rw[he];exact sY);exact⟨v,hv,J4 hN hr⟩
 have:=(h.iI ha).1;omega
theorem PA {σ:ak}{r g g':Nat}{p p':List Nat}{row cC:Row}(h:rowAt σ r g p=some row) (k:rowAt σ r g' p'=some cC):g=g':=by
 unfold rowAt at h k;cases hl:bE σ r with
 | none=>rw[hl]at h;cases h
 | some x=>
  rw[hl]at h k;simp only at h k;split at h
  ·split at k
   ·rename_i h1 h2;exact h1.symm.trans h2
   cases k
  cases h
theorem bc.PR (h:bc rd φ O w0 σ w) (hN:tC N φ φ')
  (hσ:∀r' g' p cC,rowAt σ' r' g' p=some cC->∃r g row,rowAt σ r g p=some row/\N r g=some (r',g')/\cC=ma N row):bc rd φ' O w0 σ' w:=by
 refine⟨?_,?_,h.eA,?_,?_,h.frame,h.size,h.os,h.tape,h.output⟩
 ·intro r' g' p cC hr;obtain⟨r,g,row,h1,h2,rfl⟩:=hσ _ _ _ _ hr;obtain⟨pl,h3,h4⟩:=h.rows _ _ _ _ h1;exact⟨pl,hN _ _ _ _ _ h2 h3,h4.map hN⟩
 ·intro r' g' p cC r2' g2' p2 aiE pl de b q q2 e1 e2 e3 e4 e5 e6;obtain⟨r,g,row,h1,h2,rfl⟩:=hσ _ _ _ _ e1;obtain⟨r2,g2,bt,k1,k2,rfl⟩:=hσ _ _ _ _ e2;obtain⟨jm,h3,_⟩:=h.rows _ _ _ _ h1;obtain⟨pl3,k3,_⟩:=h.rows _ _ _ _ k1;rw[hN _ _ _ _ _ h2 h3]at e3;rw[hN _ _ _ _ _ k2 k3]at e4;cases e3;cases e4;obtain⟨rfl,rfl⟩:=h.sep _ _ _ _ _ _ _ _ _ _ _ _ _ h1 k1 h3 k3 e5 e6;have:=PA h1 k1;subst this;rw[h2]at k2;cases k2;exact⟨rfl,rfl⟩
 ·intro r' g' p cC pl b q e1 e2 e3 k dI;obtain⟨r,g,row,h1,h2,rfl⟩:=hσ _ _ _ _ e1;obtain⟨jm,h3,_⟩:=h.rows _ _ _ _ h1;rw[hN _ _ _ _ _ h2 h3]at e2;cases e2;obtain⟨m1,m2,m3⟩:=Ro N row;rw[m1,m2,m3]at dI;exact h.eF _ _ _ _ _ _ _ h1 h3 e3 k dI
 intro r' g' p cC pl b q e1 e2 e3;obtain⟨r,g,row,h1,h2,rfl⟩:=hσ _ _ _ _ e1;obtain⟨jm,h3,_⟩:=h.rows _ _ _ _ h1;rw[hN _ _ _ _ _ h2 h3]at e2;cases e2;exact h.own _ _ _ _ _ _ _ h1 h3 e3
abbrev eg:=List ((Nat × Nat) × (Nat × Nat))
def iF:eg->NF
 | [],_,_=>none
 | x::l,r,g=>match x.1.1==r with
  | true=>match Nat.beq x.1.2 g with
   | true=>some x.2
   | false=>iF l r g
  | false=>iF l r g
def sI:eg->NF
 | [],_,_=>none
 | x::l,r,g=>match x.2.1==r with
  | true=>match Nat.beq x.2.2 g with
   | true=>some x.1
   | false=>sI l r g
  | false=>sI l r g
def mI (σ:ak) (N:NF):eg->Option ak
 | []=>some []
 | x::l=>(bE σ x.1.1).bind fun gf=>match Nat.beq gf.1 x.1.2 with
  | true=>(gf.2 []).bind fun _=>(mI σ N l).map fun s=>(x.2.1,(x.2.2,iP N gf.2))::s
  | false=>none
def CQ (l:eg) (r:Nat):Bool:=l.any fun x=>x.1.1==r
def GQ (l:eg) (r:Nat):Bool:=l.any fun x=>x.2.1==r
def mC:eg->Bool
 | []=>true
 | x::l=>match CQ l x.1.1,GQ l x.2.1 with
  | false,false=>mC l
  | _,_=>false
theorem F4 {l:eg}{r g:Nat}{x:Nat × Nat}(h:iF l r g=some x):((r,g),x)∈l:=by
 induction l with
 | nil=>cases h
 | cons y l ih=>
  simp only[iF]at h;split at h
  ·rename_i h1;split at h
   ·rename_i h2;cases h;have h1:y.1.1=r:=by simpa using h1
    have h2:y.1.2=g:=Nat.eq_of_beq_eq_true h2;subst h1;subst h2;simp
   exact List.mem_cons_of_mem _ (ih h)
  exact List.mem_cons_of_mem _ (ih h)
theorem B7 {l:eg}{r g:Nat}{x:Nat × Nat}(h:sI l r g=some x):(x,(r,g))∈l:=by
 induction l with
 | nil=>cases h
 | cons y l ih=>
  simp only[sI]at h;split at h
  ·rename_i h1;split at h
   ·rename_i h2;cases h;have h1:y.2.1=r:=by simpa using h1
    have h2:y.2.2=g:=Nat.eq_of_beq_eq_true h2;subst h1;subst h2;simp
   exact List.mem_cons_of_mem _ (ih h)
  exact List.mem_cons_of_mem _ (ih h)
theorem S3 {l:eg}{r:Nat}(h:CQ l r=false) {x:(Nat × Nat) × (Nat × Nat)}(hx:x∈l):x.1.1≠r:=by
 intro e;have:CQ l r=true:=List.any_eq_true.2 ⟨x,hx,by simp[e]⟩;rw[this]at h;cases h
theorem S2 {l:eg}{r:Nat}(h:GQ l r=false) {x:(Nat × Nat) × (Nat × Nat)}(hx:x∈l):x.2.1≠r:=by
 intro e;have:GQ l r=true:=List.any_eq_true.2 ⟨x,hx,by simp[e]⟩;rw[this]at h;cases h
theorem L8:∀{l:eg},mC l=true->∀x∈l,∀y∈l,(x.1.1=y.1.1\/x.2.1=y.2.1)->x=y
 | [],_,x,hx,_,_,_=>by simp at hx
 | z::l,h,x,hx,y,hy,e=>by
  simp only[mC]at h;split at h
  ·rename_i h1 h2;rcases List.mem_cons.1 hx with fQ|fQ<;>rcases List.mem_cons.1 hy with qy|qy
   ·rw[fQ,qy]
   ·subst fQ;rcases e with e|e
    ·exact absurd e.symm (S3 h1 qy)
    exact absurd e.symm (S2 h2 qy)
   ·subst qy;rcases e with e|e
    ·exact absurd e (S3 h1 fQ)
    exact absurd e (S2 h2 fQ)
   exact L8 h x fQ y qy e
  cases h
theorem RV {l:eg}(hd:mC l=true) {x:(Nat × Nat) × (Nat × Nat)}(hx:x∈l):iF l x.1.1 x.1.2=some x.2:=by
 induction l with
 | nil=>simp at hx
 | cons y l ih=>
  have gE:=L8 hd;simp only[iF];by_cases h1:y.1.1=x.1.1
  ·have:y=x:=gE y (by simp) x hx (.inl h1);subst this;simp
  have h2:(y.1.1==x.1.1)=false:=by simpa using h1
  rw[h2];have sN:x∈l:=by
   rcases List.mem_cons.1 hx with e|e
   ·exact absurd (by rw[e]) h1
   exact e
  refine ih ?_ sN;simp only[mC]at hd;split at hd
  ·exact hd
  cases hd
theorem RW {l:eg}(hd:mC l=true) {x:(Nat × Nat) × (Nat × Nat)}(hx:x∈l):sI l x.2.1 x.2.2=some x.1:=by
 induction l with
 | nil=>simp at hx
 | cons y l ih=>
  have gE:=L8 hd;simp only[sI];by_cases h1:y.2.1=x.2.1
  ·have:y=x:=gE y (by simp) x hx (.inr h1);subst this;simp
  have h2:(y.2.1==x.2.1)=false:=by simpa using h1
  rw[h2];have sN:x∈l:=by
   rcases List.mem_cons.1 hx with e|e
   ·exact absurd (by rw[e]) h1
   exact e
  refine ih ?_ sN;simp only[mC]at hd;split at hd
  ·exact hd
  cases hd
def kY (φ:cj) (L:eg):cj:=fun r g p=>match sI L r g with
 | some x=>φ x.1 x.2 p
 | none=>none
theorem zm {L:eg}(hd:mC L=true):tC (iF L) φ (kY φ L):=by
 intro r g x p pl hx hp;have:=RW hd (F4 hx);simp only at this;simp only[kY,this,hp]
theorem Jd {N:NF}:∀{L:eg}{σ':ak},mI σ N L=some σ'->∀r' g' p cC,rowAt σ' r' g' p=some cC->∃x∈L,∃row,x.2=(r',g')/\rowAt σ x.1.1 x.1.2 p=some row/\cC=ma N row
 | [],σ',h,r',g',p,cC,hr=>by cases h;simp[rowAt,bE]at hr
 | y::L,σ',h,r',g',p,cC,hr=>by
  simp only[mI]at h;obtain⟨gf,h1,h2⟩:=cG h;split at h2
  ·rename_i hb;obtain⟨lE,h0,h2⟩:=cG h2;obtain⟨s,h3,rfl⟩:=cP h2;have hb:=Nat.eq_of_beq_eq_true hb;unfold rowAt at hr;rw[gR]at hr;by_cases hk:y.2.1=r'
   ·rw[if_pos hk]at hr;simp only at hr;split at hr
    ·rename_i hg;unfold iP at hr;split at hr
     ·rename_i row fF;cases hr;refine⟨y,by simp,row,by rw[<-hk,<-hg],?_,rfl⟩;unfold rowAt;rw[h1];simp[hb,fF]
     cases hr
    cases hr
   rw[if_neg hk]at hr;obtain⟨x,hx,row,e1,e2,e3⟩:=Jd h3 r' g' p cC hr;exact⟨x,List.mem_cons_of_mem _ hx,row,e1,e2,e3⟩
  cases h2
theorem E0 {N:NF}:∀{L:eg}{σ':ak},mI σ N L=some σ'->∀x∈L,∃row,rowAt σ x.1.1 x.1.2 []=some row
 | [],_,_,x,hx=>by simp at hx
 | y::L,σ',h,x,hx=>by
  simp only[mI]at h;obtain⟨gf,h1,h2⟩:=cG h;split at h2
  ·rename_i hb;obtain⟨lE,h0,h2⟩:=cG h2;obtain⟨s,h3,rfl⟩:=cP h2;have hb:=Nat.eq_of_beq_eq_true hb;rcases List.mem_cons.1 hx with rfl|hx
   ·refine⟨lE,?_⟩;unfold rowAt;rw[h1];simp[hb,h0]
   exact E0 h3 x hx
  cases h2
theorem bc.E1 (h:bc rd φ O w0 σ w) {L:eg}(hd:mC L=true) (hr:mI σ (iF L) L=some σ'):bc rd (kY φ L) O w0 σ' w:=
 h.PR (zm hd) fun r' g' p cC fF=>by
  obtain⟨x,hx,row,e1,e2,e3⟩:=Jd hr r' g' p cC fF;refine⟨x.1.1,x.1.2,row,e2,?_,e3⟩;rw[RV hd hx,e1]
def ic (φ:cj) (σ:ak):Nat->Prop:=fun b=>∃r g p row pl q,rowAt σ r g p=some row/\φ r g p=some pl/\pl.ad=some (b,q)
theorem bc.Jf (h:bc rd φ O w0 σ w):bc rd φ (ic φ σ) w σ w:=
 ⟨h.rows,h.sep,h.eA,h.eF,fun r g p row pl b q h1 h2 h3=>⟨.inl ⟨r,g,p,row,pl,q,h1,h2,h3⟩,(h.own _ _ _ _ _ _ _ h1 h2 h3).2⟩,fun _ _ _=>rfl,Nat.le_refl _,rfl,rfl,rfl⟩
def aY (P:Program) (n:Nat) (σin:ak) (args:List AV) (res:AV) (σout:ak):Prop:=
 tB P n/\∀(w:World) (rd:RD) (φ:cj) (ew:Array Value),(∀r g p,φ r g p≠none->g=0)->bc rd φ (ic φ σin) w σin w->PW rd φ args ew.toList->
  Calls P n ew w fun e w'=>∃v rd' φ',e=.returned v/\Ext (ic φ σin) w rd rd'/\(∀r p pl,φ r 0 p=some pl->1000000<=r->φ' r 0 p=some pl)/\bc rd' φ' (ic φ σin) w σout w'/\aL rd' φ' res v
def ph (L:eg) (d G:Nat):NF:=fun k g=>match decide (k<1000000) with
 | true=>match Nat.beq g 0 with
  | true=>some (d+10000 * k,G)
  | false=>none
 | false=>sI L k g
def p6:ak->Nat->ak
 | [],_=>[]
 | (k,v)::l,r=>match k==r with
  | true=>p6 l r
  | false=>(k,v)::p6 l r
def yo (σ:ak):eg->ak
 | []=>σ
 | x::l=>yo (p6 σ x.1.1) l
def u4 (N:NF) (acc:ak):ak->Option ak
 | []=>some acc
 | (k,(g0,f))::l=>match N k g0 with
  | some x=>u4 N (bT acc x.1 (x.2,iP N f)) l
  | none=>none
def vR:ak->Bool
 | []=>true
 | (k,_)::l=>match l.any (fun x=>x.1==k) with
  | true=>false
  | false=>vR l
theorem tY:∀(σ:ak) (r m:Nat),bE (p6 σ r) m=if m=r then none else bE σ m
 | [],r,m=>by simp[p6,bE]
 | (k,v)::l,r,m=>by
  simp only[p6];split
  ·rename_i h;have h:k=r:=by simpa using h
   subst h;rw[tY l,gR];by_cases hm:m=k
   ·simp[hm]
   have:¬k=m:=fun e=>hm e.symm
   simp[hm,this]
  rename_i h;have h:¬k=r:=by simpa using h
  rw[gR,gR,tY l];by_cases hk:k=m
  ·subst hk;simp[h]
  simp[hk]
theorem PB:∀(L:eg) {σ:ak}{r g:Nat}{p:List Nat}{row:Row},rowAt (yo σ L) r g p=some row->rowAt σ r g p=some row/\∀x∈L,x.1.1≠r
 | [],_,_,_,_,_,h=>⟨h,by simp⟩
 | y::L,σ,r,g,p,row,h=>by
  obtain⟨h1,h2⟩:=PB L (σ:=p6 σ y.1.1) h;unfold rowAt at h1;rw[tY]at h1;split at h1
  ·rename_i x hx;split at hx
   ·cases hx
   rename_i bJ;refine⟨?_,fun z hz=>?_⟩
   ·unfold rowAt;rw[hx];exact h1
   rcases List.mem_cons.1 hz with rfl|hz
   ·exact fun e=>bJ e.symm
   exact h2 z hz
  cases h1
theorem RP:∀{σ:ak},vR σ=true->∀{k:Nat}{x:Nat × d9},(k,x)∈σ->bE σ k=some x
 | [],_,_,_,h=>by simp at h
 | (k0,v)::l,hd,k,x,h=>by
  simp only[vR]at hd;split at hd
  ·cases hd
  rename_i hn;rw[gR];rcases List.mem_cons.1 h with e|h
  ·cases e;simp
  rw[if_neg,RP hd h];intro e;subst e;have:l.any (fun x=>x.1==k0)=true:=List.any_eq_true.2 ⟨_,h,by simp⟩;rw[this]at hn;cases hn
theorem Qz {N:NF}:∀{l:ak}{acc σ2:ak},u4 N acc l=some σ2->∀{r g:Nat}{p:List Nat}{cC:Row},rowAt σ2 r g p=some cC->
  (∃k g0 f row,(k,(g0,f))∈l/\N k g0=some (r,g)/\f p=some row/\cC=ma N row)\/rowAt acc r g p=some cC
 | [],_,_,h,_,_,_,_,hr=>by cases h;exact .inr hr
 | (k,(g0,f))::l,acc,σ2,h,r,g,p,cC,hr=>by
  simp only[u4]at h;split at h
  ·rename_i x hx;rcases Qz h hr with ⟨k1,g1,f1,row,h1,h2,h3,h4⟩|h1
   ·exact .inl ⟨k1,g1,f1,row,List.mem_cons_of_mem _ h1,h2,h3,h4⟩
   rw[jM]at h1;by_cases jJ:r=x.1
   ·rw[if_pos jJ]at h1;split at h1
    ·rename_i hg;unfold iP at h1;split at h1
     ·rename_i row fF;cases h1;exact .inl ⟨k,g0,f,row,by simp,by rw[hx,jJ,<-hg],fF,rfl⟩
     cases h1
    cases h1
   rw[if_neg jJ]at h1;exact .inr h1
  cases h
def sx (φ φ':cj) (L:eg) (d G:Nat):cj:=fun r g p=>match iF L r g with
 | some x=>φ' x.1 x.2 p
 | none=>match decide (g=G) with
  | true=>match decide (r=d+10000 * ((r - d)/10000)) with
   | true=>φ' ((r - d)/10000) 0 p
   | false=>φ r g p
  | false=>φ r g p
theorem bc.Sg {rd':RD}{w':World}{d G:Nat}{L:eg}{σin σout σ2:ak}(h:bc rd φ O w0 σ w) (qC:∀r g p,φ r g p≠none->g<G)
  (hL:∀x∈L,1000000<=x.2.1/\x.2.2=0) (hd:mC L=true) (cq:mI σ (iF L) L=some σin) (hk:vR σout=true)
  (hx:Ext (ic (kY φ L) σin) w rd rd') (adb:∀r p pl,kY φ L r 0 p=some pl->1000000<=r->φ' r 0 p=some pl) (k:bc rd' φ' (ic (kY φ L) σin) w σout w')
  (ho:u4 (ph L d G) (yo σ L) σout=some σ2):
  bc rd' (sx φ φ' L d G) O w0 σ2 w'/\(∀r g p pl,φ r g p=some pl->sx φ φ' L d G r g p=some pl)/\tC (ph L d G) φ' (sx φ φ' L d G)/\Ext O w0 rd rd':=by
 have Lw:=E0 cq;have CG:∀x∈L,x.1.2<G:=fun x xF=>by
  obtain⟨row,fF⟩:=Lw x xF;obtain⟨pl,hp,_⟩:=h.rows _ _ _ _ fF;exact qC _ _ [] (by rw[hp];simp)
 have fT:∀r g p pl,φ r g p=some pl->sx φ φ' L d G r g p=some pl:=by
  intro r g p pl hp;unfold sx;split
  ·rename_i x t9;have hm:=F4 t9;have:=zm hd (φ:=φ) _ _ _ _ _ t9 hp;obtain⟨e1,e2⟩:=hL _ hm;simp only at e1 e2;rw[e2]at this ⊢;exact adb _ _ _ this e1
  split
  ·rename_i hg;have hg:=of_decide_eq_true hg;subst hg;exact absurd (qC _ _ _ (by rw[hp];simp)) (Nat.lt_irrefl _)
  exact hp
 have hM:tC (ph L d G) φ' (sx φ φ' L d G):=by
  intro r g x p pl t9 hp;unfold ph at t9;split at t9
  ·rename_i ab;have ab:=of_decide_eq_true ab;split at t9
   ·rename_i hg;have hg:=Nat.eq_of_beq_eq_true hg;cases t9;subst hg;unfold sx;have eU:iF L (d+10000 * r) G=none:=by
     cases hl:iF L (d+10000 * r) G with
     | none=>rfl
     | some y=>exact absurd (CG _ (F4 hl)) (Nat.lt_irrefl _)
    simp only[eU];have e:(d+10000 * r - d)/10000=r:=by omega
    rw[e];simp[hp]
   cases t9
  have hm:=B7 t9;have hn:=RV hd hm;simp only at hn;unfold sx;rw[hn];exact hp
 have S7:∀b,ic (kY φ L) σin b->∃x∈L,∃p row pl q,rowAt σ x.1.1 x.1.2 p=some row/\φ x.1.1 x.1.2 p=some pl/\pl.ad=some (b,q):=by
  rintro b ⟨r,g,p,row,pl,q,h1,h2,h3⟩;obtain⟨x,xF,lE,e1,e2,e3⟩:=Jd cq _ _ _ _ h1;refine⟨x,xF,p,lE,pl,q,e2,?_,h3⟩;have:=RW hd xF;rw[e1]at this;simp only[kY,this]at h2;exact h2
 have cA:∀{r g p cC},rowAt σ2 r g p=some cC->(∃k0 g0 row,rowAt σout k0 g0 p=some row/\ph L d G k0 g0=some (r,g)/\cC=ma (ph L d G) row)\/(rowAt σ r g p=some cC/\∀x∈L,x.1.1≠r):=by
  intro r g p cC hr;rcases Qz ho hr with ⟨k0,g0,f,row,h1,h2,h3,h4⟩|h1
  ·refine .inl ⟨k0,g0,row,?_,h2,h4⟩;unfold rowAt;rw[RP hk h1];simp[h3]
  exact .inr (PB L h1)
 have Cv:∀{r g p row pl b q},rowAt σ r g p=some row->(∀x∈L,x.1.1≠r)->φ r g p=some pl->pl.ad=some (b,q)->¬ic (kY φ L) σin b:=by
  intro r g p row pl b q h1 h2 h3 h4 hb;obtain⟨x,xF,p',cC,cZ,q',e1,e2,e3⟩:=S7 b hb;exact h2 x xF (h.sep _ _ _ _ _ _ _ _ _ _ _ _ _ e1 h1 e2 h3 e3 h4).1
 have ab:∀{r g p row pl b q},rowAt σ r g p=some row->φ r g p=some pl->pl.ad=some (b,q)->b<w.heap.size:=fun h1 h2 h3=>(h.own _ _ _ _ _ _ _ h1 h2 h3).2
 have KL:∀b,ic (kY φ L) σin b->O b\/w0.heap.size<=b:=by
  intro b hb;obtain⟨x,xF,p',cC,cZ,q',e1,e2,e3⟩:=S7 b hb;exact(h.own _ _ _ _ _ _ _ e1 e2 e3).1
 refine⟨⟨?_,?_,k.eA,?_,?_,?_,Nat.le_trans h.size k.size,k.os.trans h.os,k.tape.trans h.tape,k.output.trans h.output⟩,fT,hM,hx.1,fun b o hb hO=>hx.2 b o (Nat.lt_of_lt_of_le hb h.size) fun hc=>?_⟩
 ·intro r g p cC hr;rcases cA hr with ⟨k0,g0,row,h1,h2,rfl⟩|⟨h1,h2⟩
  ·obtain⟨pl,h3,h4⟩:=k.rows _ _ _ _ h1;exact⟨pl,hM _ _ _ _ _ h2 h3,h4.map hM⟩
  obtain⟨pl,h3,h4⟩:=h.rows _ _ _ _ h1;refine⟨pl,fT _ _ _ _ h3,(h4.of_same (fun b q aK k'=>?_) fun b q aK es ck e=>by rw[k.frame b (ab h1 h3 aK) (Cv h1 h2 h3 aK)];exact e).mono hx.1 fT⟩;have:=k.frame b (ab h1 h3 aK) (Cv h1 h2 h3 aK);exact⟨World.cell?_of_block this,World.frozen?_of_block this⟩
 ·intro r g p row r' g' p' cC pl cZ b q q' h1 h2 h3 h4 h5 h6;rcases cA h1 with ⟨k0,g0,lE,a1,a2,rfl⟩|⟨a1,a2⟩<;>rcases cA h2 with ⟨k1,g1,fy,b1,b2,rfl⟩|⟨b1,b2⟩
  ·obtain⟨pa,a3,_⟩:=k.rows _ _ _ _ a1;obtain⟨pb,b3,_⟩:=k.rows _ _ _ _ b1;rw[hM _ _ _ _ _ a2 a3]at h3;rw[hM _ _ _ _ _ b2 b3]at h4;cases h3;cases h4;obtain⟨rfl,rfl⟩:=k.sep _ _ _ _ _ _ _ _ _ _ _ _ _ a1 b1 a3 b3 h5 h6;have:=PA a1 b1;subst this;rw[a2]at b2;cases b2;exact⟨rfl,rfl⟩
  ·obtain⟨pa,a3,_⟩:=k.rows _ _ _ _ a1;rw[hM _ _ _ _ _ a2 a3]at h3;cases h3;obtain⟨pb,b3,_⟩:=h.rows _ _ _ _ b1;rw[fT _ _ _ _ b3]at h4;cases h4;rcases(k.own _ _ _ _ _ _ _ a1 a3 h5).1 with hh|hh
   ·exact absurd hh (Cv b1 b2 b3 h6)
   exact absurd (ab b1 b3 h6) (by omega)
  ·obtain⟨pb,b3,_⟩:=k.rows _ _ _ _ b1;rw[hM _ _ _ _ _ b2 b3]at h4;cases h4;obtain⟨pa,a3,_⟩:=h.rows _ _ _ _ a1;rw[fT _ _ _ _ a3]at h3;cases h3;rcases(k.own _ _ _ _ _ _ _ b1 b3 h6).1 with hh|hh
   ·exact absurd hh (Cv a1 a2 a3 h5)
   exact absurd (ab a1 a3 h5) (by omega)
  obtain⟨pa,a3,_⟩:=h.rows _ _ _ _ a1;obtain⟨pb,b3,_⟩:=h.rows _ _ _ _ b1;rw[fT _ _ _ _ a3]at h3;rw[fT _ _ _ _ b3]at h4;cases h3;cases h4;exact h.sep _ _ _ _ _ _ _ _ _ _ _ _ _ a1 b1 a3 b3 h5 h6
 ·intro r g p cC pl b q h1 h2 h3 i dI;rcases cA h1 with ⟨k0,g0,lE,a1,a2,rfl⟩|⟨a1,a2⟩
  ·obtain⟨pa,a3,_⟩:=k.rows _ _ _ _ a1;rw[hM _ _ _ _ _ a2 a3]at h2;cases h2;obtain⟨m1,m2,m3⟩:=Ro (ph L d G) lE;rw[m1,m2,m3]at dI;exact k.eF _ _ _ _ _ _ _ a1 a3 h3 i dI
  obtain⟨pa,a3,_⟩:=h.rows _ _ _ _ a1;rw[fT _ _ _ _ a3]at h2;cases h2;rw[hx.2 b i (ab a1 a3 h3) (Cv a1 a2 a3 h3)];exact h.eF _ _ _ _ _ _ _ a1 a3 h3 i dI
 ·intro r g p cC pl b q h1 h2 h3;rcases cA h1 with ⟨k0,g0,lE,a1,a2,rfl⟩|⟨a1,a2⟩
  ·obtain⟨pa,a3,_⟩:=k.rows _ _ _ _ a1;rw[hM _ _ _ _ _ a2 a3]at h2;cases h2;obtain⟨e1,e2⟩:=k.own _ _ _ _ _ _ _ a1 a3 h3;exact⟨e1.elim (KL b) fun e=>.inr (Nat.le_trans h.size e),e2⟩
  obtain⟨pa,a3,_⟩:=h.rows _ _ _ _ a1;rw[fT _ _ _ _ a3]at h2;cases h2;obtain⟨e1,e2⟩:=h.own _ _ _ _ _ _ _ a1 a3 h3;exact⟨e1,Nat.lt_of_lt_of_le e2 k.size⟩
 ·intro b hb hO;rw[k.frame b (Nat.lt_of_lt_of_le hb h.size) fun hc=>?_]
  ·exact h.frame b hb hO
  rcases KL b hc with e|e
  ·exact hO e
  omega
 rcases KL b hc with e|e
 ·exact hO e
 omega
end
end
section
open Go Go.RowKit
set_option linter.unusedVariables false
def JI:AV->List (Nat × Nat)
 | .aw r g _ _ _ _=>[(r,g)]
 | .ptr r g _ _ _ _=>[(r,g)]
 | .mr r g _=>[(r,g)]
 | _=>[]
def q8:List AV->List (Nat × Nat)
 | []=>[]
 | c::cs=>JI c++q8 cs
def BL:AV->List (Nat × Nat)
 | .agg cs=>q8 cs
 | v=>JI v
def JJ:List AV->List (Nat × Nat)
 | []=>[]
 | c::cs=>BL c++JJ cs
def q7:List Bool->List AV->List (Nat × Nat)
 | true::ms,a::as=>BL a++q7 ms as
 | false::ms,_::as=>q7 ms as
 | _,_=>[]
def Gg (x:Nat × Nat):List (Nat × Nat)->List (Nat × Nat)
 | []=>[x]
 | y::l=>match Nat.beq y.1 x.1 with
  | true=>y::l
  | false=>y::Gg x l
def xD:List (Nat × Nat)->List (Nat × Nat)->List (Nat × Nat)
 | [],l=>l
 | x::xs,l=>xD xs (Gg x l)
def xn (acc:List (Nat × Nat)):List (List AV)->List (Nat × Nat)
 | []=>acc
 | e::l=>xn (xD (q8 e) acc) l
def ei:List (List AV)->List (Nat × Nat)
 | []=>[]
 | [e]=>q8 e
 | e::e'::l=>xn [] (e::e'::l)
def QS (row:Row):List (Nat × Nat):=match Nat.ble 1 row.fl with
 | true=>[]
 | false=>ei row.es
def I8 (σ:ak) (x:Nat × Nat):Option (List (Nat × Nat)):=(bE σ x.1).bind fun gf=>match Nat.beq gf.1 x.2 with
 | true=>(gf.2 []).map QS
 | false=>none
def OL (oU:Bool) (k:Nat) (x:Nat × Nat):Nat × Nat:=match oU,Nat.ble 1000000 x.1 with
 | true,true=>x
 | _,_=>(k,0)
def na (oU:Bool) (σ:ak) (st:Nat):Nat->Nat->eg->List (Nat × Nat)->eg
 | 0,_,acc,_=>acc
 | _,_,acc,[]=>acc
 | n+1,k,acc,x::t=>match CQ acc x.1 with
  | true=>na oU σ st n k acc t
  | false=>match I8 σ x with
   | some l=>na oU σ st n (k+st) (acc++[(x,OL oU k x)]) (t++l)
   | none=>na oU σ st n k acc t
def wQ:ak->eg
 | []=>[]
 | (k,_)::l=>match Nat.ble 1000000 k with
  | true=>((k,0),(k,0))::wQ l
  | false=>wQ l
def Bl (σ:ak):eg->List (Nat × Nat)
 | []=>[]
 | x::l=>(match I8 σ x.1 with|some l=>l|none=>[])++Bl σ l
def Bd (L:eg):Bool:=L.all fun x=>match Nat.ble 1000000 x.2.1 with
 | true=>Nat.beq x.1.1 x.2.1&&Nat.beq x.1.2 x.2.2
 | false=>true
def Cd (L:eg):Bool:=L.all fun x=>Nat.ble 1000000 x.2.1&&Nat.beq x.2.2 0
def ss (N:NF):ak->List Bool->List AV->Option (ak × List AV)
 | σ,[],[]=>some (σ,[])
 | σ,true::ms,a::as=>(ss N σ ms as).map fun y=>(y.1,mapA N a::y.2)
 | σ,false::ms,a::as=>(iI σ a).bind fun x=>(ss N x.1 ms as).map fun y=>(y.1,x.2::y.2)
 | _,_,_=>none
def aE (P:Program) (n:Nat) (σin:ak) (args:List AV) (K:AV->ak->Prop):Prop:=∃res σout,aY P n σin args res σout/\K res σout
theorem aE.intro {P:Program}{n:Nat}{σin:ak}{args:List AV}{K:AV->ak->Prop}{res:AV}{σout:ak}(h:aY P n σin args res σout) (k:K res σout):aE P n σin args K:=⟨res,σout,h,k⟩
def Q6 (s:St) (d:Option Nat) (K:St->Prop) (v:AV) (σ2:ak):Prop:=put s d v σ2 true K
def JT (s:St) (d:Option Nat) (K:St->Prop) (L:eg) (σ1:ak) (res:AV) (σout:ak):Prop:=
 vR σout=true/\dj (u4 (ph L (d.getD 0) s.G) (yo σ1 L) σout) (Q6 s d K (zx (ph L (d.getD 0) s.G) res))
def Q9 (P:Program) (s:St) (d:Option Nat) (n:Nat) (K:St->Prop) (L:eg) (x:ak × List AV) (σin:ak):Prop:=aE P n σin x.2 (JT s d K L x.1)
def Rb (P:Program) (s:St) (d:Option Nat) (n:Nat) (K:St->Prop) (L:eg) (x:ak × List AV):Prop:=dj (mI x.1 (iF L) L) (Q9 P s d n K L x)
def FK (P:Program) (s:St) (d:Option Nat) (n:Nat) (K:St->Prop) (ms:List Bool) (args:List AV) (L:eg):Prop:=
 (mC L=true/\Cd L=true)/\dj (ss (iF L) s.σ ms args) (Rb P s d n K L)
def IF (P:Program) (s:St) (d:Option Nat) (n:Nat) (ms:List Bool) (args:List AV) (K:St->Prop):Prop:=
 FK P s d n K ms args (na false s.σ 1 30 1000000 [] (q7 ms args))
def LQ (f:d9):Prop:=∀p row,f p=some row->2<=row.fl/\row.ao=false
def Aa:ak->Prop
 | []=>True
 | (_,_,f)::l=>LQ f/\Aa l
theorem aei {row:Row}:LQ (one row)=(2<=row.fl/\row.ao=false):=propext
 ⟨fun h=>h [] row rfl,fun h p r hr=>by
  cases p with
  | nil=>cases hr;exact h
  | cons=>cases hr⟩
theorem TA:∀{σ:ak}{k g:Nat}{f:d9},Aa σ->bE σ k=some (g,f)->LQ f
 | [],k,g,f,_,h=>by simp[bE]at h
 | (k',g',f')::l,k,g,f,hs,h=>by
  rw[gR]at h;split at h
  ·cases h;exact hs.1
  exact TA hs.2 h
theorem aeh {σ:ak}{r g:Nat}{p:List Nat}{row:Row}(hs:Aa σ) (h:rowAt σ r g p=some row):2<=row.fl/\row.ao=false:=by
 unfold rowAt at h;split at h
 ·rename_i x hx;split at h
  ·exact TA hs hx p row h
  cases h
 cases h
def Bz:AV->Bool
 | .sc _|.aG|.aw ..|.ptr ..|.mr ..|.dead|.ro _ []=>true
 | _=>false
def By:List AV->Bool
 | []=>true
 | c::cs=>match Bz c with
  | true=>By cs
  | false=>false
def BB:AV->Bool
 | .agg cs=>By cs
 | v=>Bz v
def BA:List AV->Bool
 | []=>true
 | c::cs=>match BB c with
  | true=>BA cs
  | false=>false
def zk:AV->Bool
 | .aZ vs=>BA vs
 | v=>BB v
def zl:List (List Nat × Row)->Bool
 | []=>true
 | x::l=>match Nat.ble 2 x.2.fl with
  | true=>zl l
  | false=>false
def R4 (s:St) (d:Option Nat) (K:St->Prop) (res:AV) (rf:List (List Nat × Row)):Prop:=
 (zk res=true/\zl rf=true)/\put s d (nm (d.getD 0) s.G res) (nP s.σ (d.getD 0) s.G rf) true K
def B8 (P:Program) (s:St) (d:Option Nat) (n:Nat) (K:St->Prop) (x:ak × List AV):Prop:=aq P n x.2 (R4 s d K)
def EG (P:Program) (s:St) (d:Option Nat) (n:Nat) (args:List AV) (K:St->Prop):Prop:=dj (o8 s.σ args) (B8 P s d n K)
def Q7 (s:St) (d:Option Nat) (K:St->Prop) (L:eg) (res:AV) (σout:ak):Prop:=(zk res=true/\Aa σout)/\JT s d K L s.σ res σout
def Q8 (P:Program) (s:St) (d:Option Nat) (n:Nat) (K:St->Prop) (L:eg) (x:ak × List AV) (σin:ak):Prop:=mI s.σ (iF L) L=some σin/\aE P n σin x.2 (Q7 s d K L)
def Ra (P:Program) (s:St) (d:Option Nat) (n:Nat) (K:St->Prop) (L:eg) (x:ak × List AV):Prop:=dj (mI x.1 (iF L) L) (Q8 P s d n K L x)
def FJ (P:Program) (s:St) (d:Option Nat) (n:Nat) (K:St->Prop) (ms:List Bool) (args:List AV) (L:eg):Prop:=
 (mC L=true/\Cd L=true)/\dj (ss (iF L) s.σ ms args) (Ra P s d n K L)
def IE (P:Program) (s:St) (d:Option Nat) (n:Nat) (ms:List Bool) (args:List AV) (K:St->Prop):Prop:=
 FJ P s d n K ms args (na false s.σ 1 30 1000000 [] (q7 ms args))
section
variable {P:Program}{rd:RD}{φ φ':cj}{O:Nat->Prop}{w0 w:World}{σ σ':ak}{N:NF}{s:St}{a:Act}
theorem Fk (hN:tC N φ φ'):∀{ms:List Bool}{cs bH:List AV}{vs:List Value}{rd:RD}{σ σ':ak},bc rd φ O w0 σ w->PW rd φ cs vs->ss N σ ms cs=some (σ',bH)->
  r8 rd φ O w0 w σ' fun rd'=>PW rd' φ' bH vs
 | [],[],bH,vs,rd,σ,σ',h,hp,hf=>by
  cases hf;have:vs=[]:=List.eq_nil_of_length_eq_zero hp.1.symm
  subst this;exact⟨rd,.refl,h,PW.nil⟩
 | true::ms,c::cs,bH,vs,rd,σ,σ',h,hp,hf=>by
  obtain⟨v,us,rfl,hr,hp⟩:=hp.kV;simp only[ss]at hf;obtain⟨⟨σ1,uy⟩,h1,hf⟩:=cP hf;cases hf;obtain⟨eh,x1,k1,v1⟩:=Fk hN h hp h1;exact⟨eh,x1,k1,PW.cons (BV hN (hr.mono x1.1 (fun _ _ _ _ h=>h))) v1⟩
 | false::ms,c::cs,bH,vs,rd,σ,σ',h,hp,hf=>by
  obtain⟨v,us,rfl,hr,hp⟩:=hp.kV;simp only[ss]at hf;obtain⟨⟨σ1,c1⟩,h1,hf⟩:=cG hf;obtain⟨⟨σ2,uy⟩,h2,hf⟩:=cP hf;cases hf;obtain⟨eh,x1,k1,v1⟩:=C2 h hr h1;obtain⟨dV,x2,k2,v2⟩:=Fk hN k1 (hp.mono x1.1 (fun _ _ _ _ h=>h)) h2;exact⟨dV,x1.trans x2,k2,PW.cons ((v1 φ').mono x2.1 (fun _ _ _ _ h=>h)) v2⟩
 | [],_::_,_,_,_,_,_,_,_,hf=>by cases hf
 | true::_,[],_,_,_,_,_,_,_,hf=>by cases hf
 | false::_,[],_,_,_,_,_,_,_,hf=>by cases hf
theorem Rel.Qd (h:Rel rd φ O w0 s a w) {dst:Option Nat}{v:AV}{σ:ak}{b:Bool}{K:St->Prop}(hk:E.put s dst v σ b K) {rd':RD}(hx:∀b o v,rd b o=some v->rd' b o=some v) {φ':cj}{w':World}{cv:Value}(hh:bc rd' φ' O w0 σ w')
  (hv:aL rd' φ' v cv) (h4:∀r g p pl,φ r g p=some pl->φ' r g p=some pl) (hg:∀r g p,φ' r g p≠none->g<tr b s.G):
  ∃s',K s'/\Rel rd' φ' O w0 s' (a.put dst cv) w':=by
 unfold E.put at hk;cases dst with
 | none=>exact⟨_,hk,hh,fun t v hl=>(h.tm t v hl).mono hx h4,h.size,h.defers,hg⟩
 | some d=>
  simp only at hk;split at hk
  ·rename_i hd;have hd:d<s.n:=Nat.le_of_ble_eq_true hd;refine⟨_,hk,hh,fun t u hl=>?_,by simp[Act.put,h.size],h.defers,hg⟩;rw[GZ _ _ _ _ (by rw[h.size];exact hd)];simp only[gR]at hl;by_cases ht:d=t
   ·rw[if_pos ht]at hl;rw[if_pos ht.symm];cases hl;exact hv
   rw[if_neg ht]at hl;rw[if_neg (fun e=>ht e.symm)];exact(h.tm t u hl).mono hx h4
  exact hk.elim
theorem Qr {L:eg}{d G:Nat}(qC:∀r g p,φ r g p≠none->g<G) (Lw:∀x∈L,∃row,rowAt σ x.1.1 x.1.2 []=some row) (h:bc rd φ O w0 σ w):∀r g p,sx φ φ' L d G r g p≠none->g<G+1:=by
 intro r g p hp;unfold sx at hp;split at hp
 ·rename_i x hx;obtain⟨row,fF⟩:=Lw _ (F4 hx);obtain⟨pl,h1,_⟩:=h.rows _ _ _ _ fF;have:=qC _ _ [] (show φ r g []≠none by rw[h1];simp);omega
 split at hp
 ·rename_i hg;have hg:=of_decide_eq_true hg;omega
 have:=qC _ _ _ hp;omega
theorem XQ {lF:kQ}(iq:nj O w0 lF rd φ) {d:Option Nat}{n:Nat}{ms:List Bool}{args:List AV}{K:St->Prop}(h:Rel rd φ O w0 s a w) {ew:Array Value}(fL:PW rd φ args ew.toList) (hv:IF P s d n ms args K):
  tB P n/\Calls P n ew w fun e w'=>∃v s',e=.returned v/\K s'/\iz lF O w0 s' (a.put d v) w':=by
 unfold IF FK at hv;generalize na false s.σ 1 30 1000000 [] (q7 ms args)=L at hv;obtain⟨⟨hd,cq⟩,hv⟩:=hv;obtain⟨⟨σ1,qT⟩,hp,hv⟩:=gp hv;obtain⟨σin,hr,hv⟩:=gp hv;obtain⟨res,σout,⟨ov,hc⟩,hk,hv⟩:=hv;obtain⟨σ2,ho,hv⟩:=gp hv;refine⟨ov,?_⟩;have hL:∀x∈L,1000000<=x.2.1/\x.2.2=0:=fun x hx=>by
  have:=List.all_eq_true.1 cq x hx;simp only[Bool.and_eq_true]at this;exact⟨Nat.le_of_ble_eq_true this.1,Nat.eq_of_beq_eq_true this.2⟩
 obtain⟨eh,x1,h1,p1⟩:=Fk (φ':=kY φ L) (zm hd) h.heap fL hp;have h2:=(h1.E1 hd hr).Jf;refine(hc w eh (kY φ L) ew (fun r g p bJ=>?_) h2 p1).mono ?_
 ·unfold kY at bJ;split at bJ
  ·rename_i x hx;exact(hL _ (B7 hx)).2
  exact absurd rfl bJ
 rintro e w' ⟨v,rd',φ',rfl,x2,hm,h3,xO⟩;obtain⟨j1,j2,j3,j4⟩:=h1.Sg (d:=d.getD 0) (G:=s.G) h.gen hL hd hr hk x2 hm h3 ho;obtain⟨s',hs,fj⟩:=h.Qd hv (fun b o v e=>x2.1 _ _ _ (x1.1 _ _ _ e)) j1 (J0 j3 xO) j2 (fun r g p hp=>by
  have:=Qr h.gen (E0 hr) h1 r g p hp
  simpa[tr]using this)
 exact⟨v,s',rfl,hs,rd',_,iq.step (x1.trans j4) j2,fj⟩
theorem aL.Fx {rd rd':RD}{c:AV}{v:Value}(h:aL rd φ c v) (hp:Bz c=true):aL rd' φ c v:=by
 cases h with
 | dead v=>exact .dead v
 | sc v h=>exact .sc v h
 | aG=>exact .aG
 | aw r g p sz off len pl A hφ hA hl=>exact .aw r g p sz off len pl A hφ hA hl
 | ptr r g p sz i o pl b q hφ aK=>exact .ptr r g p sz i o pl b q hφ aK
 | mr r g p pl b hφ aK=>exact .mr r g p pl b hφ aK
 | iC sz A cap=>exact .iC sz A cap
 | ro sz es b q cap f hc hs hr hv=>
  cases es with
  | nil=>exact .iC sz _ _
  | cons=>cases hp
 | rp=>cases hp
 | agg=>cases hp
 | aZ=>cases hp
 | it=>cases hp
theorem Qm:∀{cs:List AV},By cs=true->∀c∈cs,Bz c=true
 | [],_,c,hc=>by simp at hc
 | x::cs,h,c,hc=>by
  simp only[By]at h;split at h
  ·rename_i hx;rcases List.mem_cons.1 hc with rfl|hc
   ·exact hx
   exact Qm h c hc
  cases h
theorem aL.QL {rd rd':RD}{c:AV}{v:Value}(h:aL rd φ c v) (hp:BB c=true):aL rd' φ c v:=by
 cases c with
 | agg cs=>
  obtain⟨arr,rfl,hq⟩:=PW.mM h;refine PW.agg ⟨hq.1,fun j c hc=>?_⟩;obtain⟨u,hu,hr⟩:=hq.2 j c hc;exact⟨u,hu,hr.Fx (Qm hp c (dk hc))⟩
 | _=>exact h.Fx hp
theorem Qn:∀{cs:List AV},BA cs=true->∀c∈cs,BB c=true
 | [],_,c,hc=>by simp at hc
 | x::cs,h,c,hc=>by
  simp only[BA]at h;split at h
  ·rename_i hx;rcases List.mem_cons.1 hc with rfl|hc
   ·exact hx
   exact Qn h c hc
  cases h
theorem aL.QK {rd rd':RD}{c:AV}{v:Value}(h:aL rd φ c v) (hp:zk c=true):aL rd' φ c v:=by
 cases c with
 | aZ cs=>
  obtain⟨arr,rfl,hq⟩:=PW.tS h;refine PW.aZ ⟨hq.1,fun j c hc=>?_⟩;obtain⟨u,hu,hr⟩:=hq.2 j c hc;exact⟨u,hu,hr.QL (Qn hp c (dk hc))⟩
 | _=>exact h.QL hp
theorem Jt:∀{l:List (List Nat × Row)},zl l=true->∀x∈l,2<=x.2.fl
 | [],_,c,hc=>by simp at hc
 | x::cs,h,c,hc=>by
  simp only[zl]at h;split at h
  ·rename_i hx;rcases List.mem_cons.1 hc with rfl|hc
   ·exact Nat.le_of_ble_eq_true hx
   exact Jt h c hc
  cases h
theorem Zb {rf:List (List Nat × Row)}{r g:Nat}{p:List Nat}{row:Row}(h:rowAt (l5 rf) r g p=some row):∃q,(q,row)∈rf:=by
 cases rf with
 | nil=>simp[l5,rowAt,bE]at h
 | cons x l=>
  simp only[l5,rowAt,gR,bE]at h;split at h
  ·rename_i y hy;split at hy
   ·cases hy;split at h
    ·exact Kg h
    cases h
   cases hy
  cases h
theorem Ou {lF:kQ}(iq:nj O w0 lF rd φ) {d:Option Nat}{n:Nat}{args:List AV}{K:St->Prop}(h:Rel rd φ O w0 s a w) {ew:Array Value}(fL:PW rd φ args ew.toList) (hv:EG P s d n args K):
  tB P n/\Calls P n ew w fun e w'=>∃v s',e=.returned v/\K s'/\iz lF O w0 s' (a.put d v) w':=by
 unfold EG at hv;obtain⟨⟨σ1,qT⟩,hl,hv⟩:=gp hv;obtain⟨res,rf,⟨ov,hc⟩,⟨gU,SD⟩,hk⟩:=hv;refine⟨ov,?_⟩;obtain⟨eh,x1,h1,l1⟩:=Hb h.heap fL hl;have dA:∀p,φ (d.getD 0) s.G p=none:=fun p=>by
  cases hp:φ (d.getD 0) s.G p with
  | none=>rfl
  | some x=>exact absurd (h.gen _ s.G p (by rw[hp];simp)) (Nat.lt_irrefl _)
 refine(hc w eh ew h1.eA (l1 _)).mono ?_;rintro e w' ⟨v,rd',ψ,rfl,x2,h2,h4⟩
 let dV:RD:=fun b o=>if b<w.heap.size then rd b o else rd' b o
 have ab:∀b o v,rd b o=some v->b<w.heap.size:=fun b o v e=>tj (k:=o) (by rw[h.heap.eA _ _ _ e];rfl)
 have x3:Ext (fun _=>False) w rd dV:=⟨fun b o v e=>by simp only[dV];rw[if_pos (ab _ _ _ e)];exact e,fun b o hb _=>by simp only[dV];rw[if_pos hb]⟩;have gD:∀{r g p row pl b q},rowAt (l5 rf) r g p=some row->kg ψ r g p=some pl->pl.ad=some (b,q)->¬b<w.heap.size:=fun e1 e2 e3 hb=>by
  have:=(h2.own _ _ _ _ _ _ _ e1 e2 e3).1;rcases this with hh|hh
  ·exact hh
  omega
 have k2:bc dV (kg ψ) (fun _=>False) w (l5 rf) w':=by
  refine⟨?_,h2.sep,?_,?_,h2.own,h2.frame,h2.size,h2.os,h2.tape,h2.output⟩
  ·intro r g p row hr;obtain⟨pl,hp,aI⟩:=h2.rows _ _ _ _ hr;obtain⟨q0,hq0⟩:=Zb hr;have fK:=Jt SD _ hq0;refine⟨pl,hp,aI.wide,aI.len,aI.kind,aI.nil,aI.room,fun b q aK i j c aU=>?_,fun ha=>⟨(aI.iI ha).1,fun b q aK k hk=>?_⟩,aI.mp⟩
   ·obtain⟨u,hu,fj⟩:=aI.cells b q aK i j c aU;refine⟨u,hu,fj.Fx ?_⟩;cases he:row.es[i]? with
    | none=>rw[he]at aU;cases aU
    | some e'=>
     rw[he]at aU;have:=(aI.kind e' (dk he)).2 fK c (dk aU);cases c<;>first|rfl|cases this
   simp only[dV];rw[if_neg (gD hr hp aK)];exact(aI.iI ha).2 b q aK k hk
  ·intro b o v e;simp only[dV]at e;split at e
   ·rename_i hb;rw[World.cell?_of_block (h2.frame b hb (fun h=>h))];exact h.heap.eA _ _ _ e
   exact h2.eA _ _ _ e
  intro r g p row pl b q e1 e2 e3 k dI;simp only[dV];rw[if_neg (gD e1 e2 e3)];exact h2.eF _ _ _ _ _ _ _ e1 e2 e3 k dI
 obtain⟨j1,j2⟩:=h.heap.join dA x3 k2 (fun p row hp=>by
  obtain⟨q,hq⟩:=Kg hp;have:=Jt SD _ hq;simp only at this;omega)
 have hr:=QU (φ:=φ) (d:=d.getD 0) (G:=s.G) (h4.QK (rd':=dV) gU);have x4:Ext O w0 rd dV:=⟨x3.1,fun b k hb hO=>x3.2 b k (Nat.lt_of_lt_of_le hb h.heap.size) (fun h=>h)⟩;obtain⟨s',hs,fj⟩:=h.put hk x3.1 j1 hr j2 (fun r g p hp=>(su r g p hp).imp id fun h=>⟨rfl,h⟩);exact⟨v,s',rfl,hs,dV,_,iq.step x4 j2,fj⟩
theorem XR {lF:kQ}(iq:nj O w0 lF rd φ) {d:Option Nat}{n:Nat}{ms:List Bool}{args:List AV}{K:St->Prop}(h:Rel rd φ O w0 s a w) {ew:Array Value}(fL:PW rd φ args ew.toList) (hv:IE P s d n ms args K):
  tB P n/\Calls P n ew w fun e w'=>∃v s',e=.returned v/\K s'/\iz lF O w0 s' (a.put d v) w':=by
 unfold IE FJ at hv;generalize na false s.σ 1 30 1000000 [] (q7 ms args)=L at hv;obtain⟨⟨hd,cq⟩,hv⟩:=hv;obtain⟨⟨σ1,qT⟩,hp,hv⟩:=gp hv;obtain⟨σin,hr,zO,res,σout,⟨ov,hc⟩,⟨gU,fK⟩,hk,hv⟩:=gp hv;obtain⟨σ2,ho,hv⟩:=gp hv;refine⟨ov,?_⟩;have hL:∀x∈L,1000000<=x.2.1/\x.2.2=0:=fun x hx=>by
  have:=List.all_eq_true.1 cq x hx;simp only[Bool.and_eq_true]at this;exact⟨Nat.le_of_ble_eq_true this.1,Nat.eq_of_beq_eq_true this.2⟩
 obtain⟨eh,x1,h1,p1⟩:=Fk (φ':=kY φ L) (zm hd) h.heap fL hp;have h2:=(h1.E1 hd hr).Jf;refine(hc w eh (kY φ L) ew (fun r g p bJ=>?_) h2 p1).mono ?_
 ·unfold kY at bJ;split at bJ
  ·rename_i x hx;exact(hL _ (B7 hx)).2
  exact absurd rfl bJ
 rintro e w' ⟨v,rd',φ',rfl,x2,hm,h3,xO⟩
 let dV:RD:=fun b o=>if b<w.heap.size then rd b o else rd' b o
 have ab:∀b o v,rd b o=some v->b<w.heap.size:=fun b o v e=>tj (k:=o) (by rw[h.heap.eA _ _ _ e];rfl)
 have sP:∀b o v,dV b o=some v->rd' b o=some v:=fun b o v e=>by
  simp only[dV]at e;split at e
  ·exact x2.1 _ _ _ (x1.1 _ _ _ e)
  exact e
 have x3:Ext (ic (kY φ L) σin) w rd dV:=⟨fun b o v e=>by simp only[dV];rw[if_pos (ab _ _ _ e)];exact e,fun b o hb _=>by simp only[dV];rw[if_pos hb]⟩;have k2:bc dV φ' (ic (kY φ L) σin) w σout w':=by
  refine⟨?_,h3.sep,fun b o v e=>h3.eA _ _ _ (sP _ _ _ e),?_,h3.own,h3.frame,h3.size,h3.os,h3.tape,h3.output⟩
  ·intro r g p row fF;obtain⟨pl,mS,aI⟩:=h3.rows _ _ _ _ fF;obtain⟨jY,ow⟩:=aeh fK fF;refine⟨pl,mS,aI.wide,aI.len,aI.kind,aI.nil,aI.room,fun b q aK i j c aU=>?_,fun ha=>(by rw[ow]at ha;cases ha),aI.mp⟩;obtain⟨u,hu,fj⟩:=aI.cells b q aK i j c aU;refine⟨u,hu,fj.Fx ?_⟩;cases he:row.es[i]? with
   | none=>rw[he]at aU;cases aU
   | some e'=>
    rw[he]at aU;have:=(aI.kind e' (dk he)).2 jY c (dk aU);cases c<;>first|rfl|cases this
  intro r g p row pl b q e1 e2 e3 k dI;have h0:=h3.eF _ _ _ _ _ _ _ e1 e2 e3 k dI;cases hh:dV b k with
  | none=>rfl
  | some u=>rw[sP _ _ _ hh]at h0;cases h0
 obtain⟨j1,j2,j3,j4⟩:=h.heap.Sg (d:=d.getD 0) (G:=s.G) h.gen hL hd zO hk x3 hm k2 ho;obtain⟨s',hs,fj⟩:=h.Qd hv x3.1 j1 (J0 j3 (xO.QK (rd':=dV) gU)) j2 (fun r g p hp=>by
  have:=Qr h.gen (E0 zO) h.heap r g p hp
  simpa[tr]using this)
 exact⟨v,s',rfl,hs,dV,_,iq.step j4 j2,fj⟩
end
end
section
open Go Go.RowKit
set_option linter.unusedVariables false
def td (f:d9) (p:List Nat):d9:=fun q=>if q=p then none else f q
def Ah (σ:ak) (r:Nat) (p:List Nat):ak:=match p with
 | []=>p6 σ r
 | p=>match bE σ r with
  | some (g,f)=>bT σ r (g,td f p)
  | none=>σ
def Ng (σ:ak) (sz:Nat):AV->Option (List (List AV) × Nat × ak)
 | .aG=>some ([],2,σ)
 | .aw r g p s off len=>(rowAt σ r g p).bind fun row=>match Nat.beq s sz,Nat.beq row.sz sz,row.ao with
  | true,true,false=>od (off+len) row.es.length (some (sub off len row.es,row.fl,Ah σ r p))
  | _,_,_=>none
 | _=>none
def No (d G TQ eby:Nat) (gq:List (List AV)) (fl:Nat) (σ:ak) (news:List (List AV)) (fn:Nat):Option (AV × ak):=
 oa ((gq++news).length<=maxLen/\(gq++news).length * eby<=140737488355328)
  (some (.aw d G [] TQ 0 (gq++news).length,bT σ d (G,one ⟨TQ,gq++news,min fl fn,false⟩)))
def AJ (P:Program) (d G:Nat) (σ:ak) (t tx:Nat) (b x:AV):Option (AV × ak):=
 (ti P t).bind fun i=>(ti P i.el).bind fun e=>e.zero.bind fun z=>match i.k,Nat.beq z.length e.sz,Nat.ble 1 e.sz with
  | .slice,true,true=>(wR P σ tx e.sz x).bind fun s=>(Ng σ e.sz b).bind fun o=>No d G e.sz e.bytes o.1 o.2.1 o.2.2 s.1 s.2
  | _,_,_=>none
def AG (P:Program) (σ:ak) (t tx:Nat) (a x:AV):Option (AV × ak):=
 (ti P t).bind fun i=>(ti P i.el).bind fun e=>match i.k,Nat.ble 1 e.sz,tk P tx with
  | .slice,true,some .slice=>(wR P σ tx e.sz x).bind fun s=>match a with
   | .aw r g p sz off len=>(bE σ r).bind fun gf=>match Nat.beq gf.1 g with
    | true=>(gf.2 p).bind fun row=>match Nat.beq sz e.sz,Nat.beq row.sz e.sz,row.ao with
     | true,true,false=>od (off+len) row.es.length (some (.sc (.int .i64 (min s.1.length len:Nat)),
       bT σ r (g,dF gf.2 p ⟨row.sz,row.es.take off++(s.1.take len++(row.es.drop off).drop (min s.1.length len)),min row.fl s.2,false⟩)))
     | _,_,_=>none
    | false=>none
   | _=>none
  | _,_,_=>none
def zc (P:Program) (d G:Nat) (σ:ak) (t:Nat) (x:AV):Option (AV × ak):=
 (ti P t).bind fun i=>match tk P t,tk P i.el,x with
  | some .slice,some (.int .u8),.sc (.string s)=>some (.aw d G [] 1 0 s.data.toList.length,bT σ d (G,one ⟨1,s.data.toList.map cE,2,false⟩))
  | _,_,_=>none
def yI (P:Program) (d G:Nat) (σ:ak) (t len:Nat) (parts:List (Nat × AV)):Option (AV × ak):=
 (D2 P t len parts).bind fun x=>some (.aw d G [] x.1 0 len,bT σ d (G,one ⟨x.1,x.2,dJ x.2,false⟩))
section
variable {P:Program}{rd:RD}{φ:cj}{O:Nat->Prop}{w0 w:World}{σ:ak}{d G:Nat}
theorem bc.less (h:bc rd φ O w0 σ w) {σ':ak}(hs:∀r g p row,rowAt σ' r g p=some row->rowAt σ r g p=some row):bc rd φ O w0 σ' w:=
 ⟨fun r g p row hr=>h.rows r g p row (hs _ _ _ _ hr),fun r g p row r' g' p' cC pl cZ b q q' h1 h2=>h.sep _ _ _ _ _ _ _ _ _ _ _ _ _ (hs _ _ _ _ h1) (hs _ _ _ _ h2),h.eA,
  fun r g p row pl b q h1=>h.eF _ _ _ _ _ _ _ (hs _ _ _ _ h1),fun r g p row pl b q h1=>h.own _ _ _ _ _ _ _ (hs _ _ _ _ h1),h.frame,h.size,h.os,h.tape,h.output⟩
theorem PC {r:Nat}{p:List Nat}{r2 g2:Nat}{p2:List Nat}{row:Row}(h:rowAt (Ah σ r p) r2 g2 p2=some row):rowAt σ r2 g2 p2=some row/\¬(r2=r/\p2=p):=by
 unfold Ah at h;split at h
 ·unfold rowAt at h;rw[tY]at h;by_cases hr:r2=r
  ·rw[if_pos hr]at h;cases h
  rw[if_neg hr]at h;exact⟨h,fun hh=>hr hh.1⟩
 rename_i hp;split at h
 ·rename_i g f hl;rw[jM]at h;by_cases hr:r2=r
  ·rw[if_pos hr]at h;split at h
   ·rename_i hg;unfold td at h;split at h
    ·cases h
    rename_i bJ;refine⟨?_,fun hh=>bJ hh.2⟩;unfold rowAt;rw[hr,hl];simp[hg,h]
   cases h
  rw[if_neg hr]at h;exact⟨h,fun hh=>hr hh.1⟩
 rename_i hl;refine⟨h,fun hh=>?_⟩;unfold rowAt at h;rw[hh.1,hl]at h;cases h
theorem bc.abi (h:bc rd φ O w0 σ w) (dA:∀p,φ d G p=none) {r g:Nat}{p:List Nat}{row:Row}(hr:rowAt σ r g p=some row) (kv:row.ao=false) {pl:Pl}(hp:φ r g p=some pl) {off n:Nat}(hn:off+n<=row.es.length) (T:ak) (hT:∀{r2 g2 p2 bt},rowAt T r2 g2 p2=some bt->rowAt σ r2 g2 p2=some bt/\¬(r2=r/\p2=p)):
  bc rd (dB φ d G fun q=>match q with|[]=>some ⟨pl.ad.map fun x=>(x.1,x.2+off * row.sz),pl.cap - off⟩|_=>none) O w0 (bT T d (G,one ⟨row.sz,sub off n row.es,row.fl,false⟩)) w/\
  (∀r g p cZ,φ r g p=some cZ->dB φ d G (fun q=>match q with|[]=>some ⟨pl.ad.map fun x=>(x.1,x.2+off * row.sz),pl.cap - off⟩|_=>none) r g p=some cZ):=by
 have fT:∀r g p cZ,φ r g p=some cZ->dB φ d G (fun q=>match q with|[]=>some (⟨pl.ad.map fun x=>(x.1,x.2+off * row.sz),pl.cap - off⟩:Pl)|_=>none) r g p=some cZ:=by
  intro r g p cZ hp;unfold dB;rw[if_neg (by rintro⟨rfl,rfl⟩;rw[dA]at hp;cases hp)];exact hp
 generalize fD:(dB φ d G fun q=>match q with|[]=>some (⟨pl.ad.map fun x=>(x.1,x.2+off * row.sz),pl.cap - off⟩:Pl)|_=>none)=φ' at fT ⊢;have gD:φ' d G []=some ⟨pl.ad.map fun x=>(x.1,x.2+off * row.sz),pl.cap - off⟩:=by rw[<-fD];simp[dB]
 obtain⟨uZ,vv,aI⟩:=h.rows _ _ _ _ hr;rw[hp]at vv;cases vv;have cA:∀{r2 g2 p2 bt},rowAt (bT T d (G,one ⟨row.sz,sub off n row.es,row.fl,false⟩)) r2 g2 p2=some bt->(d=r2/\G=g2/\[]=p2/\⟨row.sz,sub off n row.es,row.fl,false⟩=bt)\/(rowAt σ r2 g2 p2=some bt/\¬(r2=r/\p2=p)/\φ' r2 g2 p2=φ r2 g2 p2):=by
  intro r2 g2 p2 bt h2;rw[jM]at h2;by_cases hd:r2=d
  ·rw[if_pos hd]at h2;by_cases hg:G=g2
   ·rw[if_pos hg]at h2;obtain⟨e1,e2⟩:=ql h2;exact .inl ⟨hd.symm,hg,e1.symm,e2.symm⟩
   rw[if_neg hg]at h2;cases h2
  rw[if_neg hd]at h2;obtain⟨e1,e2⟩:=hT h2;refine .inr ⟨e1,e2,?_⟩;obtain⟨de,e3,_⟩:=h.rows _ _ _ _ e1;rw[fT _ _ _ _ e3,e3]
 refine⟨⟨?_,?_,h.eA,?_,?_,h.frame,h.size,h.os,h.tape,h.output⟩,fT⟩
 ·intro r2 g2 p2 bt h2;rcases cA h2 with ⟨rfl,rfl,rfl,rfl⟩|⟨e1,e2,e3⟩
  ·refine⟨_,gD,fun e he=>aI.wide e (List.mem_of_mem_drop (List.mem_of_mem_take he)),by simp[sub];have:=aI.len;omega,fun e he=>aI.kind e (List.mem_of_mem_drop (List.mem_of_mem_take he)),fun ha=>?_,?_,?_,fun ha=>(by cases ha),fun C e=>?_⟩
   ·cases hq:pl.ad with
    | none=>have:=aI.nil hq;simp;omega
    | some x=>rw[hq]at ha;cases ha
   ·intro b q hb k hk;cases hq:pl.ad with
    | none=>rw[hq]at hb;cases hb
    | some x=>
     rw[hq]at hb;simp only[Option.map_some,Option.some.injEq,Prod.mk.injEq]at hb;obtain⟨rfl,rfl⟩:=hb;have:=aI.room x.1 x.2 hq (off * row.sz+k) (by
      have bV:k<(pl.cap - off) * row.sz:=hk;rw[Nat.sub_mul]at bV;omega)
     rwa[Nat.add_assoc]
   ·intro b q hb i j c hc;cases hq:pl.ad with
    | none=>rw[hq]at hb;cases hb
    | some x=>
     rw[hq]at hb;simp only[Option.map_some,Option.some.injEq,Prod.mk.injEq]at hb;obtain⟨rfl,rfl⟩:=hb;have sY:(row.es[off+i]?).bind (·[j]?)=some c:=by
      simp only[sub,List.getElem?_take]at hc;split at hc
      ·rwa[List.getElem?_drop]at hc
      cases hc
     obtain⟨v,hv,fj⟩:=aI.cells x.1 x.2 hq _ _ _ sY;refine⟨v,?_,fj.mono (fun _ _ _ h=>h) fT⟩;rw[<-hv];congr 2;show x.2+off * row.sz+i * row.sz+j=x.2+(off+i) * row.sz+j
     rw[Nat.add_mul];omega
   obtain⟨hz,b,aK,hm⟩:=aI.mp C e;have hz:row.sz=0:=hz;exact⟨hz,b,by rw[aK];simp[hz],hm⟩
  obtain⟨de,e4,e5⟩:=h.rows _ _ _ _ e1;exact⟨de,fT _ _ _ _ e4,e5.mono (fun _ _ _ h=>h) fT⟩
 ·intro r1 g1 p1 fy r2 g2 p2 bt jm de b q1 q2 h1 h2 h3 h4 h5 h6;have aux:∀{de q q2},(pl.ad.map fun x=>(x.1,x.2+off * row.sz))=some (b,q)->rowAt σ r2 g2 p2=some bt->φ r2 g2 p2=some de->de.ad=some (b,q2)->r2=r/\p2=p:=by
   intro de q q2 e1 e2 e3 e4;cases hq:pl.ad with
   | none=>rw[hq]at e1;cases e1
   | some x=>
    rw[hq]at e1;simp only[Option.map_some,Option.some.injEq,Prod.mk.injEq]at e1;exact h.sep _ _ _ _ _ _ _ _ _ _ b q2 x.2 e2 hr e3 hp e4 (by rw[hq,<-e1.1])
  have aux1:∀{de q q2},(pl.ad.map fun x=>(x.1,x.2+off * row.sz))=some (b,q)->rowAt σ r1 g1 p1=some fy->φ r1 g1 p1=some de->de.ad=some (b,q2)->r1=r/\p1=p:=by
   intro de q q2 e1 e2 e3 e4;cases hq:pl.ad with
   | none=>rw[hq]at e1;cases e1
   | some x=>
    rw[hq]at e1;simp only[Option.map_some,Option.some.injEq,Prod.mk.injEq]at e1;exact h.sep _ _ _ _ _ _ _ _ _ _ b q2 x.2 e2 hr e3 hp e4 (by rw[hq,<-e1.1])
  rcases cA h1 with ⟨a1,a2,a3,a4⟩|⟨a1,a2,a3⟩<;>rcases cA h2 with ⟨b1,b2,b3,b4⟩|⟨b1,b2,b3⟩
  ·exact⟨a1.symm.trans b1,a3.symm.trans b3⟩
  ·subst a1;subst a2;subst a3;rw[gD]at h3;cases h3;rw[b3]at h4;exact absurd (aux h5 b1 h4 h6) b2
  ·subst b1;subst b2;subst b3;rw[gD]at h4;cases h4;rw[a3]at h3;exact absurd (aux1 h6 a1 h3 h5) a2
  rw[a3]at h3;rw[b3]at h4;exact h.sep _ _ _ _ _ _ _ _ _ _ _ _ _ a1 b1 h3 h4 h5 h6
 ·intro r2 g2 p2 bt de b q h1 h2 h3 k dI;rcases cA h1 with ⟨rfl,rfl,rfl,rfl⟩|⟨e1,e2,e3⟩
  ·rw[gD]at h2;cases h2;cases hq:pl.ad with
   | none=>rw[hq]at h3;cases h3
   | some x=>
    rw[hq]at h3;simp only[Option.map_some,Option.some.injEq,Prod.mk.injEq]at h3;obtain⟨rfl,rfl⟩:=h3;exact h.eF _ _ _ _ _ _ _ hr hp hq k (.inl kv)
  rw[e3]at h2;exact h.eF _ _ _ _ _ _ _ e1 h2 h3 k dI
 intro r2 g2 p2 bt de b q h1 h2 h3;rcases cA h1 with ⟨rfl,rfl,rfl,rfl⟩|⟨e1,e2,e3⟩
 ·rw[gD]at h2;cases h2;cases hq:pl.ad with
  | none=>rw[hq]at h3;cases h3
  | some x=>
   rw[hq]at h3;simp only[Option.map_some,Option.some.injEq,Prod.mk.injEq]at h3;obtain⟨rfl,rfl⟩:=h3;exact h.own _ _ _ _ _ _ _ hr hp hq
 rw[e3]at h2;exact h.own _ _ _ _ _ _ _ e1 h2 h3
theorem bc.JO (h:bc rd φ O w0 σ w) (dA:∀p,φ d G p=none) (sz fl:Nat) (ue:fl<3:=by decide):
  bc rd (dB φ d G fun q=>match q with|[]=>some ⟨none,0⟩|_=>none) O w0 (bT σ d (G,one ⟨sz,[],fl,false⟩)) w/\
  (∀r g p cZ,φ r g p=some cZ->dB φ d G (fun q=>match q with|[]=>some ⟨none,0⟩|_=>none) r g p=some cZ):=by
 have fT:∀r g p cZ,φ r g p=some cZ->dB φ d G (fun q=>match q with|[]=>some (⟨none,0⟩:Pl)|_=>none) r g p=some cZ:=by
  intro r g p cZ hp;unfold dB;rw[if_neg (by rintro⟨rfl,rfl⟩;rw[dA]at hp;cases hp)];exact hp
 generalize fD:(dB φ d G fun q=>match q with|[]=>some (⟨none,0⟩:Pl)|_=>none)=φ' at fT ⊢;have gD:φ' d G []=some ⟨none,0⟩:=by rw[<-fD];simp[dB]
 have cA:∀{r2 g2 p2 bt},rowAt (bT σ d (G,one ⟨sz,[],fl,false⟩)) r2 g2 p2=some bt->(d=r2/\G=g2/\[]=p2/\⟨sz,[],fl,false⟩=bt)\/(rowAt σ r2 g2 p2=some bt/\φ' r2 g2 p2=φ r2 g2 p2):=by
  intro r2 g2 p2 bt h2;rw[jM]at h2;by_cases hd:r2=d
  ·rw[if_pos hd]at h2;by_cases hg:G=g2
   ·rw[if_pos hg]at h2;obtain⟨e1,e2⟩:=ql h2;exact .inl ⟨hd.symm,hg,e1.symm,e2.symm⟩
   rw[if_neg hg]at h2;cases h2
  rw[if_neg hd]at h2;refine .inr ⟨h2,?_⟩;obtain⟨de,e3,_⟩:=h.rows _ _ _ _ h2;rw[fT _ _ _ _ e3,e3]
 refine⟨⟨?_,?_,h.eA,?_,?_,h.frame,h.size,h.os,h.tape,h.output⟩,fT⟩
 ·intro r2 g2 p2 bt h2;rcases cA h2 with ⟨rfl,rfl,rfl,rfl⟩|⟨e1,e2⟩
  ·exact⟨_,gD,by simp,by simp,by simp,fun _=>rfl,by simp,by simp,fun ha=>(by cases ha),lI ue⟩
  obtain⟨de,e4,e5⟩:=h.rows _ _ _ _ e1;exact⟨de,fT _ _ _ _ e4,e5.mono (fun _ _ _ h=>h) fT⟩
 ·intro r1 g1 p1 fy r2 g2 p2 bt jm de b q1 q2 h1 h2 h3 h4 h5 h6;rcases cA h1 with ⟨a1,a2,a3,a4⟩|⟨a1,a3⟩<;>rcases cA h2 with ⟨b1,b2,b3,b4⟩|⟨b1,b3⟩
  ·exact⟨a1.symm.trans b1,a3.symm.trans b3⟩
  ·subst a1;subst a2;subst a3;rw[gD]at h3;cases h3;cases h5
  ·subst b1;subst b2;subst b3;rw[gD]at h4;cases h4;cases h6
  rw[a3]at h3;rw[b3]at h4;exact h.sep _ _ _ _ _ _ _ _ _ _ _ _ _ a1 b1 h3 h4 h5 h6
 ·intro r2 g2 p2 bt de b q h1 h2 h3 k dI;rcases cA h1 with ⟨rfl,rfl,rfl,rfl⟩|⟨e1,e3⟩
  ·rw[gD]at h2;cases h2;cases h3
  rw[e3]at h2;exact h.eF _ _ _ _ _ _ _ e1 h2 h3 k dI
 intro r2 g2 p2 bt de b q h1 h2 h3;rcases cA h1 with ⟨rfl,rfl,rfl,rfl⟩|⟨e1,e3⟩
 ·rw[gD]at h2;cases h2;cases h3
 rw[e3]at h2;exact h.own _ _ _ _ _ _ _ e1 h2 h3
theorem Y2 {α:Type}(l:List (Nat × α)) (n:Nat) (x y:α):bT (bT l n x) n y=bT l n y:=by
 induction l with
 | nil=>simp[bT]
 | cons z l ih=>
  obtain⟨k,v⟩:=z;simp only[bT];cases h:k==n with
  | true=>simp[bT,h]
  | false=>simp[bT,h,ih]
theorem abZ {α:Type}(l:List (Nat × α)) (n:Nat) (x:α):bE (bT l n x) n=some x:=by rw[zB,if_pos rfl]
theorem bc.abV {T:ak}{row:Row}{rN:Nat}(h:bc rd φ O w0 (bT T d (G,one row)) w) (hle:rN<=row.fl) (ue:rN<3) (kv:row.ao=false):bc rd φ O w0 (bT T d (G,one ⟨row.sz,row.es,rN,row.ao⟩)) w:=by
 have cA:∀{r g p bt},rowAt (bT T d (G,one ⟨row.sz,row.es,rN,row.ao⟩)) r g p=some bt->∃fy,rowAt (bT T d (G,one row)) r g p=some fy/\bt.sz=fy.sz/\bt.es=fy.es/\bt.ao=fy.ao/\bt.fl<=fy.fl/\(bt.ao=true->bt.fl=fy.fl)/\(bt.fl=fy.fl\/bt.fl<3):=by
  intro r g p bt hr;rw[jM]at hr ⊢;by_cases hd:r=d
  ·rw[if_pos hd]at hr ⊢;by_cases hg:G=g
   ·rw[if_pos hg]at hr ⊢;obtain⟨rfl,rfl⟩:=ql hr;exact⟨row,rfl,rfl,rfl,rfl,hle,fun ha=>(by rw[kv]at ha;cases ha),.inr ue⟩
   rw[if_neg hg]at hr;cases hr
  rw[if_neg hd]at hr ⊢;exact⟨bt,hr,rfl,rfl,rfl,Nat.le_refl _,fun _=>rfl,.inl rfl⟩
 refine⟨?_,?_,h.eA,?_,?_,h.frame,h.size,h.os,h.tape,h.output⟩
 ·intro r g p bt hr;obtain⟨fy,h1,e1,e2,e3,e4,e5,e6⟩:=cA hr;obtain⟨pl,hp,aI⟩:=h.rows _ _ _ _ h1;refine⟨pl,hp,by rw[e1,e2];exact aI.wide,by rw[e2];exact aI.len,fun x hx=>(aI.kind x (by rwa[<-e2])).le e4,aI.nil,by rw[e1];exact aI.room,by rw[e1,e2];exact aI.cells,fun ha=>?_,fun C e=>?_⟩
  ·rw[e5 ha,e1,e2];exact aI.iI (by rw[<-e3];exact ha)
  rcases e6 with e6|e6
  ·rw[e1];exact aI.mp C (e6▸e)
  exact lI (X:=fun C=>bt.sz=0/\∃b,pl.ad=some (b,0)/\wx w b C) e6 C e
 ·intro r g p row r' g' p' cC pl cZ b q q' h1 h2 h3 h4 h5 h6;obtain⟨x1,k1,_⟩:=cA h1;obtain⟨x2,k2,_⟩:=cA h2;exact h.sep _ _ _ _ _ _ _ _ _ _ _ _ _ k1 k2 h3 h4 h5 h6
 ·intro r g p row pl b q h1 h2 h3 k dI;obtain⟨x1,k1,e1,e2,e3,_⟩:=cA h1;rw[e1,e2,e3]at dI;exact h.eF _ _ _ _ _ _ _ k1 h2 h3 k dI
 intro r g p row pl b q h1 h2 h3;obtain⟨x1,k1,_⟩:=cA h1;exact h.own _ _ _ _ _ _ _ k1 h2 h3
theorem ahV (h:bc rd φ O w0 σ w) (dA:∀p,φ d G p=none) {t tx ty:Nat}{b x v:AV}{cb cx:Value}(hb:aL rd φ b cb) (hx:aL rd φ x cx) {σ':ak}(ha:AJ P d G σ t tx b x=some (v,σ')):
  tD rd φ O w0 d G σ' v ((Builtin.append_ #[t,tx] ty #[cb,cx]).run P w):=by
 unfold AJ at ha;obtain⟨i,hi,cQ⟩:=cG ha;obtain⟨e,he,cN⟩:=cG cQ;obtain⟨z,hz,gw⟩:=cG cN;clear ha cQ cN;split at gw
 ·rename_i hk Kx jU;have Kx:=Nat.eq_of_beq_eq_true Kx;have jU:=Nat.le_of_ble_eq_true jU;obtain⟨⟨es,fn⟩,hs,o5⟩:=cG gw;obtain⟨⟨gq,fl,T⟩,uj,oA⟩:=cG o5;clear gw o5;unfold No at oA;obtain⟨⟨oq,zQ⟩,S5⟩:=qw oA;clear oA;simp only at oq zQ S5;cases S5;have hu:=qX hi hk;obtain⟨inf,dm,e1,e2,e3,e4,e5,e6,-⟩:=pq he;rw[e6]at hz;obtain⟨zv,sM,hzz⟩:=cP hz;have xE:zv.cells.size=e.sz:=by rw[<-Kx,<-hzz];simp
  obtain⟨news,s1,s2,s3,s4,s6,s5⟩:=IY h hx hs;simp only at s1 s2 s3 s4 s6;clear s5;rw[e3]at s1;have vw:news.length=es.length * e.sz:=by rw[s1.newsLen,e3]
  have hlen:(gq++es).length=gq.length+es.length:=by simp
  have adr:∀jn,jn<gq.length+es.length->Builtin.nextslicecap (gq.length+es.length) jn * inf.bytes<=281474976710656:=fun jn ho=>growslice_fits ho (by rw[<-e4,<-hlen];exact zQ)
  have h63:((gq.length+es.length:Nat):Int)<=9223372036854775807:=by rw[hlen]at oq;simp only[maxLen]at oq;omega
  have oU:∀{a:List (List AV)},(∀x∈a,iM fl x)->∀x∈a++es,iM (min fl fn) x:=fun ha x hx=>(List.mem_append.1 hx).elim (fun hx=>(ha x hx).le (Nat.min_le_left _ _)) (fun hx=>(s4 x hx).le (Nat.min_le_right _ _))
  have grow:∀{T:ak},(∀r g p row,rowAt T r g p=some row->rowAt σ r g p=some row)->∀(base:Option Addr) (cap:Nat) (vo:List Value),cap<gq.length+es.length->
    (Builtin.firstCells inf.size gq.length (.slice base gq.length cap)).run P w.drew=.ok vo.toArray w.drew->vo.length=gq.length * e.sz->(∀x∈gq,x.length=e.sz)->(∀x∈gq,iM fl x)->
    (∀i j c,(gq[i]?).bind (·[j]?)=some c->∃v,vo[i * e.sz+j]?=some v/\aL rd φ c v)->
    tD rd φ O w0 d G (bT T d (G,one ⟨e.sz,gq++es,min fl fn,false⟩)) (.aw d G [] e.sz 0 (gq++es).length) ((Builtin.append_ #[t,tx] ty #[.slice base gq.length cap,cx]).run P w):=by
   intro T hT base cap vo rG xJ rz hw Gz fj;have eS:=run_append_grow_src (P:=P) w t tx ty i.el inf zv hu e1 sM base gq.length cap vo xJ cx es.length news s1 rG h63 (adr cap rG);have bM:=grownCap_ge w (gq.length+es.length) cap i.el;have vq:∀x∈gq++es,x.length=e.sz:=fun x hx=>(List.mem_append.1 hx).elim (hw x) (s3 x)
   have hn:=((h.less hT).drew).newRow dA ⟨e.sz,gq++es,min fl fn,false⟩ rfl (Nat.lt_of_le_of_lt (Nat.min_le_right _ _) s6) (grownCap w (gq.length+es.length) cap i.el)
    ((vo++news).toArray++Builtin.zeroCells zv.cells (grownCap w (gq.length+es.length) cap i.el - (gq.length+es.length))) i.el (0,0) (.inr (Nat.le_refl _)) vq (by simpa using bM)
    (by
     simp only[Array.size_append,List.size_toArray,List.length_append,rz,vw,size_zeroCells,xE,<-Nat.add_mul];refine Nat.mul_le_mul_right _ ?_;omega)
    (oU Gz)
    (fun a b c hc=>by
     have ab:a * e.sz+b<(vo++news).length/\∃v,(vo++news)[a * e.sz+b]?=some v/\aL rd φ c v:=by
      rw[List.getElem?_append]at hc;split at hc
      ·rename_i ab;obtain⟨v,hv,hr⟩:=fj a b c hc;have hl:a * e.sz+b<vo.length:=by
        rcases bp (a * e.sz+b) vo.length with hx|hx
        ·exact hx
        rw[List.getElem?_eq_none hx]at hv;cases hv
       exact⟨by simp;omega,v,by rw[List.getElem?_append_left hl];exact hv,hr⟩
      rename_i aiW;obtain⟨v,hv,hr⟩:=s2 (a - gq.length) b c hc;have hl:(a - gq.length) * e.sz+b<news.length:=by
       rcases bp ((a - gq.length) * e.sz+b) news.length with hx|hx
       ·exact hx
       rw[List.getElem?_eq_none hx]at hv;cases hv
      have e0:a * e.sz+b=vo.length+((a - gq.length) * e.sz+b):=by
       rw[rz,<-Nat.add_assoc,<-Nat.add_mul];congr 2;omega
      refine⟨by rw[e0];simp;omega,v,?_,hr⟩;rw[e0,List.getElem?_append_right (by omega),Nat.add_sub_cancel_left];exact hv
     obtain⟨ab,v,hv,hr⟩:=ab;refine⟨v,?_,hr⟩;rw[Array.getElem?_append_left (by simpa using ab)]
     simpa using hv)
   rw[eS];refine⟨_,_,_,rfl,hn.1,?_,hn.2,fun r g p hh=>su r g p hh⟩;have:=aL.aw (rd:=rd) (φ:=dB φ d G fun p=>match p with|[]=>some ⟨some (w.heap.size,0),grownCap w (gq.length+es.length) cap i.el⟩|_=>none) d G [] e.sz 0 (gq++es).length ⟨some (w.heap.size,0),grownCap w (gq.length+es.length) cap i.el⟩ (some (cM w.heap.size 0)) (by simp[dB]) (.inr (by simp)) (by simpa using bM);rw[hlen]at this ⊢;exact this
  unfold Ng at uj;split at uj
  ·cases uj;cases hb
   simp only[List.nil_append,List.length_nil,Nat.zero_add]at *;by_cases t7:es.length=0
   ·have pQ:es=[]:=List.eq_nil_of_length_eq_zero t7;subst pQ;have KO:news=[]:=List.eq_nil_of_length_eq_zero (by simpa using vw);subst KO;have eS:(Builtin.append_ #[t,tx] ty #[.slice none 0 0,cx]).run P w=.ok (.slice none 0 0) w:=by
     have hl:=s1.len;have hc:=s1.cells;simp only[List.length_nil]at hl hc;rcases s1.kind with ⟨e',bV⟩|bV<;>simp[Builtin.append_,run_underlying hu,run_underlying bV,sizeOf,typeInfo,e1,hl,hc]
    rw[eS];have hn:=h.JO dA e.sz (min 2 fn) (Nat.lt_of_le_of_lt (Nat.min_le_left _ _) (by decide));refine⟨_,_,_,rfl,hn.1,?_,hn.2,fun r g p hh=>su r g p hh⟩;exact .aw d G [] e.sz 0 0 ⟨none,0⟩ none (by simp[dB]) (.inl rfl) (aR _)
   exact grow (fun _ _ _ _ h=>h) none 0 [] (by omega) (by simp[Builtin.firstCells]) (by simp) (by simp) (by simp) (by simp)
  ·rename_i r g p s0 off len;obtain⟨row,fF,kJ⟩:=cG uj;clear uj;split at kJ
   ·rename_i q1 q2 q3;have q1:=Nat.eq_of_beq_eq_true q1;have q2:=Nat.eq_of_beq_eq_true q2;subst q1;unfold od at kJ;split at kJ
    ·rename_i hle;have hle:=Nat.le_of_ble_eq_true hle;simp only[Option.some.injEq,Prod.mk.injEq]at kJ;obtain⟨rfl,rfl,rfl⟩:=kJ;obtain⟨pl,hp,aI⟩:=h.rows _ _ _ _ fF;have dY:(sub off len row.es).length=len:=by simp[sub];omega
     have oY:∀x∈sub off len row.es,x∈row.es:=fun x hx=>List.mem_of_mem_drop (List.mem_of_mem_take hx)
     have hw:∀x∈sub off len row.es,x.length=e.sz:=fun x hx=>by rw[aI.wide x (oY x hx),q2]
     have Gz:∀x∈sub off len row.es,iM row.fl x:=fun x hx=>aI.kind x (oY x hx)
     have Sv:∀{i j:Nat} {c:AV},((sub off len row.es)[i]?).bind (·[j]?)=some c->(row.es[off+i]?).bind (·[j]?)=some c:=by
      intro i j c hc;simp only[sub,List.getElem?_take]at hc;split at hc
      ·rwa[List.getElem?_drop]at hc
      cases hc
     cases hb with
     | aw _ _ _ _ _ _ cZ A hφ hA hl=>
      rw[hφ]at hp;cases hp;by_cases Sz:len+es.length<=pl.cap - off
      ·
       obtain⟨m1,m2⟩:=h.abi dA fF q3 hφ (off:=off) (n:=len) hle (Ah σ r p) (fun hh=>PC hh);rw[q2]at m1 m2;generalize fD:(dB φ d G fun q=>match q with|[]=>some (⟨pl.ad.map fun x=>(x.1,x.2+off * e.sz),pl.cap - off⟩:Pl)|_=>none)=φ' at m1 m2;have gD:φ' d G []=some ⟨pl.ad.map fun x=>(x.1,x.2+off * e.sz),pl.cap - off⟩:=by rw[<-fD];simp[dB]
       have SN:∀r g p,φ' r g p≠none->φ r g p≠none\/(r=d/\g=G):=fun r g p hh=>su (ψ:=fun q=>match q with|[]=>some (⟨pl.ad.map fun x=>(x.1,x.2+off * e.sz),pl.cap - off⟩:Pl)|_=>none) r g p (by rw[fD];exact hh)
       by_cases t7:es.length=0
       ·have pQ:es=[]:=List.eq_nil_of_length_eq_zero t7;subst pQ;have KO:news=[]:=List.eq_nil_of_length_eq_zero (by simpa using vw);subst KO;have eS:(Builtin.append_ #[t,tx] ty #[.slice A len (pl.cap - off),cx]).run P w=.ok (.slice A len (pl.cap - off)) w:=by
         have mq:=s1.len;have hc:=s1.cells;simp only[List.length_nil]at mq hc;have acY:len<=pl.cap - off:=hl;rcases s1.kind with ⟨e',bV⟩|bV<;>cases A<;>simp[Builtin.append_,run_underlying hu,run_underlying bV,sizeOf,typeInfo,e1,mq,hc,acY,storeCells]
        rw[eS];simp only[List.append_nil,dY];refine⟨_,_,φ',rfl,m1.abV (Nat.min_le_left _ _) (Nat.lt_of_le_of_lt (Nat.min_le_right _ _) s6) rfl,?_,m2,SN⟩;have:=aL.aw (rd:=rd) (φ:=φ') d G [] e.sz 0 len ⟨pl.ad.map fun x=>(x.1,x.2+off * e.sz),pl.cap - off⟩ A gD (by
         rcases hA with hA|hA
         ·left;simpa using hA
         right;rw[hA];cases pl.ad<;>simp) (by simpa using hl)
        simpa using this
       have rG:pl.cap - off≠0:=by omega
       rcases hA with hA|hA
       ·exact absurd hA rG
       cases aK:pl.ad with
       | none=>exact absurd (aI.nil aK) (by omega)
       | some bq=>
        obtain⟨b0,q0⟩:=bq;rw[aK]at hA gD;simp only[Option.map_some]at hA gD;subst hA;have CE:∀j,j<news.length->off * e.sz+(len * e.sz+j)<pl.cap * e.sz:=by
         intro j hj;rw[vw]at hj;have:(off+len+es.length) * e.sz<=pl.cap * e.sz:=Nat.mul_le_mul_right _ (by omega);rw[Nat.add_mul,Nat.add_mul]at this;omega
        have Cp:=fun j (hj:j<news.length)=>aI.room b0 q0 aK (off * e.sz+(len * e.sz+j)) (by rw[q2];exact CE j hj)
        have eS:=run_append_room_src (P:=P) w t tx ty i.el inf hu e1 b0 (q0+off * e.sz) len (pl.cap - off) cx es.length news s1 Sz
         (fun j hj=>by rw[<-e3,show q0+off * e.sz+len * e.sz+j=q0+(off * e.sz+(len * e.sz+j)) by omega];exact(Cp j hj).1)
         (fun j hj=>by rw[<-e3,show q0+off * e.sz+len * e.sz+j=q0+(off * e.sz+(len * e.sz+j)) by omega];exact(Cp j hj).2)
        rw[<-e3]at eS;have aD:=m1.store (r:=d) (g:=G) (p:=[]) (f:=one ⟨e.sz,sub off len row.es,row.fl,false⟩) (row:=⟨e.sz,sub off len row.es,row.fl,false⟩) (abZ _ _ _) rfl gD rfl rfl ⟨e.sz,sub off len row.es++es,min row.fl fn,false⟩ rfl (Nat.lt_of_le_of_lt (Nat.min_le_right _ _) s6) rfl
         (fun x hx=>(List.mem_append.1 hx).elim (hw x) (s3 x)) (by simp only[List.length_append,dY];exact Sz) (oU Gz) (q0+off * e.sz+len * e.sz) news
         (fun a b c hc=>by
          rw[List.getElem?_append]at hc;split at hc
          ·rename_i ab;rw[dY]at ab;have hb:b<e.sz:=by
            cases hh:(sub off len row.es)[a]? with
            | none=>rw[hh]at hc;cases hc
            | some x=>
             rw[hh]at hc;rw[<-hw x (dk hh)];rcases bp b x.length with hx|hx
             ·exact hx
             rw[Option.bind_some,List.getElem?_eq_none hx]at hc;cases hc
           have hm:=Nat.mul_le_mul_right e.sz (show a+1<=len from ab);rw[Nat.succ_mul]at hm;rw[if_neg (by simp only;omega)];obtain⟨v,hv,hr⟩:=aI.cells b0 q0 aK _ _ _ (Sv hc);refine⟨v,?_,hr.mono (fun _ _ _ h=>h) m2⟩;rw[<-hv];congr 2;simp only[q2,Nat.add_mul];omega
          rename_i bM;rw[dY]at bM hc;obtain⟨v,hv,hr⟩:=s2 (a - len) b c hc;have mq:(a - len) * e.sz+b<news.length:=by
           rcases bp ((a - len) * e.sz+b) news.length with hx|hx
           ·exact hx
           rw[List.getElem?_eq_none hx]at hv;cases hv
          have e0:a * e.sz=len * e.sz+(a - len) * e.sz:=by rw[<-Nat.add_mul];congr 1;omega
          rw[if_pos (by simp only;omega)];refine⟨v,?_,hr.mono (fun _ _ _ h=>h) m2⟩;rw[<-hv];congr 1;simp only;omega)
        rw[Y2,To]at aD;rw[show cM b0 (q0+off * e.sz)=(⟨b0,q0+off * e.sz,none⟩:Addr) from rfl,eS];refine⟨_,_,φ',rfl,aD,?_,m2,SN⟩;have:=aL.aw (rd:=rd) (φ:=φ') d G [] e.sz 0 (sub off len row.es++es).length ⟨some (b0,q0+off * e.sz),pl.cap - off⟩ (some (cM b0 (q0+off * e.sz))) gD (.inr (by simp)) (by simp only[List.length_append,dY];omega)
        simpa[dY]using this
      
      have hT:∀r2 g2 p2 bt,rowAt (Ah σ r p) r2 g2 p2=some bt->rowAt σ r2 g2 p2=some bt:=fun _ _ _ _ hh=>(PC hh).1
      by_cases t7:len=0
      ·subst t7;have sP:sub off 0 row.es=[]:=by simp[sub]
       rw[sP]at grow ⊢;exact grow hT A (pl.cap - off) [] (by simp;omega) (by cases A<;>simp[Builtin.firstCells,loadCells,loadCellsFrom]) (by simp) (by simp) (by simp) (by simp)
      rcases hA with hA|hA
      ·omega
      cases aK:pl.ad with
      | none=>exact absurd (aI.nil aK) (by omega)
      | some bq=>
       obtain⟨b0,q0⟩:=bq;rw[aK]at hA;simp only[Option.map_some]at hA;subst hA;have jd:∀k,k<len * e.sz->(w.cell? (cM b0 (q0+off * e.sz+k))).isSome=true:=by
        intro k hk;have h1:=(aI.room b0 q0 aK (off * e.sz+k) (by
         rw[q2];have:(off+len) * e.sz<=pl.cap * e.sz:=Nat.mul_le_mul_right _ (by omega);rw[Nat.add_mul]at this;omega)).1
        rwa[<-Nat.add_assoc]at h1
       have xJ:(Builtin.firstCells inf.size len (.slice (some (cM b0 (q0+off * e.sz))) len (pl.cap - off))).run P w.drew=.ok (th w b0 (q0+off * e.sz) (len * e.sz)).toArray w.drew:=by
        refine run_firstCells_some w.drew inf.size len _ _ _ _ (by rw[Hw,e3]) fun j u hu=>?_
        obtain⟨h1,rfl⟩:=Mp hu;obtain⟨x,hx⟩:=Option.isSome_iff_exists.1 (jd j h1);rw[qn,hx]
        simpa using hx
       have:=grow hT (some (cM b0 (q0+off * e.sz))) (pl.cap - off) (th w b0 (q0+off * e.sz) (len * e.sz)) (by rw[dY];omega) (by rw[dY];exact xJ) (by rw[Hw,dY]) hw Gz
        (fun a b c hc=>by
         have zW:a * e.sz+b<len * e.sz:=by
          cases hh:(sub off len row.es)[a]? with
          | none=>rw[hh]at hc;cases hc
          | some x=>
           have CS:a<len:=by
            rw[<-dY];rcases bp a (sub off len row.es).length with hx|hx
            ·exact hx
            rw[List.getElem?_eq_none hx]at hh;cases hh
           rw[hh]at hc;have qG:b<e.sz:=by
            rw[<-hw x (dk hh)];rcases bp b x.length with hx|hx
            ·exact hx
            rw[Option.bind_some,List.getElem?_eq_none hx]at hc;cases hc
           have hm:=Nat.mul_le_mul_right e.sz (show a+1<=len from CS);rw[Nat.succ_mul]at hm;omega
         obtain⟨v,hv,hr⟩:=aI.cells b0 q0 aK _ _ _ (Sv hc);refine⟨v,UN zW ?_,hr⟩;rw[<-hv];congr 2;rw[q2,Nat.add_mul];omega)
       rw[dY]at this;exact this
    cases kJ
   cases kJ
  cases uj
 cases gw
theorem bc.adX {r g:Nat}{p:List Nat}{f:d9}{row:Row}{rN:Nat}(h:bc rd φ O w0 σ w) (hl:bE σ r=some (g,f)) (hf:f p=some row) (kv:row.ao=false) (hle:rN<=row.fl) (ue:rN<3):bc rd φ O w0 (bT σ r (g,dF f p ⟨row.sz,row.es,rN,false⟩)) w:=by
 have cB:rowAt σ r g p=some row:=by unfold rowAt;rw[hl];simp[hf]
 have cA:∀{r2 g2 p2 bt},rowAt (bT σ r (g,dF f p ⟨row.sz,row.es,rN,false⟩)) r2 g2 p2=some bt->∃fy,rowAt σ r2 g2 p2=some fy/\bt.sz=fy.sz/\bt.es=fy.es/\bt.ao=fy.ao/\bt.fl<=fy.fl/\(bt.ao=true->bt.fl=fy.fl)/\(bt.fl=fy.fl\/bt.fl<3):=by
  intro r2 g2 p2 bt hr;rcases xc hl hr with ⟨rfl,rfl,rfl,rfl⟩|⟨h1,_⟩
  ·exact⟨row,cB,rfl,rfl,kv.symm,hle,fun ha=>(by cases ha),.inr ue⟩
  exact⟨bt,h1,rfl,rfl,rfl,Nat.le_refl _,fun _=>rfl,.inl rfl⟩
 refine⟨?_,?_,h.eA,?_,?_,h.frame,h.size,h.os,h.tape,h.output⟩
 ·intro r g p bt hr;obtain⟨fy,h1,e1,e2,e3,e4,e5,e6⟩:=cA hr;obtain⟨pl,hp,aI⟩:=h.rows _ _ _ _ h1;refine⟨pl,hp,by rw[e1,e2];exact aI.wide,by rw[e2];exact aI.len,fun x hx=>(aI.kind x (by rwa[<-e2])).le e4,aI.nil,by rw[e1];exact aI.room,by rw[e1,e2];exact aI.cells,fun ha=>?_,fun C e=>?_⟩
  ·rw[e5 ha,e1,e2];exact aI.iI (by rw[<-e3];exact ha)
  rcases e6 with e6|e6
  ·rw[e1];exact aI.mp C (e6▸e)
  exact lI (X:=fun C=>bt.sz=0/\∃b,pl.ad=some (b,0)/\wx w b C) e6 C e
 ·intro r g p row r' g' p' cC pl cZ b q q' h1 h2 h3 h4 h5 h6;obtain⟨x1,k1,_⟩:=cA h1;obtain⟨x2,k2,_⟩:=cA h2;exact h.sep _ _ _ _ _ _ _ _ _ _ _ _ _ k1 k2 h3 h4 h5 h6
 ·intro r g p row pl b q h1 h2 h3 k dI;obtain⟨x1,k1,e1,e2,e3,_⟩:=cA h1;rw[e1,e2,e3]at dI;exact h.eF _ _ _ _ _ _ _ k1 h2 h3 k dI
 intro r g p row pl b q h1 h2 h3;obtain⟨x1,k1,_⟩:=cA h1;exact h.own _ _ _ _ _ _ _ k1 h2 h3
theorem afn (h:bc rd φ O w0 σ w) {t tx ty:Nat}{a x v:AV}{ca cx:Value}(zW:aL rd φ a ca) (hx:aL rd φ x cx) {σ':ak}(ha:AG P σ t tx a x=some (v,σ')):
  kR rd φ O w0 σ' v ((Builtin.copy_ #[t,tx] ty #[ca,cx]).run P w):=by
 unfold AG at ha;obtain⟨i,hi,cQ⟩:=cG ha;obtain⟨e,he,cN⟩:=cG cQ;clear ha cQ;split at cN
 ·rename_i hk jU htx;have jU:=Nat.le_of_ble_eq_true jU;obtain⟨⟨es,fn⟩,hs,gw⟩:=cG cN;clear cN;obtain⟨news,s1,s2,s3,s4,s6,s5⟩:=IY h hx hs;simp only at s1 s2 s3 s4 s5 s6 gw;split at gw
  ·rename_i r g p sz off len;obtain⟨⟨g',f⟩,hl,o5⟩:=cG gw;clear gw;split at o5
   ·rename_i hg;have hg:=Nat.eq_of_beq_eq_true hg;simp only at hg;subst hg;obtain⟨row,fF,oA⟩:=cG o5;clear o5;split at oA
    ·rename_i q1 q2 q3;have q1:=Nat.eq_of_beq_eq_true q1;have q2:=Nat.eq_of_beq_eq_true q2;subst q1;unfold od at oA;split at oA
     ·rename_i hle;have hle:=Nat.le_of_ble_eq_true hle;simp only[Option.some.injEq,Prod.mk.injEq]at oA;obtain⟨rfl,rfl⟩:=oA;have Co:f p=some row:=fF;have cB:rowAt σ r g' p=some row:=by unfold rowAt;rw[hl];simp[Co]
      obtain⟨pl,hp,aI⟩:=h.rows _ _ _ _ cB;have hu:=qX hi hk;have hn:min es.length len<=es.length:=Nat.min_le_left _ _;have jA:=s5 htx (min es.length len) hn;have vw:(news.take (min es.length len * e.sz)).length=min es.length len * e.sz:=by
       rw[List.length_take,s1.newsLen];exact Nat.min_eq_left (Nat.mul_le_mul_right _ hn)
      have Gx:Nat.min es.length len=min es.length len:=rfl;cases zW with
      | aw _ _ _ _ _ _ cZ A hφ hA mq=>
       rw[hφ]at hp;cases hp;by_cases hz:min es.length len=0
       ·have eS:(Builtin.copy_ #[t,tx] ty #[.slice A len (pl.cap - off),cx]).run P w=.ok (goInt 0) w:=by
         rw[hz]at jA;simp only[Nat.zero_mul,List.take_zero]at jA;cases A<;>simp[Builtin.copy_,run_underlying hu,s1.len,qi he,Gx,hz,jA,storeCells]
        rw[eS];have e0:row.es.take off++(es.take len++(row.es.drop off).drop (min es.length len))=row.es:=by
         have:es.take len=[]:=by
          apply List.eq_nil_of_length_eq_zero;rw[List.length_take,Nat.min_comm];exact hz
         rw[hz,this];simp
        refine⟨_,_,rfl,?_,by rw[hz];exact .sc _ rfl⟩;rw[e0];refine bc.adX h hl Co q3 (Nat.min_le_left _ _) (Nat.lt_of_le_of_lt (Nat.min_le_right _ _) s6)
       rcases hA with hA|hA
       ·omega
       cases aK:pl.ad with
       | none=>exact absurd (aI.nil aK) (by omega)
       | some bq=>
        obtain⟨b0,q0⟩:=bq;rw[aK]at hA;simp only[Option.map_some]at hA;subst hA;have KN:∀u∈news.take (min es.length len * e.sz),u.oneCell'=true:=fun u hu=>s1.one u (List.mem_of_mem_take hu)
        have CE:∀j,j<min es.length len * e.sz->off * e.sz+j<pl.cap * e.sz:=by
         intro j hj;have:(off+min es.length len) * e.sz<=pl.cap * e.sz:=Nat.mul_le_mul_right _ (by omega);rw[Nat.add_mul]at this;omega
        have Cp:=fun j (hj:j<min es.length len * e.sz)=>aI.room b0 q0 aK (off * e.sz+j) (by rw[q2];exact CE j hj)
        have aD:=run_storeCells_cells (P:=P) b0 (q0+off * e.sz) (news.take (min es.length len * e.sz)) 0 w
         (fun j hj=>by have:=(Cp j (by rw[<-vw];exact hj)).1;rwa[Nat.add_zero,Nat.add_assoc]) (fun j hj=>by have:=(Cp j (by rw[<-vw];exact hj)).2;rwa[Nat.add_zero,Nat.add_assoc]) KN
        simp only[Nat.add_zero]at aD;have eS:(Builtin.copy_ #[t,tx] ty #[.slice (some (cM b0 (q0+off * e.sz))) len (pl.cap - off),cx]).run P w=.ok (goInt (min es.length len:Nat)) (w.setCells b0 (q0+off * e.sz) (news.take (min es.length len * e.sz))):=by
         simp[Builtin.copy_,run_underlying hu,s1.len,qi he,Gx,jA,aD,goInt]
        rw[eS];refine⟨_,_,rfl,?_,.sc _ rfl⟩;refine h.store hl Co hφ aK q3 ⟨row.sz,row.es.take off++(es.take len++(row.es.drop off).drop (min es.length len)),min row.fl fn,false⟩ rfl (Nat.lt_of_le_of_lt (Nat.min_le_right _ _) s6) rfl ?_ ?_ ?_ (q0+off * e.sz) (news.take (min es.length len * e.sz)) ?_
        ·intro y hy;rcases List.mem_append.1 hy with hy|hy
         ·exact aI.wide y (List.mem_of_mem_take hy)
         rcases List.mem_append.1 hy with hy|hy
         ·rw[q2];exact s3 y (List.mem_of_mem_take hy)
         exact aI.wide y (List.mem_of_mem_drop (List.mem_of_mem_drop hy))
        ·have:=aI.len;simp only[List.length_append,List.length_take,List.length_drop];omega
        ·intro y hy;rcases List.mem_append.1 hy with hy|hy
         ·exact(aI.kind y (List.mem_of_mem_take hy)).le (Nat.min_le_left _ _)
         rcases List.mem_append.1 hy with hy|hy
         ·exact(s4 y (List.mem_of_mem_take hy)).le (Nat.min_le_right _ _)
         exact(aI.kind y (List.mem_of_mem_drop (List.mem_of_mem_drop hy))).le (Nat.min_le_left _ _)
        intro a' b' c hc;rw[vw,q2];have ac3:(row.es.take off).length=off:=by simp;omega
        have iu:(es.take len).length=min es.length len:=by simp[Nat.min_comm]
        have Kv:∀{l:List (List AV)} {k:Nat},(∀x∈l,x.length=e.sz)->(l[k]?).bind (·[b']?)=some c->b'<e.sz:=by
         intro l k hw hh;cases hx:l[k]? with
         | none=>rw[hx]at hh;cases hh
         | some x=>
          rw[hx]at hh;rw[<-hw x (dk hx)];rcases bp b' x.length with hy|hy
          ·exact hy
          rw[Option.bind_some,List.getElem?_eq_none hy]at hh;cases hh
        have Sl:∀x∈row.es,x.length=e.sz:=fun x hx=>by rw[aI.wide x hx,q2]
        rw[List.getElem?_append,ac3]at hc;split at hc
        ·rename_i ab;rw[List.getElem?_take,if_pos ab]at hc;have hb:=Kv Sl hc;have hm:=Nat.mul_le_mul_right e.sz (show a'+1<=off from ab);rw[Nat.succ_mul]at hm;rw[if_neg (by omega)];have:=aI.cells b0 q0 aK _ _ _ hc
         rwa[q2]at this
        rename_i bM;rw[List.getElem?_append,iu]at hc;split at hc
        ·rename_i ab;rw[List.getElem?_take,if_pos (by omega)]at hc;have hb:=Kv s3 hc;have hm:=Nat.mul_le_mul_right e.sz (show a' - off+1<=min es.length len from ab);rw[Nat.succ_mul]at hm;have e1:a' * e.sz=off * e.sz+(a' - off) * e.sz:=by rw[<-Nat.add_mul];congr 1;omega
         rw[if_pos (by omega)];obtain⟨v,hv,hr⟩:=s2 _ _ _ hc;refine⟨v,?_,hr⟩;rw[List.getElem?_take,if_pos (by omega),<-hv];congr 1;omega
        rename_i aiV;rw[List.getElem?_drop,List.getElem?_drop]at hc;have hb:=Kv Sl hc;have e1:off+(min es.length len+(a' - off - min es.length len))=a':=by omega
        rw[e1]at hc;have hm:=Nat.mul_le_mul_right e.sz (show off+min es.length len<=a' by omega);rw[Nat.add_mul]at hm;rw[if_neg (by omega)];have:=aI.cells b0 q0 aK _ _ _ hc
        rwa[q2]at this
     cases oA
    cases oA
   cases o5
  cases gw
 cases cN
theorem ahu (h:bc rd φ O w0 σ w) (dA:∀p,φ d G p=none) {t len:Nat}{v:AV}{ev:Operand->AV}{ρ:Operand->Value}(cY:∀x,aL rd φ (ev x) (ρ x)) {parts:Array (Nat × Operand)}{σ':ak}
  (ha:yI P d G σ t len (parts.toList.map fun x=>(x.1,ev x.2))=some (v,σ')):tD rd φ O w0 d G σ' v ((Instr.buildSlice t len (parts.map fun(i,x)=>(i,ρ x))).run P w):=by
 unfold yI at ha;obtain⟨x,hx,cQ⟩:=cG ha;cases cQ;obtain⟨arr,T,h1,h2,h3,h4⟩:=V8 (P:=P) (w:=w) cY hx;rw[h4];have hn:=h.newRow dA ⟨x.1,x.2,dJ x.2,false⟩ rfl (Dd _) len arr T (0,0) (.inr (Nat.le_refl _)) h2.2.1 (by simp[h1]) (by rw[h2.1,h1];exact Nat.le_refl _) Hg h2.2.2;refine⟨_,_,_,rfl,hn.1,?_,hn.2,fun r g p hh=>su r g p hh⟩;exact aL.aw (rd:=rd) (φ:=dB φ d G fun p=>match p with|[]=>some ⟨some (w.heap.size,0),len⟩|_=>none) d G [] x.1 0 len ⟨some (w.heap.size,0),len⟩ (some (cM w.heap.size 0)) (by simp[dB]) (.inr (by simp)) (by simp)
end
end
section
open Go Go.RowKit
set_option linter.unusedVariables false
set_option linter.unusedSimpArgs false
section
variable {P:Program}{rd:RD}{φ:cj}{O:Nat->Prop}{w0 w:World}{σ:ak}{d G:Nat}
theorem UA:∀{cs:List AV}{vs:List Value}{l:List Nat},tg cs=some l->v5 vs=some l->PW rd φ cs vs
 | [],[],_,_,_=>PW.nil
 | [],v::vs,l,h,k=>by
  simp only[tg,Option.some.injEq]at h;subst h;simp only[v5]at k;split at k
  ·rename_i a b h1 h2;obtain⟨x,y,rfl,_⟩:=yx h1;simp at k
  cases k
 | .sc u::cs,[],l,h,k=>by
  simp only[v5,Option.some.injEq]at k;subst k;simp only[tg]at h;split at h
  ·rename_i a b h1 h2;obtain⟨x,y,rfl,_⟩:=yx h1;simp at h
  cases h
 | .sc u::cs,v::vs,l,h,k=>by
  simp only[tg]at h;simp only[v5]at k;split at h
  ·rename_i a b h1 h2;split at k
   ·rename_i a' b' k1 k2;cases h;simp only[Option.some.injEq]at k;obtain⟨x,y,rfl,_⟩:=yx h1;obtain⟨x',y',rfl,_⟩:=yx k1;obtain⟨e1,e2⟩:=List.append_inj k rfl;subst e2;rw[e1]at k1;have:=UD h1 k1;subst this;refine PW.cons (.sc u ?_) (UA h2 k2);cases u<;>simp_all[pc,tL]
   cases k
  cases h
 | .dead::_,_,_,h,_|.aG::_,_,_,h,_|.aw ..::_,_,_,h,_|.ptr ..::_,_,_,h,_|.ro ..::_,_,_,h,_|.rp _::_,_,_,h,_|.agg _::_,_,_,h,_|.aZ _::_,_,_,h,_|.it _::_,_,_,h,_|.mr ..::_,_,_,h,_=>by simp[tg]at h
theorem wC.rel {v:Value}{a:AV}(h:wC v a):aL rd φ a v:=by
 obtain⟨c,h1,h2⟩:=h;cases a<;>simp only[kN,reduceCtorEq]at h1
 ·rename_i u;obtain⟨x,y,rfl,hx⟩:=yx h1;have hv:pc v=some [x,y]:=by
   cases v<;>simp only[Ds]at h2<;>first|exact h2|skip
   obtain⟨z,hz,e⟩:=cP h2;simp only[List.cons.injEq]at e;omega
  have:=UD h1 hv;subst this;refine .sc u ?_;cases u<;>simp_all[pc,tL]
 rename_i cs;obtain⟨l,hl,rfl⟩:=cP h1;have one:∀{u:Value},pc u=some (10::l)->False:=fun hu=>by
  obtain⟨x,y,e,hx⟩:=yx hu;simp only[List.cons.injEq]at e;omega
 cases v<;>simp only[Ds]at h2<;>first|exact(one h2).elim|skip
 obtain⟨z,hz,e⟩:=cP h2;simp only[List.cons.injEq,true_and]at e;subst e;exact PW.agg (UA hl hz)
theorem UB:∀{cs:List AV}{vs:List Value}{l:List Nat},PW rd φ cs vs->tg cs=some l->v5 vs=some l
 | [],vs,l,h,k=>by
  have:vs=[]:=List.eq_nil_of_length_eq_zero h.1.symm;subst this;exact k
 | .sc u::cs,vs,l,h,k=>by
  obtain⟨v,us,rfl,h1,h2⟩:=h.kV;have:=fH h1;subst this;simp only[tg]at k;split at k
  ·rename_i a b k1 k2;simp only[v5,k1,UB h2 k2];exact k
  cases k
 | .dead::_,_,_,_,h|.aG::_,_,_,_,h|.aw ..::_,_,_,_,h|.ptr ..::_,_,_,_,h|.ro ..::_,_,_,_,h|.rp _::_,_,_,_,h|.agg _::_,_,_,_,h|.aZ _::_,_,_,_,h|.it _::_,_,_,_,h|.mr ..::_,_,_,_,h=>by simp[tg]at h
theorem wC.of {v:Value}{a:AV}{c:List Nat}(h:aL rd φ a v) (k:kN a=some c):wC v a:=by
 refine⟨c,k,?_⟩;cases a<;>simp only[kN,reduceCtorEq]at k
 ·rename_i u;rw[fH h];cases u<;>simp_all[pc,Ds]
 rename_i cs;obtain⟨l,hl,rfl⟩:=cP k;obtain⟨arr,rfl,hp⟩:=PW.mM h;simp only[Ds,UB hp hl,Option.map_some]
def xz (P:Program) (K:Nat):AV->AV->Option Bool
 | .agg xs,.agg ys=>(jB P K).bind fun ks=>vQ ks xs ys
 | _,_=>none
def o9 (P:Program) (K:Nat) (k:AV):MC->Option (Option AV)
 | []=>some none
 | e::C=>match xz P K k e.1 with
  | some true=>some (some e.2)
  | some false=>o9 P K k C
  | none=>none
def sL (P:Program) (K:Nat) (k:AV):Bool:=(xz P K k k).isSome
theorem TS {t:TypeId}{ks:List TK}(h:jB P t=some ks):∃fs,P.underlying t=some (.struct fs):=by
 unfold jB at h;split at h
 ·rename_i fs hu;exact⟨fs,hu⟩
 cases h
theorem R9 {K:Nat}{a b:AV}{va vb:Value}{r:Bool}(h:xz P K a b=some r) (ha:aL rd φ a va) (hb:aL rd φ b vb) (w:World):(Op.equal K va vb).run P w=.ok r w:=by
 unfold xz at h;split at h
 ·obtain⟨ks,hk,he⟩:=cG h;obtain⟨xa,rfl,pa⟩:=PW.mM ha;obtain⟨xb,rfl,pb⟩:=PW.mM hb
  simpa using (L3 hk (Di pa pb he) w).1
 cases h
def Xb (P:Program) (d:Nat) (t:TypeId) (ks:List TK):Prop:=∀(D:Nat),d<=D->∀(em:Bool) (w:World) (xs:List Value) (r:Bool),nL ks xs xs=some r->(Instr.checkKey em D t (tT P t xs)).run P w=.ok () w
theorem UK {d D:Nat}(IH:∀t ks,qM P d t=some ks->Xb P d t ks) (hd:d<=D) (em:Bool):∀(fs:List Field) (off:Nat) (ks:List TK),Ab (qM P d) P off fs=some ks->∀(w:World) (pre xs:List Value) (r:Bool),pre.length=off->nL ks xs xs=some r->
  (do for f in fs do if f.name≠ "_" then Instr.checkKey em D f.type (<-part f.type (pre++xs).toArray f.offset):Sem Unit).run P w=.ok () w
 | [],off,ks,h,w,pre,xs,r,h1,he=>by simp
 | f::fs,off,ks,h,w,pre,xs,r,h1,he=>by
  simp only[Ab]at h;split at h
  ·rename_i k1 uh;split at h
   ·rename_i hc;obtain⟨hn,ho,iH⟩:=hc;obtain⟨k2,mw,rfl⟩:=cP h;have hlen:=(Hk he).1;rw[List.length_append]at hlen;have ex:xs=xs.take k1.length++xs.drop k1.length:=(List.take_append_drop _ _).symm;have lx:(xs.take k1.length).length=k1.length:=by rw[List.length_take];omega
    rw[ex]at he;obtain⟨b,c,e1,e2,rfl⟩:=L5 lx lx he;have p1:=Jw (P:=P) (w:=w) uh iH (pre:=pre) (xs:=xs.take k1.length) (post:=xs.drop k1.length) lx;have q:=IH _ _ uh D hd em w _ b e1;rw[List.append_assoc,<-ex,h1]at p1;have rc:=UK IH hd em fs (off+k1.length) k2 mw w (pre++xs.take k1.length) (xs.drop k1.length) c (by rw[List.length_append,h1,lx]) e2;rw[List.append_assoc,<-ex]at rc;rw[List.forIn_cons,ho];simp only[Sem.run_bind,hn,ne_eq,not_false_eq_true,if_true,Result.andThen_ok,p1,q,Sem.run_pure]at rc ⊢;exact rc
   cases h
  cases h
theorem UL:∀(d:Nat) (t:TypeId) (ks:List TK),qM P d t=some ks->Xb P d t ks
 | 0,t,ks,h=>by cases h
 | d+1,t,ks,h=>by
  intro D hD em w xs r he;obtain⟨D',rfl⟩:∃D',D=D'+1:=⟨D - 1,by omega⟩;unfold qM at h;unfold tT;cases hu:P.underlying t with
  | none=>rw[hu]at h;cases h
  | some dm=>
   rw[hu]at h;have plain:(∃k,ks=[k])->(∀n e,dm≠.array n e)->(∀fs,dm≠.struct fs)->(∀m,dm≠.interface m)->(Instr.checkKey em (D'+1) t (xs.headD undef)).run P w=.ok () w:=by
    rintro⟨k,rfl⟩ n1 n2 n3;cases dm<;>first
     | exact absurd rfl (n1 _ _)
     | exact absurd rfl (n2 _)
     | exact absurd rfl (n3 _)
     | simp[Instr.checkKey,run_underlying hu]
   cases dm<;>simp only at h<;>first
    | (cases h;done)
    | (cases h;exact plain ⟨_,rfl⟩ (by intros;simp) (by intros;simp) (by intros;simp))
    | skip
   rename_i fs;split at h
   ·rename_i hp;rw[Instr.checkKey];simp only[Sem.run_bind,run_underlying hu,Result.andThen_ok];rw[<-Array.forIn_toList];have key:=UK (UL d) (D:=D') (by omega) em fs.toList 0 ks h w [] xs r rfl he;simp only[Sem.run_bind,Sem.run_pure,ne_eq,List.nil_append]at key ⊢;exact key
   cases h
theorem check_sound {K:Nat}{a:AV}{va:Value}(h:sL P K a=true) (ha:aL rd φ a va) (em:Bool) (w:World):(Instr.checkKey em 10000 K va).run P w=.ok () w:=by
 obtain⟨r,hr⟩:=Option.isSome_iff_exists.1 h;cases a with
 | agg xs=>
  obtain⟨ks,hk,he⟩:=cG hr;obtain⟨xa,rfl,pa⟩:=PW.mM ha;have hv:=Di pa pa he;obtain⟨fs,hu⟩:=TS hk;unfold jB at hk;rw[hu]at hk;simp only at hk;split at hk
  ·have:=UL 8 K ks hk 10000 (by omega) em w xa.toList r hv;unfold tT at this;rw[hu]at this
   simpa using this
  cases hk
 | _=>cases hr
theorem ahT {K:Nat}{k:AV}{vk:Value}(hk:aL rd φ k vk) (w:World):∀{es:List MapEntry}{C:MC},MR es C->∀{r:Option AV},o9 P K k C=some r->∀i,∃x,(Instr.findAsking K vk es i).run P w=.ok x w/\
  match r with
  | none=>x=none
  | some a=>∃j e,x=some (i+j,e.val)/\es[j]?=some e/\aL rd φ a e.val:=by
 intro es C h;induction h with
 | nil=>
  intro r hr i;simp only[o9,Option.some.injEq]at hr;subst hr;exact⟨none,by simp[Instr.findAsking],rfl⟩
 | @cons e x l C h1 h2 t ih=>
  intro r hr i;simp only[o9]at hr;split at hr
  ·rename_i hq;cases hr;have:=R9 hq hk (h1.rel (rd:=rd) (φ:=φ)) w;exact⟨some (i,e.val),by simp[Instr.findAsking,this],0,e,rfl,rfl,h2.rel⟩
  ·rename_i hq;have hq:=R9 hq hk (h1.rel (rd:=rd) (φ:=φ)) w;obtain⟨y,k1,k2⟩:=ih hr (i+1);refine⟨y,by simp[Instr.findAsking,hq,k1],?_⟩;cases r with
   | none=>exact k2
   | some a=>
    obtain⟨j,e',rfl,k3,k4⟩:=k2;exact⟨j+1,e',by rw[Nat.add_assoc,Nat.add_comm 1 j],by simpa using k3,k4⟩
  cases hr
theorem TF {K:Nat}{k:AV}{vk:Value}(hk:aL rd φ k vk) (aI:sL P K k=true) (w:World) {es:List MapEntry}{C:MC}(h:MR es C) {r:Option AV}(hr:o9 P K k C=some r):∃x,(Instr.findKey K vk es).run P w=.ok x w/\
  match r with
  | none=>x=none
  | some a=>∃j e,x=some (j,e.val)/\es[j]?=some e/\aL rd φ a e.val:=by
 have hw:(match P.underlying K with|some (.array _ _)|some (.struct _)=>true|_=>false)=true:=by
  obtain⟨r,hr⟩:=Option.isSome_iff_exists.1 aI;unfold xz at hr;split at hr
  ·obtain⟨ks,hk,he⟩:=cG hr;obtain⟨fs,hu⟩:=TS hk;rw[hu]
  cases hr
 rw[run_findKey_eq w hw];obtain⟨x,h1,h2⟩:=ahT hk w h hr 0;refine⟨x,h1,?_⟩;cases r with
 | none=>exact h2
 | some a=>
  obtain⟨j,e,rfl,k3,k4⟩:=h2;exact⟨j,e,by rw[Nat.zero_add],k3,k4⟩
abbrev ig (C:MC):Row:=⟨0,[],rb C,false⟩
theorem bc.abc (h:bc rd φ O w0 σ w) (dA:∀p,φ d G p=none):
  bc rd (dB φ d G fun p=>match p with|[]=>some ⟨some (w.heap.size,0),0⟩|_=>none) O w0 (bT σ d (G,one (ig []))) (w.alloc (.map #[] 0))/\
  (∀r g p pl,φ r g p=some pl->dB φ d G (fun p=>match p with|[]=>some ⟨some (w.heap.size,0),0⟩|_=>none) r g p=some pl):=by
 have fT:∀r g p pl,φ r g p=some pl->dB φ d G (fun p=>match p with|[]=>some ⟨some (w.heap.size,0),0⟩|_=>none) r g p=some pl:=by
  intro r g p pl hp;unfold dB;rw[if_neg (by rintro⟨rfl,rfl⟩;rw[dA]at hp;cases hp)];exact hp
 have ab:∀{r g p row pl b q},rowAt σ r g p=some row->φ r g p=some pl->pl.ad=some (b,q)->b<w.heap.size:=fun h1 h2 h3=>(h.own _ _ _ _ _ _ _ h1 h2 h3).2
 have cA:∀{r g p cC},rowAt (bT σ d (G,one (ig []))) r g p=some cC->(d=r/\G=g/\[]=p/\ig []=cC)\/(rowAt σ r g p=some cC/\r≠d):=by
  intro r g p cC hr;rw[jM]at hr;by_cases hd:r=d
  ·rw[if_pos hd]at hr;by_cases hg:G=g
   ·rw[if_pos hg]at hr;obtain⟨h1,h2⟩:=ql hr;exact .inl ⟨hd.symm,hg,h1.symm,h2.symm⟩
   rw[if_neg hg]at hr;cases hr
  rw[if_neg hd]at hr;exact .inr ⟨hr,hd⟩
 have lQ:dB φ d G (fun p=>match p with|[]=>some ⟨some (w.heap.size,0),0⟩|_=>none) d G []=some ⟨some (w.heap.size,0),0⟩:=by simp[dB]
 have hold:∀{r g p},r≠d->dB φ d G (fun p=>match p with|[]=>some ⟨some (w.heap.size,0),0⟩|_=>none) r g p=φ r g p:=by
  intro r g p hr;unfold dB;rw[if_neg (fun hh=>hr hh.1)]
 refine⟨⟨?_,?_,?_,?_,?_,?_,?_,h.os,h.tape,h.output⟩,fT⟩
 ·intro r g p cC hr;rcases cA hr with ⟨rfl,rfl,rfl,rfl⟩|⟨hr,hd⟩
  ·refine⟨_,lQ,by simp,by simp,by simp,by simp,by intro b q hb k hk;simp at hk,by intro b q hb i j c hc;simp at hc,fun ha=>(by cases ha),fun C e=>⟨rfl,w.heap.size,rfl,?_⟩⟩;refine wx.enc (C:=[]) ⟨#[],0,?_,.nil⟩ e;show(w.heap.push _)[w.heap.size]?=_
   rw[Array.getElem?_push_size]
  obtain⟨pl,h1,h2⟩:=h.rows r g p cC hr;refine⟨pl,by rw[hold hd];exact h1,(h2.of_same (fun b q aK k=>⟨v7 (ab hr h1 aK),Hc (ab hr h1 aK)⟩) fun b q aK es ck e=>by rw[Below.heap_alloc _ _ _ (ab hr h1 aK)];exact e).mono (fun _ _ _ h=>h) fT⟩
 ·intro r g p cC r' g' p' Zc pl cZ b q q' h1 h2 h3 h4 h5 h6;rcases cA h1 with ⟨rfl,rfl,rfl,rfl⟩|⟨h1,hd⟩<;>rcases cA h2 with ⟨rfl,rfl,rfl,rfl⟩|⟨h2,qD⟩
  ·exact⟨rfl,rfl⟩
  ·rw[lQ]at h3;cases h3;cases h5;rw[hold qD]at h4;exact absurd (ab h2 h4 h6) (Nat.lt_irrefl _)
  ·rw[lQ]at h4;cases h4;cases h6;rw[hold hd]at h3;exact absurd (ab h1 h3 h5) (Nat.lt_irrefl _)
  rw[hold hd]at h3;rw[hold qD]at h4;exact h.sep _ _ _ _ _ _ _ _ _ _ _ _ _ h1 h2 h3 h4 h5 h6
 ·intro b o v hv;have:=h.eA b o v hv;rw[v7 (tj (by rw[this];rfl))];exact this
 ·intro r g p cC pl b q h1 h2 h3 k dI;rcases cA h1 with ⟨rfl,rfl,rfl,rfl⟩|⟨h1,hd⟩
  ·rw[lQ]at h2;cases h2;cases h3;cases hk:rd w.heap.size k with
   | none=>rfl
   | some v=>
    have:=tj (w:=w) (b:=w.heap.size) (k:=k) (by rw[h.eA _ _ _ hk];rfl);exact absurd this (Nat.lt_irrefl _)
  rw[hold hd]at h2;exact h.eF _ _ _ _ _ _ _ h1 h2 h3 k dI
 ·intro r g p cC pl b q h1 h2 h3;rw[World.size_alloc];rcases cA h1 with ⟨rfl,rfl,rfl,rfl⟩|⟨h1,hd⟩
  ·rw[lQ]at h2;cases h2;cases h3;exact⟨.inr h.size,Nat.lt_succ_self _⟩
  rw[hold hd]at h2;obtain⟨ha,hb⟩:=h.own _ _ _ _ _ _ _ h1 h2 h3;exact⟨ha,by omega⟩
 ·intro b hb hO;rw[Below.heap_alloc _ _ _ (Nat.lt_of_lt_of_le hb h.size)];exact h.frame b hb hO
 rw[World.size_alloc];exact Nat.le_succ_of_le h.size
theorem bc.Y1 (h:bc rd φ O w0 σ w) {r g:Nat}{p:List Nat}{f:d9}{C C':MC}(hl:bE σ r=some (g,f)) (hf:f p=some (ig C)) {pl:Pl}{b:Nat}(hφ:φ r g p=some pl) (aK:pl.ad=some (b,0)) {es:Array MapEntry}{ck:Nat}(hC:MR es.toList C') (iW:∃TR UJ,w.heap[b]?=some (.map TR UJ)):
  bc rd φ O w0 (bT σ r (g,dF f p (ig C'))) {w with heap:=w.heap.setIfInBounds b (.map es ck)}:=by
 have cB:rowAt σ r g p=some (ig C):=by unfold rowAt;rw[hl];simp[hf]
 obtain⟨TR,UJ,iW⟩:=iW;have adD:b<w.heap.size:=(Array.getElem?_eq_some_iff.1 iW).1;have bJ:∀{b':Nat},b'≠b->(w.heap.setIfInBounds b (.map es ck))[b']?=w.heap[b']?:=fun hb=>by rw[Array.getElem?_setIfInBounds_ne (Ne.symm hb)]
 have cA:=fun {r2 g2 p2 bt} (hr:rowAt (bT σ r (g,dF f p (ig C'))) r2 g2 p2=some bt)=>xc hl hr
 have lP:∀{r2 g2 p2 bt},rowAt (bT σ r (g,dF f p (ig C'))) r2 g2 p2=some bt->∃x,rowAt σ r2 g2 p2=some x:=by
  intro r2 g2 p2 bt hr;rcases cA hr with ⟨rfl,rfl,rfl,rfl⟩|⟨h1,_⟩
  ·exact⟨_,cB⟩
  exact⟨_,h1⟩
 have cs:∀{b' k:Nat},b'≠b->World.cell? {w with heap:=w.heap.setIfInBounds b (.map es ck)} (cM b' k)=w.cell? (cM b' k):=fun hb=>by
  unfold World.cell?;rw[show(cM _ _).block=_ from rfl,bJ hb]
 have fs:∀{b' k:Nat},b'≠b->World.frozen? {w with heap:=w.heap.setIfInBounds b (.map es ck)} (cM b' k)=w.frozen? (cM b' k):=fun hb=>by
  unfold World.frozen?;rw[show(cM _ _).block=_ from rfl,bJ hb]
 refine⟨?_,?_,?_,?_,?_,?_,?_,h.os,h.tape,h.output⟩
 ·intro r2 g2 p2 bt hr;rcases cA hr with ⟨rfl,rfl,rfl,rfl⟩|⟨hr,hn⟩
  ·obtain⟨uZ,vv,aI⟩:=h.rows _ _ _ _ cB;rw[hφ]at vv;cases vv;refine⟨pl,hφ,by simp,by simp,by simp,aI.nil,by intro b q hb k hk;simp at hk,by intro b q hb i j c hc;simp at hc,fun ha=>(by cases ha),fun D e=>⟨rfl,b,aK,?_⟩⟩;refine wx.enc (C:=C') ⟨es,ck,?_,hC⟩ e;show(w.heap.setIfInBounds b _)[b]?=_
   rw[Array.getElem?_setIfInBounds,if_pos rfl,if_pos adD]
  obtain⟨de,h1,h2⟩:=h.rows r2 g2 p2 bt hr;have hb:∀b2 q2,de.ad=some (b2,q2)->b2≠b:=fun b2 q2 s7 e=>by
   subst e;exact hn (h.sep _ _ _ _ _ _ _ _ _ _ _ _ _ hr cB h1 hφ s7 aK)
  exact⟨de,h1,h2.of_same (fun b2 q2 s7 k=>⟨cs (hb _ _ s7),fs (hb _ _ s7)⟩) fun b2 q2 s7 es ck e=>by
   show(w.heap.setIfInBounds b _)[b2]?=_
   rw[bJ (hb _ _ s7)];exact e⟩
 ·intro r1 g1 p1 fy r2 g2 p2 bt jm de b1 q1 q2 h1 h2 h3 h4 h5 h6;obtain⟨x1,e1⟩:=lP h1;obtain⟨x2,e2⟩:=lP h2;exact h.sep _ _ _ _ _ _ _ _ _ _ _ _ _ e1 e2 h3 h4 h5 h6
 ·intro b2 o2 v hv;rw[cs]
  ·exact h.eA _ _ _ hv
  rintro rfl;have:=h.eF _ _ _ _ _ _ _ cB hφ aK o2 (.inl rfl);rw[this]at hv;cases hv
 ·intro r2 g2 p2 bt de b2 q2 h1 h2 h3 k dI;rcases cA h1 with ⟨rfl,rfl,rfl,rfl⟩|⟨h1,_⟩
  ·exact h.eF _ _ _ _ _ _ _ cB h2 h3 k (.inl rfl)
  exact h.eF _ _ _ _ _ _ _ h1 h2 h3 k dI
 ·intro r2 g2 p2 bt de b2 q2 h1 h2 h3;rw[show({w with heap:=w.heap.setIfInBounds b (.map es ck)}:World).heap.size=w.heap.size by simp];obtain⟨x1,e1⟩:=lP h1;exact h.own _ _ _ _ _ _ _ e1 h2 h3
 ·intro k hk hO;show(w.heap.setIfInBounds b _)[k]?=_
  rw[bJ]
  ·exact h.frame k hk hO
  rintro rfl;rcases(h.own _ _ _ _ _ _ _ cB hφ aK).1 with hh|hh
  ·exact hO hh
  omega
 show w0.heap.size<=(w.heap.setIfInBounds b _).size
 rw[Array.size_setIfInBounds];exact h.size
def tU (P:Program) (t:Nat):Option (Nat × Nat):=match P.underlying t with
 | some (.map k e)=>some (k,e)
 | _=>none
theorem Rn {t K E:Nat}(h:tU P t=some (K,E)):P.underlying t=some (.map K E):=by
 unfold tU at h;split at h
 ·rename_i k e hu;cases h;exact hu
 cases h
def B5 (zv:Value) (ok:Bool):Option AV->AV
 | some a=>match ok with
  | true=>.aZ [a,.sc (.bool true)]
  | false=>a
 | none=>match ok with
  | true=>.aZ [wu zv,.sc (.bool false)]
  | false=>wu zv
def Ef (P:Program) (E:Nat):Option Value:=(P.info? E).bind fun i=>i.zero
def Ih (P:Program) (d G:Nat) (e:Operand->AV) (σ:ak) (op:Op) (v:AV) (σ':ak) (b:Bool):Prop:=
 (b=true/\∃t,op=.makeMap t none/\v=.mr d G []/\σ'=bT σ d (G,one (ig [])))\/
 (b=false/\∃t x k ok K E r g p f C res zv,op=.lookup t x k ok/\tU P t=some (K,E)/\Ef P E=some zv/\e x=.mr r g p/\bE σ r=some (g,f)/\f p=some (ig C)/\sL P K (e k)=true/\o9 P K (e k) C=some res/\v=B5 zv ok res/\σ'=σ)\/
 (b=false/\∃t m k x K E r g p f C ck cx,op=.mapUpdate t m k x/\tU P t=some (K,E)/\e m=.mr r g p/\bE σ r=some (g,f)/\f p=some (ig C)/\sL P K (e k)=true/\o9 P K (e k) C=some none/\kN (e k)=some ck/\kN (e x)=some cx/\v=.dead/\σ'=bT σ r (g,dF f p (ig (C++[(e k,e x)]))))
theorem MR.snoc {l:List MapEntry}{C:MC}(h:MR l C) {e:MapEntry}{x:AV × AV}(h1:wC e.key x.1) (h2:wC e.val x.2):MR (l++[e]) (C++[x]):=by
 induction h with
 | nil=>exact .cons h1 h2 .nil
 | cons a b _ ih=>exact .cons a b ih
theorem afw (h:bc rd φ O w0 σ w) (dA:∀p,φ d G p=none) {ev:Operand->AV}{ρ:Operand->Value}(cY:∀x,aL rd φ (ev x) (ρ x)) {o:Oper}{v:AV}{σ':ak}{b:Bool}
  (ha:Ih P d G ev σ o.op v σ' b):yL rd φ O w0 d G b σ' v ((execOp ρ o).run P w):=by
 rcases ha with ⟨rfl,t,dE,rfl,rfl⟩|⟨rfl,t,x,k,ok,K,E,r,g,p,f,C,res,zv,dE,hT,hE,hx,hl,hf,hk,jX,rfl,rfl⟩|⟨rfl,t,m,k,x,K,E,r,g,p,f,C,ck,cx,dE,hT,hx,hl,hf,hk,jX,yb,GM,rfl,rfl⟩
 ·obtain⟨n1,n2⟩:=h.abc dA;refine⟨.value (.map (some w.heap.size)),.map (some w.heap.size),_,rd,_,?_,.inl rfl,.refl,n1,.mr d G [] ⟨some (w.heap.size,0),0⟩ w.heap.size (by simp[dB]) rfl,n2,fun r g p hh=>(su r g p hh).imp id fun h=>⟨rfl,h⟩⟩;unfold execOp;rw[dE];simp only[Option.map_none,Sem.run_bind,run_makeMap,Result.andThen_ok,Sem.run_pure]
 ·have hu:=Rn hT;obtain⟨pl,hφ,aI⟩:=h.rows r g p (ig C) (by unfold rowAt;rw[hl];simp[hf]);obtain⟨-,b,aK,es,ck,hb,hM⟩:=aI.mp C rfl;have c8:=cY x;rw[hx]at c8;have hm:ρ x=.map (some b):=by
   cases hr:ρ x with
   | map a=>
    rw[hr]at c8;cases c8 with
    | mr _ _ _ cZ b' h1 h2=>rw[hφ]at h1;cases h1;rw[aK]at h2;cases h2;rfl
   | _=>rw[hr]at c8;cases c8
  obtain⟨y,qy,zG⟩:=TF (cY k) hk w hM jX;have hc:=check_sound hk (cY k) es.isEmpty w;obtain⟨ii,xX,xW⟩:=cG hE;have hz:(zeroValue E).run P w=.ok zv w:=by simp[zeroValue,typeInfo,xX,xW]
  have eS:∃cv,(Instr.lookup t (ρ x) (ρ k) ok).run P w=.ok cv w/\aL rd φ (B5 zv ok res) cv:=by
   rw[hm];unfold Instr.lookup;simp only[Sem.run_bind,run_underlying hu,Result.andThen_ok,MapKept.run_getObj_map hb,Sem.run_pure,hc,qy];cases res with
   | none=>
    subst zG;simp only[Sem.run_bind,hz,Result.andThen_ok,Sem.run_pure];cases ok with
    | true=>exact⟨_,rfl,PW.aZ (PW.cons (NA zv) (PW.cons (.sc _ rfl) PW.nil))⟩
    | false=>exact⟨_,rfl,NA zv⟩
   | some a=>
    obtain⟨j,en,rfl,-,hv⟩:=zG;simp only[Sem.run_bind,Result.andThen_ok,Sem.run_pure];cases ok with
    | true=>exact⟨_,rfl,PW.aZ (PW.cons hv (PW.cons (.sc _ rfl) PW.nil))⟩
    | false=>exact⟨_,rfl,hv⟩
  obtain⟨cv,eS,hv⟩:=eS;unfold execOp;rw[dE];exact(kR.same h eS hv).next
 have hu:=Rn hT;obtain⟨pl,hφ,aI⟩:=h.rows r g p (ig C) (by unfold rowAt;rw[hl];simp[hf]);obtain⟨-,b,aK,es,Hu,hb,hM⟩:=aI.mp C rfl;have c8:=cY m;rw[hx]at c8;have hm:ρ m=.map (some b):=by
  cases hr:ρ m with
  | map a=>
   rw[hr]at c8;cases c8 with
   | mr _ _ _ cZ b' h1 h2=>rw[hφ]at h1;cases h1;rw[aK]at h2;cases h2;rfl
  | _=>rw[hr]at c8;cases c8
 obtain⟨y,qy,zG⟩:=TF (cY k) hk w hM jX;subst zG;have hc:=check_sound hk (cY k) false w;have eS:(Instr.mapUpdate t (ρ m) (ρ k) (ρ x)).run P w=.ok () {w with heap:=w.heap.setIfInBounds b (.map (es.push {key:=ρ k,val:=ρ x,born:=Hu}) (Hu+1))}:=by
  rw[hm];unfold Instr.mapUpdate;simp only[Sem.run_bind,run_underlying hu,Result.andThen_ok,MapKept.run_getObj_map hb,Sem.run_pure,hc,qy];exact MapKept.run_setObj_map _ hb
 have hn:=h.Y1 hl hf hφ aK (es:=es.push {key:=ρ k,val:=ρ x,born:=Hu}) (ck:=Hu+1) (C':=C++[(ev k,ev x)]) (by rw[Array.toList_push];exact hM.snoc (.of (cY k) yb) (.of (cY x) GM)) ⟨_,_,hb⟩;refine⟨.skip,undef,_,rd,φ,?_,.inr ⟨rfl,rfl⟩,.refl,hn,.dead _,fun _ _ _ _ h=>h,fun _ _ _ h=>.inl h⟩;unfold execOp;rw[dE];simp only[Sem.run_bind,eS,Result.andThen_ok,Sem.run_pure]
end
end
section
open Go Go.RowKit
set_option linter.unusedVariables false
def tv (P:Program) (d G:Nat) (ev:Operand->AV) (σ:ak):Op->Option (AV × ak)
 | .buildSlice t len parts=>yI P d G σ t len (parts.toList.map fun x=>(x.1,ev x.2))
 | .convert s t x=>match tk P s with
  | some .string=>zc P d G σ t (ev x)
  | _=>none
 | .call c=>match c.callee,c.args.toList,c.argTypes.toList with
  | .builtin .append,[x,y],[t,tx]=>AJ P d G σ t tx (ev x) (ev y)
  | .builtin .copy,[x,y],[t,tx]=>AG P σ t tx (ev x) (ev y)
  | _,_,_=>none
 | _=>none
section
variable {P:Program}{rd:RD}{φ:cj}{O:Nat->Prop}{w0 w:World}{σ:ak}{d G:Nat}
theorem ahe (w:World) (e:TypeId) (s:ByteArray):Lib.bytesWorld w e s=w.drew.alloc (.cells (Lib.bytesCells w e s) e ((Lib.bytesCells w e s).size,(Lib.bytesCells w e s).size+1)):=by
 have hh:(Lib.bytesWorld w e s).heap=(w.drew.alloc (.cells (Lib.bytesCells w e s) e ((Lib.bytesCells w e s).size,(Lib.bytesCells w e s).size+1))).heap:=by
  apply Array.ext_getElem?;intro i;rcases Nat.lt_trichotomy i w.heap.size with h|h|h
  ·rw[Lib.bytesWorld_at_old w e s i h];have:=Below.heap_alloc w.drew (.cells (Lib.bytesCells w e s) e ((Lib.bytesCells w e s).size,(Lib.bytesCells w e s).size+1)) i h;rw[this];rfl
  ·subst h;rw[Lib.bytesWorld_at_new];show _=(w.heap.push _)[w.heap.size]?
   rw[Array.getElem?_push_size]
  rw[Array.getElem?_eq_none (by rw[Lib.bytesWorld_size];omega),Array.getElem?_eq_none (by rw[World.size_alloc];show w.heap.size+1<=i;omega)]
 have fT:∀a b:World,a.heap=b.heap->a.tape=b.tape->a.drawn=b.drawn->a.os=b.os->a.output=b.output->a=b:=by
  rintro⟨⟩ ⟨⟩ h1 h2 h3 h4 h5;simp_all
 exact fT _ _ hh rfl rfl rfl rfl
theorem Za (h:bc rd φ O w0 σ w) (dA:∀p,φ d G p=none) {s t:Nat}{x v:AV}{cx:Value}(hs:tk P s=some .string) (hx:aL rd φ x cx) {σ':ak}(ha:zc P d G σ t x=some (v,σ')):
  tD rd φ O w0 d G σ' v ((convert s t cx).run P w):=by
 unfold zc at ha;obtain⟨i,hi,cQ⟩:=cG ha;split at cQ
 ·rename_i b hk sW;cases cQ;cases fH hx;have hu:P.underlying t=some (.slice i.el):=by
   obtain⟨i',fS,bV⟩:=j8 hk;rw[hi]at fS;cases fS;exact qX hi bV
  have he:P.underlying i.el=some (.int .u8):=by
   obtain⟨e,he,hk⟩:=j8 sW;obtain⟨dm,h1,h2,_⟩:=nq he;rw[hk]at h2;cases dm<;>simp[la]at h2;rw[h1,h2]
  rw[Lib.run_convert_string_bytes w s t i.el b (Ba hs) hu he,ahe];have bM:=grownCap_ge w b.size 0 i.el;have hl:(b.data.toList.map cE).length=b.size:=by rw[List.length_map,Array.length_toList];rfl
  have dv:(Lib.bytesCells w i.el b).size=grownCap w b.size 0 i.el:=by
   have:b.data.size=b.size:=rfl;simp[Lib.bytesCells,this];omega
  have hn:=h.drew.newRow dA ⟨1,b.data.toList.map cE,2,false⟩ rfl (by show(2:Nat)<3;decide) (grownCap w b.size 0 i.el) (Lib.bytesCells w i.el b) i.el ((Lib.bytesCells w i.el b).size,(Lib.bytesCells w i.el b).size+1) (.inl (Nat.le_refl _))
   (fun e he=>by obtain⟨x,_,rfl⟩:=List.mem_map.1 he;rfl) (by rw[hl];exact bM) (by rw[dv,Nat.mul_one];exact Nat.le_refl _)
   (fun e he=>by obtain⟨x,_,rfl⟩:=List.mem_map.1 he;exact iM.BH (cE x))
   (fun a c u hc=>by
    simp only[List.getElem?_map]at hc;cases hb:b.data.toList[a]? with
    | none=>rw[hb]at hc;cases hc
    | some y=>
     rw[hb]at hc;cases c with
     | zero=>
      simp only[Option.map_some,Option.bind_some,cE,List.getElem?_cons_zero,Option.some.injEq]at hc;subst hc;have ab:a<b.data.size:=by
       rcases bp a b.data.size with hx|hx
       ·exact hx
       rw[List.getElem?_eq_none (by simpa using hx)]at hb;cases hb
      refine⟨.int .u8 y.toNat,?_,.sc _ rfl⟩;have qG:b.data[a]?=some y:=by rw[<-hb];simp
      simp only[Lib.bytesCells,Nat.mul_one,Nat.add_zero];rw[Array.getElem?_append_left (by simpa using ab),Array.getElem?_map,qG];rfl
     | succ c=>simp[cE]at hc)
  refine⟨_,_,_,rfl,hn.1,?_,hn.2,fun r g p hh=>su r g p hh⟩;have:=aL.aw (rd:=rd) (φ:=dB φ d G fun p=>match p with|[]=>some ⟨some (w.heap.size,0),grownCap w b.size 0 i.el⟩|_=>none) d G [] 1 0 b.data.toList.length ⟨some (w.heap.size,0),grownCap w b.size 0 i.el⟩ (some (cM w.heap.size 0)) (by simp[dB]) (.inr (by simp)) (by rw[Array.length_toList];simpa using bM);have e1:b.data.toList.length=b.size:=by rw[Array.length_toList];rfl
  rw[e1]at this ⊢;exact this
 cases cQ
theorem ah8 (h:bc rd φ O w0 σ w) (dA:∀p,φ d G p=none) {ev:Operand->AV}{ρ:Operand->Value}(cY:∀x,aL rd φ (ev x) (ρ x)) {o:Oper}{v:AV}{σ':ak}
  (ha:tv P d G ev σ o.op=some (v,σ')):yL rd φ O w0 d G true σ' v ((execOp ρ o).run P w):=by
 unfold execOp;cases dE:o.op with
 | buildSlice t len parts=>
  rw[dE]at ha;exact(ahu h dA cY ha).next
 | convert s t x=>
  rw[dE]at ha;simp only[tv]at ha;split at ha
  ·rename_i hs;exact(Za h dA hs (cY x) ha).next
  cases ha
 | call c=>
  rw[dE]at ha;simp only[tv]at ha;split at ha
  ·rename_i x y t tx kt fL oi;have h1:c.args=#[x,y]:=by rw[<-Array.toList_inj,fL]
   have h2:c.argTypes=#[t,tx]:=by rw[<-Array.toList_inj,oi]
   have key:=(ahV (ty:=o.type) h dA (cY x) (cY y) ha).next
   have e1:Array.map ρ #[x,y]=#[ρ x,ρ y]:=by simp
   simp only[resolve,kt,h1,h2,e1];exact key
  ·rename_i x y t tx kt fL oi;have h1:c.args=#[x,y]:=by rw[<-Array.toList_inj,fL]
   have h2:c.argTypes=#[t,tx]:=by rw[<-Array.toList_inj,oi]
   have key:=(afn (ty:=o.type) h (cY x) (cY y) ha).next (d:=d) (G:=G) (b:=true)
   have e1:Array.map ρ #[x,y]=#[ρ x,ρ y]:=by simp
   simp only[resolve,kt,h1,h2,e1];exact key
  cases ha
 | _=>rw[dE]at ha;cases ha
end
def aix (P:Program) (n d G:Nat) (σ:ak) (args:List AV) (v:AV) (σ':ak):Prop:=
 ∃σ1 as res rf,o8 σ args=some (σ1,as)/\ba P n as res rf/\Bs rf=true/\v=nm d G res/\σ'=nP σ1 d G rf
def Xd (P:Program) (n d G:Nat) (σ:ak) (args:List AV) (v:AV) (σ':ak):Prop:=
 ∃σ1 as res rf,o8 σ args=some (σ1,as)/\ba P n as res rf/\(zk res=true/\zl rf=true)/\v=nm d G res/\σ'=nP σ d G rf
def aiv (P:Program) (n d G:Nat) (σ:ak) (args:List AV) (v:AV) (σ':ak):Prop:=
 ∃ms L σ1 as σin res σout,L=na false σ 1 30 1000000 [] (q7 ms args)/\(mC L=true/\Cd L=true)/\ss (iF L) σ ms args=some (σ1,as)/\mI σ1 (iF L) L=some σin/\aY P n σin as res σout/\
  vR σout=true/\u4 (ph L d G) (yo σ1 L) σout=some σ'/\v=zx (ph L d G) res
def aiu (P:Program) (n d G:Nat) (σ:ak) (args:List AV) (v:AV) (σ':ak):Prop:=
 ∃ms L σ1 as σin res σout,L=na false σ 1 30 1000000 [] (q7 ms args)/\(mC L=true/\Cd L=true)/\ss (iF L) σ ms args=some (σ1,as)/\mI σ1 (iF L) L=some σin/\mI σ (iF L) L=some σin/\aY P n σin as res σout/\
  (zk res=true/\Aa σout)/\vR σout=true/\u4 (ph L d G) (yo σ L) σout=some σ'/\v=zx (ph L d G) res
def He:Value->Option Nat
 | .func (.func n) first captured=>match first.toList,captured.toList with
  | [.agg a],[]=>match a.toList with
   | []=>some n
   | _=>none
  | _,_=>none
 | _=>none
theorem aec {n:Nat}:He (.func (.func n) #[.agg #[]] #[])=some n:=rfl
def DR (P:Program) (t:Nat):Option AV:=(ti P t).bind fun i=>match i.ag,i.sz with
 | true,0=>some (.agg [])
 | _,_=>none
def AE (f:Nat):AV->Option AV
 | .agg []=>some (.sc (.func (.func f) #[.agg #[]] #[]))
 | _=>none
def AA (P:Program) (e:Operand->AV):Op->Option AV
 | .load t (.global g)=>DR P t
 | .makeFunc (.func f) first captured=>match first.toList,captured.toList with
  | [x],[]=>AE f (e x)
  | _,_=>none
 | _=>none
def z9:AV->Option Nat
 | .sc v=>He v
 | _=>none
def Xc (P:Program) (d:Nat) (op:Op) (e:Operand->AV) (σ:ak) (G:Nat) (v:AV) (σ':ak) (b:Bool):Prop:=
 (kO P d G e σ op=some (v,σ')/\b=yD op)\/(tv P d G e σ op=some (v,σ')/\b=true)\/
 (b=true/\∃c n,op=.call c/\c.callee=.value (.func n)/\
  (aix P n d G σ (c.args.toList.map e) v σ'\/Xd P n d G σ (c.args.toList.map e) v σ'\/aiv P n d G σ (c.args.toList.map e) v σ'\/aiu P n d G σ (c.args.toList.map e) v σ'))\/
 (AA P e op=some v/\σ'=σ/\b=false)\/
 (b=true/\∃c n x,op=.call c/\c.callee=.value x/\z9 (e x)=some n/\Xd P n d G σ (.agg []::c.args.toList.map e) v σ')\/
 Ih P d G e σ op v σ' b
def Can (P:Program) (o:Oper) (e:Operand->AV) (σ:ak) (G:Nat) (v:AV) (σ':ak) (b:Bool):Prop:=Xc P (o.dst.getD 0) o.op e σ G v σ' b
def qV (P:Program) (o:Oper) (s:St) (K:St->Prop):Prop:=∃v σ' b,Can P o (ev s) s.σ s.G v σ' b/\put s o.dst v σ' b K
def kT (P:Program) (ops:Array Oper) (o:Oper) (s:St) (K:St->Prop):Prop:=
 match o.guard with
 | none=>qV P o s K
 | some (j,want)=>match nr ops j with
  | none=>False
  | some t=>match bE s.tm t with
   | some (.sc (.bool b))=>Br b (Br want (qV P o s K) (put s o.dst (.aZ []) s.σ false K)) (Br want (put s o.dst (.aZ []) s.σ false K) (qV P o s K))
   | some (.aZ [])=>put s o.dst (.aZ []) s.σ false K
   | _=>False
def yU (P:Program) (ops:Array Oper):List Oper->St->(St->Prop)->Prop
 | [],s,Q=>Q s
 | o::os,s,Q=>kT P ops o s fun s'=>yU P ops os s' Q
section
variable {P:Program}{rd:RD}{φ:cj}{O:Nat->Prop}{w0 w:World}{s:St}{a:Act}
theorem aew {o:Oper}{c:Call}{n:Nat}(dE:o.op=.call c) (kt:c.callee=.value (.func n)) (ov:tB P n):(execOp a.eval o).run P w=.ok (.enter n (c.args.map a.eval)) w:=by
 obtain⟨fn,jY,ow,CJ⟩:=ov;unfold execOp;rw[dE];have Ld:¬fn.name= "runtime.NumGoroutine" :=by simpa using ow
 have Lc:¬fn.body=none:=fun e=>by rw[e]at CJ;cases CJ
 simp[resolve,kt,Act.eval,Deferred.ofValue,invoke,callFunc,jY,Ld,Lc]
theorem aeb {v:Value}{n:Nat}(h:He v=some n):v=.func (.func n) #[.agg #[]] #[]:=by
 unfold He at h;split at h
 ·rename_i m first captured
  split at h
  ·rename_i a h1 h2;split at h
   ·rename_i h3;cases h;have e1:first=#[.agg a]:=by rw[<-Array.toList_inj,h1]
    have e2:captured=#[]:=by rw[<-Array.toList_inj,h2]
    have e3:a=#[]:=by rw[<-Array.toList_inj,h3]
    rw[e1,e2,e3]
   cases h
  cases h
 cases h
theorem aea {c:AV}{v:Value}{n:Nat}(hv:aL rd φ c v) (h:z9 c=some n):v=.func (.func n) #[.agg #[]] #[]:=by
 unfold z9 at h;split at h
 ·rw[fH hv];exact aeb h
 cases h
theorem X9 {v:Value}(hv:aL rd φ (.agg []) v):v=.agg #[]:=by
 obtain⟨arr,rfl,hp⟩:=PW.mM hv;have:arr.toList=[]:=List.eq_nil_of_length_eq_zero hp.1.symm;rw[show arr=#[] by rw[<-Array.toList_inj,this]]
theorem ah5 {ρ:Operand->Value}{d G:Nat}{o:Oper}{v:AV}{e:Operand->AV}{σ:ak}(h:bc rd φ O w0 σ w) (hg:∀g,ρ (.global g)=.pointer (some ⟨g,0,none⟩)) (cY:∀x,aL rd φ (e x) (ρ x)) (ha:AA P e o.op=some v):
  yL rd φ O w0 d G false σ v ((execOp ρ o).run P w):=by
 unfold execOp;unfold AA at ha;split at ha
 ·rename_i t g dE;rw[dE];obtain⟨i,hi,ha⟩:=cG ha;split at ha
  ·rename_i h1 h2;cases ha;refine kR.next ?_;rw[hg];obtain⟨cv,eS,hv⟩:=Kk (P:=P) (rd:=rd) (φ:=φ) (w:=w) hi (cs:=[]) (b:=g) (q:=0) (fun j c hc=>by simp at hc) (o:=0) (v:=.agg []) (by simp[sJ,h1,h2]);exact .same h eS hv
  cases ha
 ·rename_i f first captured dE
  rw[dE];split at ha
  ·rename_i x h1 h2;have e1:first=#[x]:=by rw[<-Array.toList_inj,h1]
   have e2:captured=#[]:=by rw[<-Array.toList_inj,h2]
   unfold AE at ha;split at ha
   ·rename_i hx;cases ha;have c8:=cY x;rw[hx]at c8;have c8:=X9 c8;refine kR.next ?_;refine .same h (cv:=.func (.func f) #[.agg #[]] #[]) ?_ (.sc _ rfl);simp[Instr.makeFunc,e1,e2,c8]
   cases ha
  cases ha
 cases ha
theorem aex {o:Oper}{c:Call}{n:Nat}{x:Operand}(dE:o.op=.call c) (kt:c.callee=.value x) (hx:a.eval x=.func (.func n) #[.agg #[]] #[]) (ov:tB P n):(execOp a.eval o).run P w=.ok (.enter n (#[Value.agg #[]]++c.args.map a.eval)) w:=by
 obtain⟨fn,jY,ow,CJ⟩:=ov;unfold execOp;rw[dE];have Ld:¬fn.name= "runtime.NumGoroutine" :=by simpa using ow
 have Lc:¬fn.body=none:=fun e=>by rw[e]at CJ;cases CJ
 simp[resolve,kt,hx,Deferred.ofValue,invoke,callFunc,jY,Ld,Lc]
theorem ID {lF:kQ}(iq:nj O w0 lF rd φ) {o:Oper}{K:St->Prop}{Q:Exit->Act->World->Prop}{next:Act->World->Prop}(h:Rel rd φ O w0 s a w)
  (hv:qV P o s K) (hn:∀s' a' w',K s'->iz lF O w0 s' a' w'->next a' w'):o.wp P a w next Q:=by
 have dA:∀p,φ (o.dst.getD 0) s.G p=none:=fun p=>by
  cases hp:φ (o.dst.getD 0) s.G p with
  | none=>rfl
  | some x=>exact absurd (h.gen _ s.G p (by rw[hp];simp)) (Nat.lt_irrefl _)
 obtain⟨v,σ',b,hc,hk⟩:=hv;have plain:∀{b:Bool},put s o.dst v σ' b K->yL rd φ O w0 (o.dst.getD 0) s.G b σ' v ((execOp a.eval o).run P w)->o.wp P a w next Q:=by
  rintro b hk ⟨nx,cv,w',rd',φ',h1,h2,hx,h3,h4,h5,h6⟩;obtain⟨s',hs,fj⟩:=h.put hk hx.1 h3 h4 h5 h6;unfold Oper.wp;rw[h1];rcases h2 with rfl|⟨rfl,rfl⟩
  ·exact hn _ _ _ hs ⟨rd',φ',iq.step hx h5,fj⟩
  exact hn _ _ _ hs ⟨rd',φ',iq.step hx h5,fj⟩
 rcases hc with ⟨ha,rfl⟩|⟨ha,rfl⟩|⟨rfl,c,n,dE,kt,hc⟩|⟨ha,rfl,rfl⟩|⟨rfl,c,n,x,dE,kt,K8,hc⟩|Lq
 ·exact plain hk (ah7 h.heap dA (fun x=>h.ev x) ha)
 ·exact plain hk (ah8 h.heap dA (fun x=>h.ev x) ha)
 ·have uc:PW rd φ (c.args.toList.map (ev s)) (c.args.map a.eval).toList:=by
   refine⟨by simp,fun j x hj=>?_⟩;rw[List.getElem?_map]at hj;obtain⟨y,hy,rfl⟩:=cP hj;exact⟨a.eval y,by simp[hy],h.ev y⟩
  have fin:tB P n/\Calls P n (c.args.map a.eval) w (fun e w'=>∃v s',e=.returned v/\K s'/\iz lF O w0 s' (a.put o.dst v) w')->o.wp P a w next Q:=by
   rintro⟨ov,CO⟩;unfold Oper.wp;rw[aew dE kt ov];show Calls P n _ w _
   refine CO.mono ?_;rintro e w' ⟨v,s',rfl,hk,fj⟩;exact hn _ _ _ hk fj
  rcases hc with ⟨σ1,as,res,rf,h1,h2,h3,rfl,rfl⟩|⟨σ1,as,res,rf,h1,h2,h3,rfl,rfl⟩|⟨ms,L,σ1,as,σin,res,σout,rfl,h2,h3,h4,h5,h6,h7,rfl⟩|⟨ms,L,σ1,as,σin,res,σout,rfl,h2,h3,h4,h5,h6,h7,h8,h9,rfl⟩
  ·exact fin (XS iq h uc (l7 h1 ⟨res,rf,h2,h3,hk⟩))
  ·exact fin (Ou (d:=o.dst) iq h uc (l7 h1 ⟨res,rf,h2,h3,hk⟩))
  ·exact fin (XQ (ms:=ms) (d:=o.dst) iq h uc ⟨h2,l7 h3 (l7 h4 ⟨res,σout,h5,h6,l7 h7 hk⟩)⟩)
  exact fin (XR (ms:=ms) (d:=o.dst) iq h uc ⟨h2,l7 h3 (l7 h4 ⟨h5,res,σout,h6,h7,h8,l7 h9 hk⟩)⟩)
 ·exact plain hk (ah5 h.heap (fun _=>rfl) (fun x=>h.ev x) ha)
 ·have uc:PW rd φ (AV.agg []::c.args.toList.map (ev s)) (#[Value.agg #[]]++c.args.map a.eval).toList:=by
   rw[Array.toList_append];refine PW.cons (PW.agg (arr:=#[]) PW.nil) ⟨by simp,fun j x hj=>?_⟩;rw[List.getElem?_map]at hj;obtain⟨y,hy,rfl⟩:=cP hj;exact⟨a.eval y,by simp[hy],h.ev y⟩
  have fin:tB P n/\Calls P n (#[Value.agg #[]]++c.args.map a.eval) w (fun e w'=>∃v s',e=.returned v/\K s'/\iz lF O w0 s' (a.put o.dst v) w')->o.wp P a w next Q:=by
   rintro⟨ov,CO⟩;unfold Oper.wp;rw[aex dE kt (aea (h.ev x) K8) ov];show Calls P n _ w _
   refine CO.mono ?_;rintro e w' ⟨v,s',rfl,hk,fj⟩;exact hn _ _ _ hk fj
  obtain⟨σ1,as,res,rf,h1,h2,h3,rfl,rfl⟩:=hc;exact fin (Ou (d:=o.dst) iq h uc (l7 h1 ⟨res,rf,h2,h3,hk⟩))
 exact plain hk (afw h.heap dA (fun x=>h.ev x) Lq)
theorem IC {lF:kQ}(iq:nj O w0 lF rd φ) {ops:Array Oper}{i:Nat}{o:Oper}(ho:ops[i]?=some o) {K:St->Prop}{Q:Exit->Act->World->Prop}{next:Act->World->Prop}(h:Rel rd φ O w0 s a w)
  (hv:kT P ops o s K) (hn:∀s' a' w',K s'->iz lF O w0 s' a' w'->next a' w'):
  if Region.wanted o (yielded ops a.tmps) then o.wp P a w next Q\/(o.asks P a w/\LetsOut Q) else next (a.put o.dst undef) w:=by
 have skip:∀{s:St},Rel rd φ O w0 s a w->put s o.dst (.aZ []) s.σ false K->next (a.put o.dst undef) w:=by
  intro s h hk;obtain⟨s',hs,fj⟩:=h.put hk (fun _ _ _ h=>h) h.heap (PW.aZ (arr:=#[]) PW.nil) (fun _ _ _ _ h=>h) (fun _ _ _ h=>.inl h);exact hn _ _ _ hs ⟨rd,φ,iq,fj⟩
 unfold kT at hv;split at hv
 ·rename_i hg;have hw:Region.wanted o (yielded ops a.tmps)=true:=by simp[Region.wanted,hg]
  rw[if_pos hw];exact .inl (ID iq h hv hn)
 rename_i j want hg;split at hv
 ·cases hv
 rename_i t Gn;have Sx:(ops[j]?).bind (·.dst)=some t:=by
  unfold nr at Gn;split at Gn
  ·rename_i hx;rw[hx];exact Gn
  cases Gn
 split at hv
 ·rename_i b hl;obtain⟨h1,_⟩:=h.known hl;have hw:Region.wanted o (yielded ops a.tmps)=(b==want):=by
   simp[Region.wanted,hg,yielded,Sx,h1]
  cases b with
  | true=>
   rw[uG]at hv;cases want with
   | true=>rw[if_pos (by rw[hw];rfl)];exact .inl (ID iq h hv hn)
   | false=>rw[if_neg (by rw[hw];decide)];exact skip h hv
  | false=>
   rw[uH]at hv;cases want with
   | false=>rw[if_pos (by rw[hw];rfl)];exact .inl (ID iq h hv hn)
   | true=>rw[if_neg (by rw[hw];decide)];exact skip h hv
 ·rename_i hl;have hv0:=h.tm t _ hl;have hw:Region.wanted o (yielded ops a.tmps)=false:=by
   obtain⟨arr,e,_⟩:=PW.tS hv0;have e2:∀b:Bool,a.tmps[t]?≠some (.bool b):=by
    intro b hb;rw[Array.getD_eq_getD_getElem?,hb]at e;cases e
   have e3:yielded ops a.tmps j=none:=by
    unfold yielded;rw[Sx];split
    ·rename_i b hb;exact absurd hb (e2 b)
    rfl
   simp[Region.wanted,hg,e3]
  rw[if_neg (by rw[hw];decide)];exact skip h hv
 cases hv
theorem Ot {rd:kQ}{ops:Array Oper}{K:St->Prop}{Q:Exit->Act->World->Prop}(hn:∀s' a' w',K s'->iz rd O w0 s' a' w'->Q .normal a' w'):
  ∀(l:List Nat) (os:List Oper),l.map (ops[·]?)=os.map some->∀s a w,iz rd O w0 s a w->yU P ops os s K->wpOps P ops Q l a w
 | [],[],_,s,a,w,h,hv=>hn _ _ _ hv h
 | [],_::_,hl,_,_,_,_,_=>by cases hl
 | _::_,[],hl,_,_,_,_,_=>by cases hl
 | i::l,o::os,hl,s,a,w,⟨rd',φ,hx,h⟩,hv=>by
  simp only[List.map_cons,List.cons.injEq]at hl;simp only[wpOps,hl.1];exact IC hx hl.1 h hv fun s' a' w' hk hr=>Ot hn l os hl.2 s' a' w' hr hk
theorem ke {s:St}{d:Option Nat}{v:AV}{σ:ak}{b:Bool}{K1 K2:St->Prop}(hk:∀s,K1 s->K2 s) (h:put s d v σ b K1):put s d v σ b K2:=by
 unfold put at h ⊢;cases d with
 | none=>exact hk _ h
 | some d=>
  simp only at h ⊢;split at h
  ·exact hk _ h
  cases h
theorem XO {o:Oper}{s:St}{K1 K2:St->Prop}(hk:∀s,K1 s->K2 s) (h:qV P o s K1):qV P o s K2:=by
 obtain⟨v,σ',b,h1,h2⟩:=h;exact⟨v,σ',b,h1,ke hk h2⟩
theorem EF {ops:Array Oper}{o:Oper}{s s':St}{K K':St->Prop}(hl:∀j w t,o.guard=some (j,w)->nr ops j=some t->bE s.tm t=bE s'.tm t) (h1:qV P o s K->qV P o s' K') (h2:put s o.dst (.aZ []) s.σ false K->put s' o.dst (.aZ []) s'.σ false K')
  (h:kT P ops o s K):kT P ops o s' K':=by
 unfold kT at h ⊢;cases hg:o.guard with
 | none=>rw[hg]at h;exact h1 h
 | some jw=>
  obtain⟨j,want⟩:=jw;rw[hg]at h;simp only at h ⊢;cases hs:nr ops j with
  | none=>rw[hs]at h;cases h
  | some t=>
   rw[hs]at h;simp only at h ⊢;rw[<-hl j want t hg hs];split at h
   ·rename_i b hb;cases b<;>cases want<;>simp only[uG,uH]at h ⊢<;>first|exact h1 h|exact h2 h
   ·exact h2 h
   cases h
theorem yS {ops:Array Oper}{o:Oper}{s:St}{K1 K2:St->Prop}(hk:∀s,K1 s->K2 s) (h:kT P ops o s K1):kT P ops o s K2:=
 EF (fun _ _ _ _ _=>rfl) (XO hk) (ke hk) h
def lZ (s s':St):Prop:=s.n=s'.n/\s.σ=s'.σ/\s.G=s'.G/\∀t,bE s.tm t=bE s'.tm t
theorem lZ.refl (s:St):lZ s s:=⟨rfl,rfl,rfl,fun _=>rfl⟩
theorem lZ.symm {s s':St}(h:lZ s s'):lZ s' s:=⟨h.1.symm,h.2.1.symm,h.2.2.1.symm,fun t=>(h.2.2.2 t).symm⟩
theorem lZ.trans {s s' eO:St}(h:lZ s s') (k:lZ s' eO):lZ s eO:=⟨h.1.trans k.1,h.2.1.trans k.2.1,h.2.2.1.trans k.2.2.1,fun t=>(h.2.2.2 t).trans (k.2.2.2 t)⟩
theorem lZ.ev {s s':St}(h:lZ s s'):ev s=ev s':=by
 funext x;cases x with
 | tmp t=>simp only[E.ev,h.2.2.2 t]
 | _=>rfl
def upto (K:St->Prop) (s:St):Prop:=∃t,lZ t s/\K t
theorem Oz {K:St->Prop}{s:St}(h:upto (upto K) s):upto K s:=by
 obtain⟨t,e,u,e2,hk⟩:=h;exact⟨u,e2.trans e,hk⟩
theorem Jo {s s':St}{d:Option Nat}{v:AV}{σ:ak}{b:Bool}{K:St->Prop}(h:lZ s s') (hk:put s d v σ b K):put s' d v σ b (upto K):=by
 obtain⟨n,tm,σ0,G⟩:=s;obtain⟨n',tm',σ1,G'⟩:=s';obtain⟨h1,h2,h3,h4⟩:=h;simp only at h1 h2 h3 h4;subst h1;subst h2;subst h3;unfold put at hk ⊢;cases d with
 | none=>exact⟨⟨n,tm,σ,tr b G⟩,⟨rfl,rfl,rfl,h4⟩,hk⟩
 | some d=>
  simp only at hk ⊢;split at hk
  ·exact⟨⟨n,(d,v)::tm,σ,tr b G⟩,⟨rfl,rfl,rfl,fun t=>by simp only[gR,h4]⟩,hk⟩
  cases hk
theorem XP {o:Oper}{s s':St}{K:St->Prop}(h:lZ s s') (hk:qV P o s K):qV P o s' (upto K):=by
 obtain⟨v,σ',b,h1,h2⟩:=hk;rw[h.ev,h.2.1,h.2.2.1]at h1;exact⟨v,σ',b,h1,Jo h h2⟩
theorem XL {ops:Array Oper}{o:Oper}{s s':St}{K:St->Prop}(h:lZ s s') (hk:kT P ops o s K):kT P ops o s' (upto K):=
 EF (fun _ _ t _ _=>h.2.2.2 t) (XP h) (fun hp=>by rw[<-h.2.1];exact Jo h hp) hk
def WU (y:Oper) (s s':St):Prop:=∃cy σ' G',s'=⟨s.n,cy++s.tm,σ',G'⟩/\((cy=[]/\y.dst=none)\/∃t u,y.dst=some t/\cy=[(t,u)])
theorem Qb {y:Oper}{s:St}{v:AV}{σ:ak}{b:Bool}{K:St->Prop}(h:put s y.dst v σ b K):put s y.dst v σ b fun s'=>K s'/\WU y s s':=by
 unfold put at h ⊢;cases hd:y.dst with
 | none=>rw[hd]at h;exact⟨h,[],σ,_,rfl,.inl ⟨rfl,hd⟩⟩
 | some d=>
  rw[hd]at h;simp only at h ⊢;split at h
  ·exact⟨h,[(d,v)],σ,_,rfl,.inr ⟨d,v,hd,rfl⟩⟩
  cases h
theorem On {ops:Array Oper}{y:Oper}{s:St}{K:St->Prop}(h:kT P ops y s K):kT P ops y s fun s'=>K s'/\WU y s s':=
 EF (fun _ _ _ _ _=>rfl) (fun⟨v,σ',b,h1,h2⟩=>⟨v,σ',b,h1,Qb h2⟩) Qb h
end
def iO:Op->Bool
 | .move _|.assign _|.pick ..|.load ..|.fieldAddr ..|.extract ..|.nilCheck _|.binOp ..|.unOp ..|.convert ..|.indexAddr ..|.slice ..|.index ..|.field ..|.build ..|.buildSlice ..=>true
 | .call c=>match c.callee with
  | .builtin .len|.builtin .min|.builtin .max=>true
  | _=>false
 | _=>false
def Db:Op->Bool
 | .load ..|.indexAddr ..|.convert ..=>false
 | o=>iO o
def kX (P:Program) (σ:ak) (ev:Operand->AV) (op:Op):Option AV:=(kO P 0 0 ev σ op).map (·.1)
theorem WO {P:Program}{d G:Nat}{ev:Operand->AV}{σ:ak}{op:Op}(h:iO op=true):kO P d G ev σ op=(kX P σ ev op).map fun v=>(v,σ):=by
 unfold kX;cases op<;>simp[iO]at h<;>simp[kO,Option.map_map,Function.comp_def];rename_i c;split at h
 ·rename_i hc;rw[hc];split<;>first|rfl|simp[Option.map_map,Function.comp_def]
 ·rename_i hc;rw[hc];split<;>first|rfl|simp[Option.map_map,Function.comp_def]
 ·rename_i hc;rw[hc];split<;>first|rfl|simp[Option.map_map,Function.comp_def]
 cases h
theorem aap {P:Program}{σ σ':ak}{ev:Operand->AV}{op:Op}(h:Db op=true):kX P σ ev op=kX P σ' ev op:=by
 unfold kX;cases op<;>simp[Db,iO]at h<;>simp[kO,Option.map_map,Function.comp_def];rename_i c;split at h
 ·rename_i hc;rw[hc];split<;>first|rfl|simp[Option.map_map,Function.comp_def]
 ·rename_i hc;rw[hc];split<;>first|rfl|simp[Option.map_map,Function.comp_def]
 ·rename_i hc;rw[hc];split<;>first|rfl|simp[Option.map_map,Function.comp_def]
 cases h
theorem Qf {op:Op}(h:iO op=true):yD op=false:=by cases op<;>first|rfl|cases h
theorem JY {e e':Operand->AV}{ps:Array (Nat × Operand)}(h:∀x∈ps,e x.2=e' x.2):(ps.toList.map fun x=>(x.1,e x.2))=ps.toList.map fun x=>(x.1,e' x.2):=
 List.map_congr_left fun x hx=>by rw[h x (by simpa using hx)]
theorem WQ {P:Program}{d G:Nat}{e e':Operand->AV}{σ:ak}{op:Op}(h:∀x∈op.operands,e x=e' x):kO P d G e σ op=kO P d G e' σ op:=by
 cases op
 case call c=>
  simp only[Op.operands]at h;simp only[kO];have hx:∀x∈c.args.toList,e x=e' x:=fun x hx=>h x (by simp[Call.operands];exact .inr (by simpa using hx))
  split
  ·rename_i x t h1 h2 h3;rw[hx x (by rw[h2];simp)]
  ·rename_i x y h1 h2;rw[hx x (by rw[h2];simp),hx y (by rw[h2];simp)]
  ·rename_i x y h1 h2;rw[hx x (by rw[h2];simp),hx y (by rw[h2];simp)]
  rfl
 case slice t x lo hi mx=>
  simp only[Op.operands]at h;simp only[kO];have h1:e x=e' x:=h x (by simp);have h2:lo.map e=lo.map e':=by cases lo with|none=>rfl|some y=>simp[h y (by simp)]
  have h3:hi.map e=hi.map e':=by cases hi with|none=>rfl|some y=>simp[h y (by simp)]
  have h4:mx.map e=mx.map e':=by cases mx with|none=>rfl|some y=>simp[h y (by simp)]
  rw[h1,h2,h3,h4]
 case build t ps=>
  simp only[kO];rw[JY fun x hx=>h x.2 (by simp only[Op.operands];exact List.mem_toArray.2 (List.mem_map.2 ⟨x,by simpa using hx,rfl⟩))]
 case buildSlice t n ps=>
  simp only[kO];rw[JY fun x hx=>h x.2 (by simp only[Op.operands];exact List.mem_toArray.2 (List.mem_map.2 ⟨x,by simpa using hx,rfl⟩))]
 all_goals(simp only[Op.operands]at h;simp only[kO])
 all_goals(first|rfl|(simp_all;done))
theorem ah9 {P:Program}{d G:Nat}{e e':Operand->AV}{σ:ak}{op:Op}(h:∀x∈op.operands,e x=e' x):tv P d G e σ op=tv P d G e' σ op:=by
 cases op<;>try rfl
 case buildSlice t n ps=>
  simp only[tv];rw[JY fun x hx=>h x.2 (by simp only[Op.operands];exact List.mem_toArray.2 (List.mem_map.2 ⟨x,by simpa using hx,rfl⟩))]
 case convert s t x=>
  simp only[tv,h x (by simp[Op.operands])]
 case call c=>
  simp only[Op.operands]at h;simp only[tv];have hx:∀x∈c.args.toList,e x=e' x:=fun x hx=>h x (by simp[Call.operands];exact .inr (by simpa using hx))
  split
  ·rename_i x y t tx h1 h2 h3;rw[hx x (by rw[h2];simp),hx y (by rw[h2];simp)]
  ·rename_i x y t tx h1 h2 h3;rw[hx x (by rw[h2];simp),hx y (by rw[h2];simp)]
  rfl
theorem ah6 {P:Program}{e e':Operand->AV}{op:Op}(h:∀x∈op.operands,e x=e' x):AA P e op=AA P e' op:=by
 cases op<;>try rfl
 case load t x=>cases x<;>rfl
 case makeFunc f first captured=>
  cases f<;>try rfl
  simp only[AA];split
  ·rename_i x h1 h2;rw[h x (by simp only[Op.operands];rw[Array.mem_append];exact .inl (by rw[<-Array.mem_toList_iff,h1];simp))]
  rfl
theorem aiw {P:Program}{d G:Nat}{e e':Operand->AV}{σ σ':ak}{op:Op}{v:AV}{b:Bool}(h:∀x∈op.operands,e x=e' x) (hc:Ih P d G e σ op v σ' b):Ih P d G e' σ op v σ' b:=by
 rcases hc with h1|⟨rfl,t,x,k,ok,K,E,r,g,p,f,C,res,zv,rfl,hT,hE,hx,hl,hf,hk,jX,rfl,rfl⟩|⟨rfl,t,m,k,x,K,E,r,g,p,f,C,ck,cx,rfl,hT,hx,hl,hf,hk,jX,yb,GM,rfl,rfl⟩
 ·exact .inl h1
 ·rw[h x (by simp[Op.operands])]at hx;rw[h k (by simp[Op.operands])]at hk jX;exact .inr (.inl ⟨rfl,t,x,k,ok,K,E,r,g,p,f,C,res,zv,rfl,hT,hE,hx,hl,hf,hk,jX,rfl,rfl⟩)
 rw[h m (by simp[Op.operands])]at hx;rw[h k (by simp[Op.operands])]at hk jX yb ⊢;rw[h x (by simp[Op.operands])]at GM ⊢;exact .inr (.inr ⟨rfl,t,m,k,x,K,E,r,g,p,f,C,ck,cx,rfl,hT,hx,hl,hf,hk,jX,yb,GM,rfl,rfl⟩)
theorem ait {P:Program}{o:Oper}{e e':Operand->AV}{σ σ':ak}{G:Nat}{v:AV}{b:Bool}(h:∀x∈o.op.operands,e x=e' x) (hc:Can P o e σ G v σ' b):Can P o e' σ G v σ' b:=by
 rcases hc with ⟨h1,h2⟩|⟨h1,h2⟩|⟨hb,c,n,dE,kt,h1⟩|⟨h1,h2⟩|⟨hb,c,n,x,dE,kt,K8,h1⟩|Lq
 ·exact .inl ⟨by rw[<-WQ h];exact h1,h2⟩
 ·exact .inr (.inl ⟨by rw[<-ah9 h];exact h1,h2⟩)
 ·have:c.args.toList.map e=c.args.toList.map e':=List.map_congr_left fun x hx=>h x (by rw[dE];simp[Op.operands,Call.operands];exact .inr (by simpa using hx))
  rw[this]at h1;exact .inr (.inr (.inl ⟨hb,c,n,dE,kt,h1⟩))
 ·exact .inr (.inr (.inr (.inl ⟨by rw[<-ah6 h];exact h1,h2⟩)))
 ·have:c.args.toList.map e=c.args.toList.map e':=List.map_congr_left fun x hx=>h x (by rw[dE];simp[Op.operands,Call.operands];exact .inr (by simpa using hx))
  rw[this]at h1;exact .inr (.inr (.inr (.inr (.inl ⟨hb,c,n,x,dE,kt,by rw[<-h x (by rw[dE];simp[Op.operands,Call.operands,kt])];exact K8,h1⟩))))
 exact .inr (.inr (.inr (.inr (.inr (aiw h Lq)))))
def pv (P:Program) (ops:Array Oper) (σ:ak) (e:Operand->AV) (o:Oper):Option AV:=match o.guard with
 | none=>kX P σ e o.op
 | some (j,want)=>match nr ops j with
  | none=>none
  | some t=>match e (.tmp t) with
   | .sc (.bool b)=>match b==want with
    | true=>kX P σ e o.op
    | false=>some (.aZ [])
   | .aZ []=>some (.aZ [])
   | _=>none
def yT (P:Program) (ops:Array Oper) (o:Oper) (s:St) (K:St->Prop):Prop:=dj (pv P ops s.σ (ev s) o) fun v=>put s o.dst v s.σ false K
theorem Oo {P:Program}{ops:Array Oper}{o:Oper}{s:St}{K1 K2:St->Prop}(hk:∀s,K1 s->K2 s) (h:yT P ops o s K1):yT P ops o s K2:=by
 obtain⟨v,hv,h1⟩:=gp h;exact l7 hv (ke hk h1)
theorem XM {P:Program}{ops:Array Oper}{o:Oper}{s:St}{K:St->Prop}(h:iO o.op=true) (hv:yT P ops o s K):kT P ops o s K:=by
 have plain:∀{v},kX P s.σ (ev s) o.op=some v->put s o.dst v s.σ false K->qV P o s K:=fun h1 h2=>
  ⟨_,_,_,.inl ⟨by rw[WO h,h1];rfl,rfl⟩,by rw[Qf h];exact h2⟩
 obtain⟨v,h1,h2⟩:=gp hv;unfold pv at h1;unfold kT;cases hg:o.guard with
 | none=>rw[hg]at h1;exact plain h1 h2
 | some jw=>
  obtain⟨j,want⟩:=jw;rw[hg]at h1;simp only at h1 ⊢;cases hs:nr ops j with
  | none=>rw[hs]at h1;cases h1
  | some t=>
   rw[hs]at h1;simp only[ev]at h1 ⊢;cases hl:bE s.tm t with
   | none=>rw[hl]at h1;cases h1
   | some u=>
    rw[hl]at h1;cases u with
    | sc u=>
     cases u with
     | bool b=>
      cases b<;>cases want<;>simp only[uG,uH]at h1 ⊢<;>first|exact plain h1 h2|(cases h1;exact h2)
     | _=>cases h1
    | aZ vs=>
     cases vs with
     | nil=>cases h1;exact h2
     | cons=>cases h1
    | _=>cases h1
theorem EN {P:Program}{ops:Array Oper}{σ σ':ak}{e e':Operand->AV}{o:Oper}(hσ:kX P σ e o.op=kX P σ' e o.op) (ht:∀t∈o.looksAt ops,e (.tmp t)=e' (.tmp t)) (hn:∀x,(∀t,x≠.tmp t)->e x=e' x):pv P ops σ e o=pv P ops σ' e' o:=by
 have dE:kX P σ e o.op=kX P σ' e' o.op:=by
  rw[hσ];unfold kX;rw[WQ fun x hx=>?_];by_cases aW:∃t,x=.tmp t
  ·obtain⟨t,rfl⟩:=aW;exact ht t (List.mem_append_left _ (List.mem_filterMap.2 ⟨.tmp t,by simpa using hx,rfl⟩))
  exact hn x fun t e=>aW ⟨t,e⟩
 unfold pv;split
 ·exact dE
 rename_i j want hg;cases hs:nr ops j with
 | none=>rfl
 | some t=>
  have:e (.tmp t)=e' (.tmp t):=ht t (by
   have ua:(ops[j]?).bind (·.dst)=some t:=by
    unfold nr at hs;split at hs
    ·rename_i hx;rw[hx];exact hs
    cases hs
   simp[Oper.looksAt,hg,ua])
  simp only[this,dE]
end
section
open Go Go.RowKit
set_option linter.unusedVariables false
inductive DT where
 | nil
 | pu (i:Nat) (t:DT)
 | ef (i:Nat) (rc:List Nat) (t:DT)
 | or (a b:DT)
def cL:DT->List Nat
 | .nil=>[]
 | .pu i t=>i::cL t
 | .ef i _ t=>i::cL t
 | .or a _=>cL a
def kB:DT->List (Nat × Option (List Nat))
 | .nil=>[]
 | .pu i t=>(i,none)::kB t
 | .ef i rc t=>(i,some rc)::kB t
 | .or a b=>kB a++kB b
def lj:DT->List Nat
 | .nil=>[]
 | .pu i _=>[i]
 | .ef i _ _=>[i]
 | .or a b=>lj a++lj b
def aic (P:Program) (ops:Array Oper) (rc:List Nat) (s:St) (σ':ak):Prop:=∀k∈rc,∀x,ops[k]?=some x->pv P ops σ' (ev s) x=pv P ops s.σ (ev s) x
def ie (P:Program) (ops:Array Oper):DT->St->(St->Prop)->Prop
 | .nil,s,K=>K s
 | .pu i t,s,K=>match ops[i]? with
  | none=>False
  | some o=>iO o.op=true/\yT P ops o s fun s'=>ie P ops t s' K
 | .ef i rc t,s,K=>match ops[i]? with
  | none=>False
  | some o=>kT P ops o s fun s'=>aic P ops rc s s'.σ/\ie P ops t s' K
 | .or a b,s,K=>ie P ops a s K/\ie P ops b s K
section
variable {P:Program}{ops:Array Oper}
theorem tI:∀{t:DT}{s:St}{K1 K2:St->Prop},(∀s,K1 s->K2 s)->ie P ops t s K1->ie P ops t s K2
 | .nil,s,K1,K2,hk,h=>hk _ h
 | .pu i t,s,K1,K2,hk,h=>by
  unfold ie at h ⊢;split at h
  ·cases h
  exact⟨h.1,Oo (fun s' hs=>tI hk hs) h.2⟩
 | .ef i rc t,s,K1,K2,hk,h=>by
  unfold ie at h ⊢;split at h
  ·cases h
  exact yS (fun s' hs=>⟨hs.1,tI hk hs.2⟩) h
 | .or a b,s,K1,K2,hk,h=>⟨tI hk h.1,tI hk h.2⟩
theorem XN {o:Oper}{s s':St}{K:St->Prop}(h:lZ s s') (hk:yT P ops o s K):yT P ops o s' (upto K):=by
 obtain⟨v,h1,h2⟩:=gp hk;rw[h.ev,h.2.1]at h1;refine l7 h1 ?_;rw[<-h.2.1];exact Jo h h2
theorem A5:∀{t:DT}{s s':St}{K:St->Prop},lZ s s'->ie P ops t s K->ie P ops t s' (upto K)
 | .nil,s,s',K,e,h=>⟨s,e,h⟩
 | .pu i t,s,s',K,e,h=>by
  unfold ie at h ⊢;split at h
  ·cases h
  refine⟨h.1,Oo (fun s2 hs=>?_) (XN e h.2)⟩;obtain⟨u,e2,hu⟩:=hs;exact A5 e2 hu
 | .ef i rc t,s,s',K,e,h=>by
  unfold ie at h ⊢;split at h
  ·cases h
  refine yS (fun s2 hs=>?_) (XL e h);obtain⟨u,e2,h1,hu⟩:=hs;refine⟨fun k hk x hx=>?_,A5 e2 hu⟩;have:=h1 k hk x hx
  rwa[e.ev,e.2.1,e2.2.1]at this
 | .or a b,s,s',K,e,h=>⟨A5 e h.1,A5 e h.2⟩
def W8 (n d:Nat) (v:AV) (tm:List (Nat × AV)) (K:St->Prop) (s2:St):Prop:=∃cy σ' G',s2=⟨n,cy++tm,σ',G'⟩/\K ⟨n,cy++(d,v)::tm,σ',G'⟩
theorem L0 {n d G:Nat}{v:AV}{tm:List (Nat × AV)}{σ:ak}{x:Operand}(hx:x≠.tmp d):ev ⟨n,(d,v)::tm,σ,G⟩ x=ev ⟨n,tm,σ,G⟩ x:=by
 cases x with
 | tmp t=>
  simp only[ev,gR];rw[if_neg (fun e=>hx (by rw[e]))]
 | _=>rfl
theorem Qc {n d G:Nat}{v u:AV}{tm:List (Nat × AV)}{σ0 σ:ak}{dst:Option Nat}{b:Bool}{K:St->Prop}(h:put ⟨n,(d,v)::tm,σ0,G⟩ dst u σ b K):put ⟨n,tm,σ0,G⟩ dst u σ b (W8 n d v tm K):=by
 unfold put at h ⊢;cases dst with
 | none=>exact⟨[],σ,_,rfl,h⟩
 | some t=>
  simp only at h ⊢;split at h
  ·exact⟨[(t,u)],σ,_,rfl,h⟩
  cases h
theorem XK {y:Oper}{n d G:Nat}{v:AV}{tm:List (Nat × AV)}{σ:ak}{K:St->Prop}(hd:d ∉ y.looksAt ops) (h:kT P ops y ⟨n,(d,v)::tm,σ,G⟩ K):kT P ops y ⟨n,tm,σ,G⟩ (W8 n d v tm K):=by
 have hy:∀x∈y.op.operands,x≠.tmp d:=by
  rintro x hx rfl;exact hd (List.mem_append_left _ (List.mem_filterMap.2 ⟨.tmp d,by simpa using hx,rfl⟩))
 refine EF (fun j w t hg ht=>?_) (fun hv=>?_) Qc h
 ·have bJ:d≠t:=by
   rintro rfl;have ua:(ops[j]?).bind (·.dst)=some d:=by
    unfold nr at ht;split at ht
    ·rename_i hx;rw[hx];exact ht
    cases ht
   exact hd (by simp[Oper.looksAt,hg,ua])
  simp only[gR,if_neg bJ]
 obtain⟨u,σ',b,h1,h2⟩:=hv;exact⟨u,σ',b,ait (fun x hx=>L0 (hy x hx)) h1,Qc h2⟩
inductive Fr (ops:Array Oper) (j:Nat) (o:Oper):Option (List Nat)->List Nat->DT->DT->Prop
 | pu {t}:Fr ops j o none [] (.pu j t) t
 | ef {rc t}:Fr ops j o (some rc) [] (.ef j rc t) t
 | Fs {i x k D t t'} (hi:ops[i]?=some x) (gv:x.apart ops o=true) (Cl:∀d,x.dst=some d->d ∉ x.looksAt ops) (hD:∀d∈D,d ∉ x.looksAt ops)
   (SP:Db x.op=true\/k=none\/∃rc,k=some rc/\i∈rc) (h:Fr ops j o k D t t'):Fr ops j o k (x.dst.toList++D) (.pu i t) (.pu i t')
 | left {k D a b t'} (h:Fr ops j o k D a t'):Fr ops j o k D (.or a b) t'
 | right {k D a b t'} (h:Fr ops j o k D b t'):Fr ops j o k D (.or a b) t'
def Ag (P:Program) (ops:Array Oper) (k:Option (List Nat)) (D:List Nat) (s:St) (σ':ak):Prop:=match k with
 | none=>σ'=s.σ
 | some rc=>∀i∈rc,∀x,ops[i]?=some x->(∀d∈D,d ∉ x.looksAt ops)->∀e:Operand->AV,(∀t∈x.looksAt ops,e (.tmp t)=ev s (.tmp t))->(∀y,(∀t,y≠.tmp t)->e y=ev s y)->pv P ops σ' e x=pv P ops s.σ e x
theorem aai {s:St}{d:Option Nat}{v:AV}{K:St->Prop}(h:put s d v s.σ false K):put s d v s.σ false fun s'=>s'.σ=s.σ/\K s':=by
 unfold put at h ⊢;cases d with
 | none=>exact⟨rfl,h⟩
 | some d=>
  simp only at h ⊢;split at h
  ·exact⟨trivial,h⟩
  cases h
theorem ad6 {j:Nat}{o:Oper}(ho:ops[j]?=some o) {k:Option (List Nat)}{D:List Nat}{t t':DT}(hf:Fr ops j o k D t t'):∀{s:St}{K:St->Prop},ie P ops t s K->kT P ops o s fun s'=>Ag P ops k D s s'.σ/\ie P ops t' s' (upto K):=by
 have up:∀{t:DT} {s:St} {K:St->Prop},ie P ops t s K->ie P ops t s (upto K):=fun h=>tI (fun s hk=>⟨s,.refl s,hk⟩) h
 induction hf with
 | pu=>
  intro s K h;unfold ie at h;rw[ho]at h;refine XM h.1 ?_;obtain⟨v,h1,h2⟩:=gp h.2;exact l7 h1 (ke (fun s' hs=>⟨hs.1,up hs.2⟩) (aai h2))
 | ef=>
  intro s K h;unfold ie at h;rw[ho]at h;refine yS (fun s' hs=>⟨fun i hi x hx hD e he hn=>?_,up hs.2⟩) h;have h1:=hs.1 i hi x hx;rw[EN (e:=e) (e':=ev s) rfl he hn,EN (e:=e) (e':=ev s) rfl he hn];exact h1
 | @Fs i x k D t t' hi gv Cl hD SP hf ih=>
  intro s K h;unfold ie at h;rw[hi]at h;obtain⟨hp,h⟩:=h;obtain⟨a1,a2,a3⟩:=Oper.apart_spec gv;obtain⟨v,hv,h1⟩:=gp h;obtain⟨n,tm,σ,G⟩:=s;have OM:∀{s1:St} {σ':ak} {e:Operand->AV},s1.σ=σ->(∀t∈x.looksAt ops,ev s1 (.tmp t)=ev ⟨n,tm,σ,G⟩ (.tmp t))->Ag P ops k D s1 σ'->(∀t∈x.looksAt ops,e (.tmp t)=ev ⟨n,tm,σ,G⟩ (.tmp t))->(∀y,(∀t,y≠.tmp t)->e y=ev ⟨n,tm,σ,G⟩ y)->pv P ops σ' e x=some v:=by
   intro s1 σ' e hσ pG mz he hn;have h2:pv P ops σ e x=some v:=by rw[<-hv];exact EN rfl he hn
   rcases SP with dA|rfl|⟨rc,rfl,xP⟩
   ·rw[<-h2];refine EN (aap dA) (fun _ _=>rfl) (fun _ _=>rfl)
   ·simp only[Ag]at mz;rw[mz,hσ];exact h2
   have:=mz i xP x hi hD e (fun t ht=>by rw[he t ht,pG t ht]) (fun y hy=>by
    rw[hn y hy];cases y with
    | tmp t=>exact absurd rfl (hy t)
    | _=>rfl)
   rw[this,hσ];exact h2
  unfold put at h1;cases ya:x.dst with
  | none=>
   rw[ya]at h1;have h1:ie P ops t ⟨n,tm,σ,G⟩ K:=h1;refine yS ?_ (On (ih h1));rintro s2 ⟨⟨mz,hk⟩,cy,σ',G',rfl,GL⟩;refine⟨by simpa using mz,?_⟩;unfold ie;rw[hi];refine⟨hp,l7 (OM (s1:=⟨n,tm,σ,G⟩) rfl (fun _ _=>rfl) mz (fun t ht=>?_) (fun y hy=>?_)) ?_⟩
   ·rcases GL with ⟨rfl,_⟩|⟨t',u,hy,rfl⟩
    ·rfl
    simp only[ev,List.cons_append,List.nil_append,gR];rw[if_neg];rintro rfl;exact a3 _ hy ht
   ·cases y with
    | tmp t=>exact absurd rfl (hy t)
    | _=>rfl
   unfold put;rw[ya];exact hk
  | some d=>
   rw[ya]at h1;simp only at h1;split at h1
   ·rename_i hb;have h1:ie P ops t ⟨n,(d,v)::tm,σ,G⟩ K:=h1;have pG:∀t∈x.looksAt ops,ev ⟨n,(d,v)::tm,σ,G⟩ (.tmp t)=ev ⟨n,tm,σ,G⟩ (.tmp t):=fun t ht=>L0 (fun e=>by cases e;exact Cl d ya ht)
    refine yS ?_ (On (XK (a1 d ya) (ih h1)));rintro s2 ⟨⟨cy,σ',G',rfl,mz,hk⟩,hs⟩;obtain⟨cy2,σ2,G2,e,GL⟩:=hs;simp only[St.mk.injEq,true_and]at e;obtain⟨e1,rfl,rfl⟩:=e;have e1:=List.append_cancel_right e1;subst e1;refine⟨?_,?_⟩
    ·cases k with
     | none=>exact mz
     | some rc=>
      intro i' fS x' sN Tc e he hn;refine mz i' fS x' sN (fun d' qD=>Tc d' (by simp[qD])) e (fun t ht=>?_) (fun y hy=>?_)
      ·rw[he t ht];exact(L0 (fun e=>by cases e;exact Tc d (by simp) ht)).symm
      rw[hn y hy];cases y with
      | tmp t=>exact absurd rfl (hy t)
      | _=>rfl
    unfold ie;rw[hi];refine⟨hp,l7 (OM (s1:=⟨n,(d,v)::tm,σ,G⟩) rfl pG mz (fun t ht=>?_) (fun y hy=>?_)) ?_⟩
    ·rcases GL with ⟨rfl,_⟩|⟨t',u,hy,rfl⟩
     ·rfl
     simp only[ev,List.cons_append,List.nil_append,gR];rw[if_neg];rintro rfl;exact a3 _ hy ht
    ·cases y with
     | tmp t=>exact absurd rfl (hy t)
     | _=>rfl
    unfold put;rw[ya];simp only[hb];refine tI (fun _ h=>Oz h) (A5 (s:=⟨n,cy++(d,v)::tm,σ',G'⟩) ⟨rfl,rfl,rfl,fun t=>?_⟩ hk);rcases GL with ⟨rfl,_⟩|⟨t',u,hyd,rfl⟩
    ·rfl
    have bJ:t'≠d:=fun e=>a2 d ya (by rw[hyd,e])
    simp only[List.cons_append,List.nil_append,gR];by_cases h1:t'=t
    ·subst h1;have h2:¬d=t':=fun e=>bJ e.symm
     simp[h2]
    simp[h1]
   cases h1
 | left hf ih=>intro s K h;exact ih h.1
 | right hf ih=>intro s K h;exact ih h.2
def wM (o:Oper):List Nat:=(o.after.toList.filter fun e=>Region.binds .any e).map (·.on)
def waits (o:Oper) (k:Nat):Prop:=∃e∈o.after,Region.binds .any e=true/\e.on=k
theorem Og {o:Oper}{k:Nat}:k∈wM o<->waits o k:=by
 unfold wM waits;simp only[List.mem_map,List.mem_filter,Array.mem_toList_iff];constructor
 ·rintro⟨e,⟨h1,h2⟩,h3⟩;exact⟨e,h1,h2,h3⟩
 rintro⟨e,h1,h2,h3⟩;exact⟨e,⟨h1,h2⟩,h3⟩
structure Static (ops:Array Oper) (A:Nat->List Nat):Prop where
 less:∀i o k,ops[i]?=some o->waits o k->k<i
 dS:∀i k,k∈A i->∃o j,ops[i]?=some o/\waits o j/\(j=k\/k∈A j)
def Xa (ops:Array Oper) (L:Array Bool):Prop:=∀j o k,L.getD j false=true->ops[j]?=some o->waits o k->L.getD k false=true
theorem ahX {A:Nat->List Nat}(hs:Static ops A) {L:Array Bool}(hc:Xa ops L):∀(i:Nat),(∀o k,ops[i]?=some o->waits o k->L.getD k false=true)->∀k∈A i,L.getD k false=true:=by
 intro i;induction i using Nat.strongRecOn with
 | _ i ih=>
  intro hp k hk;obtain⟨o,j,ho,hw,hj⟩:=hs.dS i k hk;have hL:=hp o j ho hw;rcases hj with rfl|hj
  ·exact hL
  exact ih j (hs.less i o j ho hw) (fun o' k' mT zJ=>hc j o' k' hL mT zJ) k hj
theorem Jg {L:Array Bool}{i:Nat}:i∈Region.ready .any ops L<->L.getD i true=false/\∃o,ops[i]?=some o/\∀k,waits o k->L.getD k false=true:=by
 rw[mem_ready];constructor
 ·rintro⟨h1,o,ho,h⟩;refine⟨h1,o,ho,?_⟩;rintro k ⟨e,he,hb,rfl⟩;exact h e he hb
 rintro⟨h1,o,ho,h⟩;exact⟨h1,o,ho,fun e he hb=>h e.on ⟨e,he,hb,rfl⟩⟩
theorem lZ.rel {s s':St}(e:lZ s s') {rd:kQ}{O:Nat->Prop}{w0:World}{a:Act}{w:World}(h:iz rd O w0 s a w):iz rd O w0 s' a w:=by
 obtain⟨rd',φ,hx,h1,h2,h3,h4,h5⟩:=h;exact⟨rd',φ,hx,e.2.1▸h1,fun t v hl=>h2 t v ((e.2.2.2 t).trans hl),by rw[h3,e.1],h4,fun r g p hp=>e.2.2.1▸h5 r g p hp⟩
theorem adP {L:Array Bool}{k:Nat}(hk:k<L.size) (h:L.getD k false≠true):L.getD k true=false:=by
 simp only[Array.getD_eq_getD_getElem?,Array.getElem?_eq_getElem hk,Option.getD_some]at h ⊢
 simpa using h
structure WX (ops:Array Oper) (A:Nat->List Nat) (i:Nat) (t:DT):Prop where
 ex:∃x,ops[i]?=some x
 self:∀x,ops[i]?=some x->∀d,x.dst=some d->d ∉ x.looksAt ops
 look:∀x,ops[i]?=some x->∀j∈cL t,∀o,ops[j]?=some o->∀d,o.dst=some d->d ∉ x.looksAt ops\/∀m∈cL t,m=j\/m∈A j
 OF:∀m∈cL t,m ∉ A i
 nodes:∀x,ops[i]?=some x->∀n∈kB t,∀o,ops[n.1]?=some o->i∈A n.1\/(x.apart ops o=true/\(Db x.op=true\/n.2=none\/∃rc,n.2=some rc/\i∈rc))
def mL (ops:Array Oper) (A:Nat->List Nat):Bool->DT->Prop
 | _,.nil=>True
 | false,.pu i t=>i ∉ cL t/\WX ops A i t/\mL ops A false t
 | true,.pu _ _=>False
 | false,.ef i rc t=>i ∉ cL t/\(∀j∈cL t,i∈A j)/\mL ops A false t
 | true,.ef i rc t=>i ∉ cL t/\mL ops A false t
 | f,.or a b=>mL ops A true a/\mL ops A true b/\((∀i,i∈cL a<->i∈cL b)/\(cL a).length=(cL b).length)/\(f=false->∀j∈cL a,∃h,(h∈lj a\/h∈lj b)/\(h=j\/h∈A j))
theorem GH {A:Nat->List Nat}:∀{t:DT}{f:Bool},mL ops A f t->∀h∈lj t,h∈cL t
 | .nil,_,_,h,hh=>by simp[lj]at hh
 | .pu i t,_,_,h,hh=>by simp[lj]at hh;simp[cL,hh]
 | .ef i rc t,_,_,h,hh=>by simp[lj]at hh;simp[cL,hh]
 | .or a b,f,ok,h,hh=>by
  have JF:mL ops A true a/\mL ops A true b/\(∀i,i∈cL a<->i∈cL b):=by cases f<;>exact⟨ok.1,ok.2.1,ok.2.2.1.1⟩
  simp only[lj,List.mem_append]at hh;simp only[cL];rcases hh with hh|hh
  ·exact GH JF.1 h hh
  exact(JF.2.2 h).2 (GH JF.2.1 h hh)
structure WS (ops:Array Oper) (A:Nat->List Nat) (j:Nat) (o:Oper) (t:DT) (k:Option (List Nat)) (D:List Nat) (t':DT):Prop where
 fr:Fr ops j o k D t t'
 ok:mL ops A false t'
 set:∀i,i∈cL t'<->i∈cL t/\i≠j
 node:(j,k)∈kB t
 nodes:∀n∈kB t',n∈kB t
 len:(cL t').length<(cL t).length
 EP:∀d∈D,∃i∈cL t,(i≠j/\j ∉ A i)/\∃x,ops[i]?=some x/\x.dst=some d
theorem IM {A:Nat->List Nat}{j:Nat}{o:Oper}(ho:ops[j]?=some o):∀{t:DT},mL ops A true t->j∈lj t->∃k D t',WS ops A j o t k D t'
 | .nil,_,h=>by simp[lj]at h
 | .pu i t,ok,_=>ok.elim
 | .ef i rc t,ok,h=>by
  simp only[lj,List.mem_singleton]at h;subst h;exact⟨some rc,[],t,.ef,ok.2,fun i=>by simp only[cL,List.mem_cons];exact⟨fun h=>⟨.inr h,fun e=>ok.1 (e▸h)⟩,fun h=>h.1.resolve_left h.2⟩,by simp[kB],fun n hn=>by simp[kB,hn],by simp[cL],by simp⟩
 | .or a b,ok,h=>by
  simp only[lj,List.mem_append]at h;rcases h with h|h
  ·obtain⟨k,D,t',h1⟩:=IM ho ok.1 h;exact⟨k,D,t',.left h1.fr,h1.ok,h1.set,by simp[kB,h1.node],fun n hn=>by simp[kB,h1.nodes n hn],h1.len,h1.EP⟩
  obtain⟨k,D,t',h1⟩:=IM ho ok.2.1 h;refine⟨k,D,t',.right h1.fr,h1.ok,fun i=>?_,by simp[kB,h1.node],fun n hn=>by simp[kB,h1.nodes n hn],by rw[show cL (.or a b)=cL a from rfl,ok.2.2.1.2];exact h1.len,fun d hd=>?_⟩
  ·rw[h1.set,show cL (.or a b)=cL a from rfl,ok.2.2.1.1]
  obtain⟨i,hi,x⟩:=h1.EP d hd;exact⟨i,(ok.2.2.1.1 i).2 hi,x⟩
theorem OG {A:Nat->List Nat}{j:Nat}{o:Oper}(ho:ops[j]?=some o):∀{t:DT},mL ops A false t->j∈cL t->(∀k∈A j,k ∉ cL t)->∃k D t',WS ops A j o t k D t'
 | .nil,_,h,_=>by simp[cL]at h
 | .pu i t,ok,h,hA=>by
  obtain⟨xm,oL,xl⟩:=ok;by_cases oZ:i=j
  ·subst oZ;exact⟨none,[],t,.pu,xl,fun i'=>by simp only[cL,List.mem_cons];exact⟨fun h=>⟨.inr h,fun e=>xm (e▸h)⟩,fun h=>h.1.resolve_left h.2⟩,by simp[kB],fun n hn=>by simp[kB,hn],by simp[cL],by simp⟩
  have hj:j∈cL t:=by
   simp only[cL,List.mem_cons]at h;exact h.resolve_left fun e=>oZ e.symm
  obtain⟨k,D,t',h1⟩:=OG ho xl hj (fun k hk cq=>hA k hk (by simp[cL,cq]));obtain⟨x,hx⟩:=oL.ex;have hn:=(oL.nodes x hx (j,k) h1.node o ho).resolve_left fun cq=>hA i cq (by simp[cL])
  refine⟨k,x.dst.toList++D,.pu i t',.Fs hx hn.1 (oL.self x hx) (fun d hd=>?_) hn.2 h1.fr,⟨fun cq=>xm ((h1.set i).1 cq).1,⟨⟨x,hx⟩,oL.self,fun y hy j' iV o' mT d hd=>(oL.look y hy j' ((h1.set j').1 iV).1 o' mT d hd).imp id fun gE m hm=>gE m ((h1.set m).1 hm).1,fun m hm=>oL.OF m ((h1.set m).1 hm).1,fun y hy n hn=>oL.nodes y hy n (h1.nodes n hn)⟩,h1.ok⟩,fun i'=>?_,by simp[kB,h1.node],fun n hn=>?_,by simpa[cL]using h1.len,fun d hd=>?_⟩
  ·obtain⟨i',fS,⟨bJ,hnA⟩,y,hy,qD⟩:=h1.EP d hd;rcases oL.look x hx i' fS y hy d qD with KY|gE
   ·exact KY
   rcases gE j hj with rfl|cq
   ·exact absurd rfl bJ
   exact absurd cq hnA
  ·simp only[cL,List.mem_cons,h1.set];constructor
   ·rintro(rfl|h)
    ·exact⟨.inl rfl,oZ⟩
    exact⟨.inr h.1,h.2⟩
   rintro⟨rfl|h,h2⟩
   ·exact .inl rfl
   exact .inr ⟨h,h2⟩
  ·simp only[kB,List.mem_cons]at hn ⊢;exact hn.imp id (h1.nodes n)
  rcases List.mem_append.1 hd with hd|hd
  ·exact⟨i,by simp[cL],⟨oZ,oL.OF j hj⟩,x,hx,by simpa using hd⟩
  obtain⟨i',fS,y⟩:=h1.EP d hd;exact⟨i',by simp[cL,fS],y⟩
 | .ef i rc t,ok,h,hA=>by
  obtain⟨xm,oL,xl⟩:=ok;by_cases oZ:i=j
  ·subst oZ;exact⟨some rc,[],t,.ef,xl,fun i'=>by simp only[cL,List.mem_cons];exact⟨fun h=>⟨.inr h,fun e=>xm (e▸h)⟩,fun h=>h.1.resolve_left h.2⟩,by simp[kB],fun n hn=>by simp[kB,hn],by simp[cL],by simp⟩
  have hj:j∈cL t:=by
   simp only[cL,List.mem_cons]at h;exact h.resolve_left fun e=>oZ e.symm
  exact absurd (by simp[cL]) (hA i (oL j hj))
 | .or a b,ok,h,hA=>by
  obtain⟨xm,oL,xl,ok4⟩:=ok;obtain⟨h0,hh,hj⟩:=ok4 rfl j h;have cq:h0∈cL (.or a b):=hh.elim (fun h=>GH xm h0 h) (fun h=>(xl.1 h0).2 (GH oL h0 h));rcases hj with rfl|hj
  ·exact IM (t:=.or a b) ho ⟨xm,oL,xl,fun h=>by cases h⟩ (by simpa[lj]using hh)
  exact absurd cq (hA h0 hj)
theorem XJ {rd:kQ}{O:Nat->Prop}{w0:World}{K:St->Prop}{Q:Exit->Act->World->Prop}{A:Nat->List Nat}(hs:Static ops A) (hn:∀s a w,K s->iz rd O w0 s a w->Q .normal a w):
  ∀(fuel:Nat) (L:Array Bool) (t:DT) (s:St) (a:Act) (w:World),mL ops A false t->(∀i,i∈cL t<->i<ops.size/\L.getD i true=false)->(cL t).length<=fuel->Xa ops L->
   iz rd O w0 s a w->ie P ops t s (upto K)->wpAny P .any ops Q fuel L a w:=by
 intro fuel;have fin:∀{t:DT} {s:St} {a:Act} {w:World},cL t=[]->iz rd O w0 s a w->ie P ops t s (upto K)->Q .normal a w:=by
  intro t;induction t with
  | nil=>
   intro s a w _ hr hv;obtain⟨t,e,hk⟩:=hv;exact hn t a w hk (e.symm.rel hr)
  | pu i t=>intro s a w h;cases h
  | ef i rc t=>intro s a w h;cases h
  | or a b iha=>intro s a w h hr hv;exact iha h hr hv.1
 induction fuel with
 | zero=>
  intro L t s a w aI hR hl hc hr hv;have h0:cL t=[]:=List.eq_nil_of_length_eq_zero (by omega);refine⟨?_,fin h0 hr hv⟩;apply List.eq_nil_iff_forall_not_mem.2;intro i hi;obtain⟨h1,o,ho,_⟩:=Jg.1 hi;have ab:i<ops.size:=(Array.getElem?_eq_some_iff.1 ho).1;have:=(hR i).2 ⟨ab,h1⟩;rw[h0]at this;simp at this
 | succ fuel ih=>
  intro L t s a w aI hR hl hc hr hv;refine⟨fun h0=>?_,fun i hi=>?_⟩
  ·cases s8:cL t with
   | nil=>exact fin s8 hr hv
   | cons r R=>
    exfalso;have aaZ:∀n,n ∉ cL t:=by
     intro n;induction n using Nat.strongRecOn with
     | _ n ihn=>
      intro cq;obtain⟨jJ,nF⟩:=(hR n).1 cq;have dv:n<L.size:=by
       rcases bp n L.size with hx|hx
       ·exact hx
       simp[Array.getElem?_eq_none hx]at nF
      have:n∈Region.ready .any ops L:=by
       refine Jg.2 ⟨nF,ops[n],by simp[jJ],fun k hk=>?_⟩;have hkr:=hs.less n ops[n] k (by simp[jJ]) hk;rcases Classical.em (L.getD k false=true) with hx|hx
       ·exact hx
       exact absurd ((hR k).2 ⟨by omega,adP (by omega) hx⟩) (ihn k hkr)
      rw[h0]at this;simp at this
    exact aaZ r (by rw[s8];simp)
  obtain⟨h1,o,ho,hw⟩:=Jg.1 hi;have ab:i<ops.size:=(Array.getElem?_eq_some_iff.1 ho).1;have hiR:=(hR i).2 ⟨ab,h1⟩;have adm:i<L.size:=by
   rcases bp i L.size with hx|hx
   ·exact hx
   simp[Array.getElem?_eq_none hx]at h1
  obtain⟨k,D,t',iu⟩:=OG (A:=A) ho aI hiR (fun k hk cq=>by
   have h3:=ahX hs hc i (fun o' k' mT zJ=>by rw[ho]at mT;cases mT;exact hw k' zJ) k hk;have h4:=((hR k).1 cq).2;have adi:k<L.size:=by
    rcases bp k L.size with hx|hx
    ·exact hx
    simp[Array.getElem?_eq_none hx]at h4
   simp only[Array.getD_eq_getD_getElem?,Array.getElem?_eq_getElem adi,Option.getD_some]at h3 h4;rw[h3]at h4;cases h4)
  have xL:=ad6 ho iu.fr hv;obtain⟨rd',φ,hx,fj⟩:=hr;unfold wpOp;simp only[ho];refine IC hx ho fj xL fun s' a' w' hk fZ=>?_
  refine ih (L.setIfInBounds i true) t' s' a' w' iu.ok ?_ ?_ ?_ fZ (tI (fun _ h=>Oz h) hk.2)
  ·intro j;rw[iu.set];constructor
   ·rintro⟨hj,bJ⟩;have h2:=(hR j).1 hj;exact⟨h2.1,by rw[getD_set_ne true (fun e=>bJ e.symm)];exact h2.2⟩
   rintro⟨h2,h3⟩;have CA:j≠i:=by
    rintro rfl;simp[adm]at h3
   rw[getD_set_ne true (fun e=>CA e.symm)]at h3;exact⟨(hR j).2 ⟨h2,h3⟩,CA⟩
  ·have:=iu.len;omega
  intro j o' k hj mT zJ;by_cases CA:i=j
  ·subst CA;rw[ho]at mT;cases mT;exact getD_set_true (hw k zJ)
  rw[getD_set_ne false CA]at hj;exact getD_set_true (hc j o' k hj mT zJ)
end
end
section
open Go Go.RowKit
set_option linter.unusedVariables false
def aB (s s':St):Prop:=∀(rd:kQ) (O:Nat->Prop) (w0:World) (a:Act) (w:World),iz rd O w0 s a w->iz rd O w0 s' a w
theorem aB.rel {s s':St}(hw:aB s s') {rd:kQ}{O:Nat->Prop}{w0 w:World}{a:Act}(h:iz rd O w0 s a w):iz rd O w0 s' a w:=hw _ _ _ _ _ h
theorem aB.refl (s:St):aB s s:=fun _ _ _ _ _ h=>h
theorem aB.trans {s s' eO:St}(h:aB s s') (k:aB s' eO):aB s eO:=fun _ _ _ _ _ x=>k _ _ _ _ _ (h _ _ _ _ _ x)
def gl (Q:Exit->St->Prop) (K:St->Prop):Exit->St->Prop
 | .normal,s=>K s
 | .exit id,s=>Q (.exit id) s
 | .goto l,s=>Q (.goto l) s
 | .ret,s=>Q .ret s
 | .panic c,s=>Q (.panic c) s
 | .outgrown,s=>Q .outgrown s
def jK (id:Nat) (Q:Exit->St->Prop):Exit->St->Prop
 | .normal,s=>Q .normal s
 | .exit kq,s=>match kq==id with
  | true=>Q .normal s
  | false=>Q (.exit kq) s
 | .goto l,s=>Q (.goto l) s
 | .ret,s=>Q .ret s
 | .panic c,s=>Q (.panic c) s
 | .outgrown,s=>Q .outgrown s
def AM (P:Program) (c:Code) (s:St) (Q:Exit->St->Prop):Prop:=∀(rd:kQ) (O:Nat->Prop) (w0:World) (a:Act) (w:World),iz rd O w0 s a w->c.wp P (j6 rd O w0 Q) a w
def vc (P:Program):Code->St->(Exit->St->Prop)->Prop
 | .skip,s,Q=>Q .normal s
 | .ret,s,Q=>Q .ret s
 | .exit id,s,Q=>Q (.exit id) s
 | .seq a b,s,Q=>vc P a s (gl Q fun s'=>∃eO,aB s' eO/\vc P b eO Q)\/AM P (.seq a b) s Q
 | .cond c x y,s,Q=>match ev s c with
  | .sc (.bool b)=>Br b (vc P x s Q) (vc P y s Q)
  | _=>False
 | .block id c,s,Q=>vc P c s (jK id Q)
 | .loop c,s,Q=>∃(I:Nat->St->Prop) (n:Nat) (s1:St),aB s s1/\I n s1/\∀m s2,I m s2->vc P c s2 (gl Q fun s3=>∃m' s4,m'<m/\aB s3 s4/\I m' s4)
 | .region _ ops draw,s,Q=>match draw with
  | false=>yU P ops ops.toList s (Q .normal)
  | true=>P.follows .mixedOrders=true/\∃(t:DT) (A:Nat->List Nat),Static ops A/\mL ops A false t/\(∀i,i∈cL t<->i<ops.size)/\(cL t).length<=ops.size/\ie P ops t s (Q .normal)
 | _,_,_=>False
theorem N2 {P:Program}{Q:Exit->Act->World->Prop}{c:Code}(I:Nat->Act->World->Prop)
  (round:∀n a w,I n a w->c.wp P (Exit.then (fun a' w'=>∃m,m<n/\I m a' w') Q) a w) (n:Nat) (a:Act) (w:World) (h:I n a w):(Code.loop c).wp P Q a w:=by
 intro b k cs;have key:∀n a w,I n a w->∃e a' w',Q e a' w'/\Arrives P (lone (b.at a (.code c::.inLoop c::k)) cs w) b k cs e a' w':=by
  intro n;induction n using Nat.strongRecOn with
  | _ n ih=>
   intro a w hI;obtain⟨e,a1,w1,hq,GR⟩:=round n a w hI b (.inLoop c::k) cs;cases e with
   | normal=>
    obtain⟨m,hm,hI1⟩:=hq;obtain⟨e2,a2,w2,KK,adI⟩:=ih m hm a1 w1 hI1;exact⟨e2,a2,w2,KK,.of_steps (Steps.trans GR (.one step_inLoop)) adI⟩
   | _=>exact⟨_,a1,w1,hq,.pass (x:=.inLoop c) rfl (fun _ _=>.inl (by simp)) GR⟩
 obtain⟨e,a',w',hq,GR⟩:=key n a w h;exact⟨e,a',w',hq,.of_steps (.one step_loop) GR⟩
theorem P9 (ops:Array Oper):(List.range ops.size).map (ops[·]?)=ops.toList.map some:=by
 apply List.ext_getElem?;intro i;rw[List.getElem?_map,List.getElem?_map];rcases bp i ops.size with h|h
 ·rw[List.getElem?_range h];simp[h]
 rw[List.getElem?_eq_none (by simpa using h),List.getElem?_eq_none (by simpa using h)];rfl
theorem sk {P:Program}{rd:kQ}{O:Nat->Prop}{w0:World}:∀(c:Code) (s:St) (Q:Exit->St->Prop),vc P c s Q->∀a w,iz rd O w0 s a w->c.wp P (j6 rd O w0 Q) a w
 | .skip,s,Q,hv,a,w,h=>wp_skip ⟨s,hv,h⟩
 | .ret,s,Q,hv,a,w,h=>wp_ret ⟨s,hv,h⟩
 | .exit id,s,Q,hv,a,w,h=>wp_exit ⟨s,hv,h⟩
 | .seq x y,s,Q,hv,a,w,h=>by
  rcases hv with hv|hv
  case inr=>exact hv _ _ _ _ _ h
  refine wp_seq (wp_mono (sk x s _ hv a w h) ?_);rintro e a' w' ⟨s',hk,hr⟩;cases e with
  | normal=>
   obtain⟨eO,hw,hk⟩:=hk;exact sk y eO Q hk a' w' (hw.rel hr)
  | _=>exact⟨s',hk,hr⟩
 | .cond c x y,s,Q,hv,a,w,h=>by
  simp only[vc]at hv;split at hv
  ·rename_i b hb;obtain⟨rd',φ,hx,fj⟩:=h;have cY:=fj.ev c;rw[hb]at cY;have cY:=fH cY;cases b with
   | true=>exact wp_cond_true cY (sk x s Q hv a w ⟨rd',φ,hx,fj⟩)
   | false=>exact wp_cond_false cY (sk y s Q hv a w ⟨rd',φ,hx,fj⟩)
  cases hv
 | .block id c,s,Q,hv,a,w,h=>by
  refine wp_block (wp_mono (sk c s _ hv a w h) ?_);rintro e a' w' ⟨s',hk,hr⟩;cases e with
  | exit kq=>
   simp only[jK]at hk;simp only[Exit.inBlock];by_cases pM:kq=id
   ·rw[if_pos pM];have:(kq==id)=true:=by simp[pM]
    rw[this]at hk;exact⟨s',hk,hr⟩
   rw[if_neg pM];have:(kq==id)=false:=by simp[pM]
   rw[this]at hk;exact⟨s',hk,hr⟩
  | _=>exact⟨s',hk,hr⟩
 | .loop c,s,Q,hv,a,w,h=>by
  obtain⟨I,n,s1,hw,hI,KH⟩:=hv;refine N2 (fun n a w=>∃s,I n s/\iz rd O w0 s a w) ?_ n a w ⟨s1,hI,hw.rel h⟩;rintro m a2 w2 ⟨s2,h2,nF⟩;refine wp_mono (sk c s2 _ (KH m s2 h2) a2 w2 nF) ?_;rintro e a' w' ⟨s3,hk,hr⟩;cases e with
  | normal=>
   obtain⟨m',s4,ab,KB,LC⟩:=hk;exact⟨m',ab,s4,LC,KB.rel hr⟩
  | _=>exact⟨s3,hk,hr⟩
 | .region id ops draw,s,Q,hv,a,w,h=>by
  simp only[vc]at hv;cases draw with
  | false=>exact wp_region (Ot (fun s' a' w' hk hr=>⟨s',hk,hr⟩) _ _ (P9 ops) s a w h hv)
  | true=>
   obtain⟨hm,t,A,h1,h2,h3,h4,h5⟩:=hv;refine wp_region_any hm (XJ h1 (fun s a w hk hr=>⟨s,hk,hr⟩) ops.size _ t s a _ h2 (fun i=>?_) h4 ?_ ?_ (tI (fun s hk=>⟨s,.refl s,hk⟩) h5))
   ·rw[h3];constructor
    ·intro hi;exact⟨hi,by simp[hi]⟩
    exact fun hi=>hi.1
   ·intro j o k hj;exfalso;simp only[Array.getD_eq_getD_getElem?,Array.getElem?_replicate]at hj;split at hj<;>simp at hj
   obtain⟨rd',φ,hx,hr⟩:=h;exact⟨rd',φ,hx,hr.heap.drew,hr.tm,hr.size,hr.defers,hr.gen⟩
 | .rangeFunc ..,s,Q,hv,a,w,h=>by cases hv
 | .scope _,s,Q,hv,a,w,h=>by cases hv
 | .label _,s,Q,hv,a,w,h=>by cases hv
 | .goto _,s,Q,hv,a,w,h=>by cases hv
 | .refuse _,s,Q,hv,a,w,h=>by cases hv
def Nw (σ:ak) (tm:List (Nat × AV)):List Nat->eg->eg
 | [],acc=>acc
 | t::ks,acc=>Nw σ tm ks (na true σ 10000 20 t acc (BL (match bE tm t with
  | some v=>v
  | none=>.dead)))
def xt (N:NF):List (Nat × AV)->List (Nat × AV)
 | []=>[]
 | (t,v)::l=>(t,mapA N v)::xt N l
def Du (s:St) (ks:List (Nat × AV)) (L:eg):Bool->Option ak->St
 | true,some σ'=>⟨s.n,xt (iF L) ks,σ',1⟩
 | _,_=>⟨s.n,[],[],s.G⟩
def Ii (L:eg):Bool:=L.all fun x=>Nat.beq x.2.2 0
def Mr (s:St) (ks:List Nat):eg:=Nw s.σ s.tm ks (na true s.σ 1 20 900000 (wQ s.σ) (Bl s.σ (wQ s.σ)))
def tl (s:St) (ks:List (Nat × AV)) (L:eg):St:=Du s ks L (mC L&&(Ii L&&Bd L)) (mI s.σ (iF L) L)
def xh (φ:cj) (L:eg):cj:=fun r g p=>match sI L r g with
 | some x=>φ x.1 x.2 p
 | none=>match Nat.beq g 0&&Nat.ble 1000000 r with
  | true=>φ r g p
  | false=>none
theorem Fp {φ:cj}{L:eg}:∀r g p pl,kY φ L r g p=some pl->xh φ L r g p=some pl:=by
 intro r g p pl h;unfold kY at h;unfold xh;split at h
 ·rename_i x hx
  first|exact h|(rw[hx];exact h)
 cases h
theorem Qs {φ:cj}{L:eg}(hs:Bd L=true):∀r p pl,φ r 0 p=some pl->1000000<=r->xh φ L r 0 p=some pl:=by
 intro r p pl h hr;unfold xh;split
 ·rename_i x hx;have h1:=List.all_eq_true.1 hs _ (B7 hx);simp only[Nat.ble_eq_true_of_le hr,Bool.and_eq_true]at h1;have e1:=Nat.eq_of_beq_eq_true h1.1;have e2:=Nat.eq_of_beq_eq_true h1.2;rw[e1,e2];exact h
 have:(Nat.beq 0 0&&Nat.ble 1000000 r)=true:=by rw[Nat.ble_eq_true_of_le hr];rfl
 rw[this];exact h
theorem bc.Qt {rd:RD}{φ φ':cj}{O:Nat->Prop}{w0 w:World}{σ:ak}(h:bc rd φ O w0 σ w) (hs:∀r g p pl,φ r g p=some pl->φ' r g p=some pl):bc rd φ' O w0 σ w:=by
 have same:∀{r g p row pl},rowAt σ r g p=some row->φ' r g p=some pl->φ r g p=some pl:=by
  intro r g p row pl hr hp;obtain⟨cZ,h1,_⟩:=h.rows _ _ _ _ hr;rw[hs _ _ _ _ h1]at hp;cases hp;exact h1
 exact⟨fun r g p row hr=>by obtain⟨pl,h1,h2⟩:=h.rows _ _ _ _ hr;exact⟨pl,hs _ _ _ _ h1,h2.mono (fun _ _ _ h=>h) hs⟩,
  fun r g p row r' g' p' cC pl cZ b q q' h1 h2 h3 h4=>h.sep _ _ _ _ _ _ _ _ _ _ _ _ _ h1 h2 (same h1 h3) (same h2 h4),h.eA,fun r g p row pl b q h1 h2=>h.eF _ _ _ _ _ _ _ h1 (same h1 h2),
  fun r g p row pl b q h1 h2=>h.own _ _ _ _ _ _ _ h1 (same h1 h2),h.frame,h.size,h.os,h.tape,h.output⟩
theorem Kh {N:NF}:∀{l:List (Nat × AV)}{t:Nat}{v:AV},bE (xt N l) t=some v->∃u,bE l t=some u/\v=mapA N u
 | [],_,_,h=>by cases h
 | (k,u)::l,t,v,h=>by
  simp only[xt,gR]at h ⊢;split at h
  ·rename_i hk;rw[if_pos hk];cases h;exact⟨u,rfl,rfl⟩
  rename_i hk;rw[if_neg hk];exact Kh h
theorem aB.tl {s:St}{ks:List (Nat × AV)}(Cz:∀t v,bE ks t=some v->∀(rd:RD) (φ:cj) (O:Nat->Prop) (w0:World) (a:Act) (w:World),Rel rd φ O w0 s a w->aL rd φ v (a.tmps.getD t undef)) (L:eg):aB s (E.tl s ks L):=by
 intro rd O w0 a w ⟨rd',φ,hx,h⟩;have QR:iz rd O w0 ⟨s.n,[],[],s.G⟩ a w:=by
  have eU:∀{r g p row},rowAt ([]:ak) r g p=some row->False:=by
   intro r g p row hr;simp[rowAt,bE]at hr
  exact⟨rd',φ,hx,⟨fun r g p row hr=>(eU hr).elim,fun r g p row r' g' p' cC pl cZ b q q' hr=>(eU hr).elim,h.heap.eA,fun r g p row pl b q hr=>(eU hr).elim,fun r g p row pl b q hr=>(eU hr).elim,h.heap.frame,h.heap.size,h.heap.os,h.heap.tape,h.heap.output⟩,
   fun t v hl=>by simp[bE]at hl,h.size,h.defers,h.gen⟩
 unfold E.tl;cases hd:mC L&&(Ii L&&Bd L) with
 | false=>
  unfold Du;exact QR
 | true=>
  cases hr:mI s.σ (iF L) L with
  | none=>
   unfold Du;exact QR
  | some σ'=>
   simp only[Bool.and_eq_true]at hd;unfold Du;refine⟨rd',xh φ L,⟨hx.1,fun r p pl e hr=>Qs hd.2.2 r p pl (hx.2 r p pl e hr) hr⟩,(h.heap.E1 hd.1 hr).Qt Fp,fun t v hl=>?_,h.size,h.defers,fun r g p hp=>?_⟩
   ·obtain⟨u,hu,rfl⟩:=Kh hl;exact(BV (zm hd.1) (Cz t u hu _ _ _ _ _ _ h)).mono (fun _ _ _ h=>h) Fp
   unfold xh at hp;split at hp
   ·rename_i x hx;have:=List.all_eq_true.1 hd.2.1 _ (B7 hx);have:=Nat.eq_of_beq_eq_true this;simp only at this;show g<1
    omega
   split at hp
   ·rename_i hg;simp only[Bool.and_eq_true]at hg;have:=Nat.eq_of_beq_eq_true hg.1;show g<1
    omega
   exact absurd rfl hp
def tu (P:Program) (s:St):List ResultVar->Option (List AV)
 | []=>some []
 | .tmp t::l=>match tu P s l with
  | some vs=>some (ev s (.tmp t)::vs)
  | none=>none
 | .cell t ty::l=>match yH P s.σ ty (ev s (.tmp t)) with
  | some v=>match tu P s l with
   | some vs=>some (v::vs)
   | none=>none
  | none=>none
def qk:List AV->AV
 | [v]=>v
 | vs=>.aZ vs
def zf (tmps:Array Value):ResultVar->Sem Value
 | .tmp t=>pure (tmps.getD t undef)
 | .cell a t=>do loadVar t (<-asAddr (tmps.getD a undef))
theorem NG {P:Program}{rd:RD}{φ:cj}{O:Nat->Prop}{w0 w:World}{s:St}{a:Act}(h:Rel rd φ O w0 s a w):∀{l:List ResultVar}{vs:List AV},tu P s l=some vs->
  ∃us,PW rd φ vs us/\(l.mapM (zf a.tmps)).run P w=Result.ok us w
 | [],vs,he=>by cases he;exact⟨[],PW.nil,by simp⟩
 | .tmp t::l,vs,he=>by
  simp only[tu]at he;split at he
  ·rename_i po hl;cases he;obtain⟨us,h1,h2⟩:=NG h hl;have hv:=h.ev (.tmp t);refine⟨a.tmps.getD t undef::us,⟨by simp[h1.1],fun j c hc=>?_⟩,?_⟩
   ·cases j with
    | zero=>cases hc;exact⟨_,rfl,hv⟩
    | succ j=>simpa using h1.2 j c (by simpa using hc)
   simp only[List.mapM_cons,Sem.run_bind,zf,Sem.run_pure,Result.andThen_ok,h2]
  cases he
 | .cell t ty::l,vs,he=>by
  simp only[tu]at he;split at he
  ·rename_i v hv;split at he
   ·rename_i po hl;cases he;obtain⟨us,h1,h2⟩:=NG h hl;have hx:=h.ev (.tmp t);obtain⟨cv,e1,e2⟩:=RU h.heap hx hv;have e3:(zf a.tmps (.cell t ty)).run P w=.ok cv w:=by
     rw[show a.eval (.tmp t)=a.tmps.getD t undef from rfl]at e1;cases hp:a.tmps.getD t undef with
     | pointer A=>
      rw[hp]at e1;cases A with
      | none=>simp[Instr.loadAt,Instr.sureAddr]at e1
      | some A=>
       simp only[Instr.loadAt,Instr.sureAddr,Sem.run_bind,Sem.run_pure,Result.andThen_ok]at e1;simp only[zf,hp,asAddr,Sem.run_bind,Sem.run_pure,Result.andThen_ok,e1]
     | _=>rw[hp]at e1;simp[Instr.loadAt,Instr.sureAddr]at e1
    refine⟨cv::us,⟨by simp[h1.1],fun j c hc=>?_⟩,?_⟩
    ·cases j with
     | zero=>cases hc;exact⟨_,rfl,e2⟩
     | succ j=>simpa using h1.2 j c (by simpa using hc)
    simp only[List.mapM_cons,Sem.run_bind,e3,Result.andThen_ok,h2,Sem.run_pure]
   cases he
  cases he
theorem PN {P:Program}{rd:RD}{φ:cj}{O:Nat->Prop}{w0 w:World}{s:St}{a:Act}(h:Rel rd φ O w0 s a w) {fn:Func}{vs:List AV}(he:tu P s fn.results.toList=some vs):
  ∃v,(results fn a.tmps).run P w=.ok v w/\aL rd φ (qk vs) v:=by
 obtain⟨us,h1,h2⟩:=NG h he;have h3:(fn.results.mapM (zf a.tmps)).run P w=.ok us.toArray w:=by
  rw[Array.mapM_eq_mapM_toList];simp[h2]
 have h4:results fn a.tmps=(do
  let vs <-fn.results.mapM (zf a.tmps)
  pure (if h:vs.size=1 then vs[0] else .tuple vs)):=rfl
 rw[h4,Sem.run_bind,h3];refine⟨_,rfl,?_⟩;split
 ·rename_i hs;have ua:us.length=1:=by simpa using hs
  match us,vs,h1,ua with
  | [u],[x],h1,_=>
   obtain⟨v',oh,hr⟩:=h1.2 0 x rfl;cases oh;exact hr
  | [u],[],h1,_=>exact absurd h1.1 (by simp)
  | [u],_::_::_,h1,_=>exact absurd h1.1 (by simp)
 rename_i hs;have ua:us.length≠1:=by simpa using hs
 have hp:qk vs=.aZ vs:=by
  match vs,h1 with
  | [],_=>rfl
  | [x],h1=>exact absurd (h1.1.symm.trans rfl) ua
  | _::_::_,_=>rfl
 rw[hp];exact PW.aZ h1
end
section
open Go Go.RowKit
open Go.ChangeMaps (setBlock)
set_option linter.unusedVariables false
section
variable {P:Program}{rd:RD}{φ:cj}{O:Nat->Prop}{w0 w:World}{σ:ak}
theorem UO {w w':World}{b k:Nat}(h:w'.heap[b]?=w.heap[b]?):w'.cell? (cM b k)=w.cell? (cM b k):=by
 unfold World.cell?;rw[show(cM b k).block=b from rfl,h]
theorem ad5 {w w':World}{b k:Nat}(h:w'.heap[b]?=w.heap[b]?):w'.frozen? (cM b k)=w.frozen? (cM b k):=by
 unfold World.frozen?;rw[show(cM b k).block=b from rfl,h]
theorem bc.newObj (h:bc rd φ O w0 σ w) (o:Obj):bc rd φ O w0 σ (w.alloc o):=by
 have ab:∀{r g p row pl b q},rowAt σ r g p=some row->φ r g p=some pl->pl.ad=some (b,q)->b<w.heap.size:=fun h1 h2 h3=>(h.own _ _ _ _ _ _ _ h1 h2 h3).2
 have hs:(w.alloc o).heap.size=w.heap.size+1:=World.size_alloc ..;refine⟨?_,h.sep,?_,h.eF,?_,?_,?_,h.os,h.tape,h.output⟩
 ·intro r g p row hr;obtain⟨pl,h1,h2⟩:=h.rows _ _ _ _ hr;exact⟨pl,h1,h2.of_same (fun b q aK k=>⟨v7 (ab hr h1 aK),Hc (ab hr h1 aK)⟩) fun b q aK es ck e=>by rw[Below.heap_alloc _ _ _ (ab hr h1 aK)];exact e⟩
 ·intro b o' v e;have:=h.eA b o' v e;rw[v7 (tj (by rw[this];rfl))];exact this
 ·intro r g p row pl b q h1 h2 h3;obtain⟨ha,hb⟩:=h.own _ _ _ _ _ _ _ h1 h2 h3;exact⟨ha,by rw[hs];omega⟩
 ·intro b hb hO;have:=h.size;rw[<-h.frame b hb hO];show(w.heap.push o)[b]?=_
  rw[Array.getElem?_push,if_neg (by omega)]
 have:=h.size;rw[hs];omega
theorem bc.setObj (h:bc rd φ O w0 σ w) {r:Nat}(o:Obj) (eU:¬ic φ σ r) (nE:∀k,rd r k=none) (hr:w0.heap.size<=r):bc rd φ O w0 σ (setBlock w r o):=by
 have hs:(setBlock w r o).heap.size=w.heap.size:=by simp[setBlock]
 have bJ:∀{b:Nat},b≠r->(setBlock w r o).heap[b]?=w.heap[b]?:=fun hb=>by
  show(w.heap.setIfInBounds r o)[_]?=_
  rw[Array.getElem?_setIfInBounds_ne (Ne.symm hb)]
 have hb:∀{r' g p row pl b q},rowAt σ r' g p=some row->φ r' g p=some pl->pl.ad=some (b,q)->b≠r:=fun h1 h2 h3 e=>eU ⟨_,_,_,_,_,_,h1,h2,e▸h3⟩
 refine⟨?_,h.sep,?_,h.eF,?_,?_,?_,h.os,h.tape,h.output⟩
 ·intro r' g p row fZ;obtain⟨pl,h1,h2⟩:=h.rows _ _ _ _ fZ;exact⟨pl,h1,h2.of_same (fun b q aK k=>⟨UO (bJ (hb fZ h1 aK)),ad5 (bJ (hb fZ h1 aK))⟩) fun b q aK es ck e=>by rw[bJ (hb fZ h1 aK)];exact e⟩
 ·intro b o' v e;rw[UO (bJ (fun e'=>by rw[e',nE]at e;cases e))];exact h.eA b o' v e
 ·intro r' g p row pl b q h1 h2 h3;obtain⟨ha,hb⟩:=h.own _ _ _ _ _ _ _ h1 h2 h3;exact⟨ha,by rw[hs];omega⟩
 ·intro b qG hO;rw[bJ (by omega)];exact h.frame b qG hO
 rw[hs];exact h.size
theorem Ya {E:kQ}{w1 w2:World}{s':St}{a':Act}(hx:nj O w0 E rd φ) (h:bc rd φ O w0 σ w1) (k:iz (rd,φ) (ic φ σ) w1 s' a' w2):
  ∃dV φ2,nj O w0 E dV φ2/\Rel dV φ2 O w0 s' a' w2/\(∀b o,b<w1.heap.size->¬ic φ σ b->dV b o=rd b o)/\(∀b,ic φ2 s'.σ b->ic φ σ b\/w1.heap.size<=b)/\(∀b,b<w1.heap.size->¬ic φ σ b->w2.heap[b]?=w1.heap[b]?):=by
 obtain⟨dV,φ2,aW,k⟩:=k;have KM:∀b,ic φ σ b->O b\/w0.heap.size<=b:=fun b ⟨r,g,p,row,pl,q,h1,h2,h3⟩=>(h.own _ _ _ _ _ _ _ h1 h2 h3).1
 have hs:=h.size;refine⟨dV,φ2,⟨hx.1.trans ⟨aW.1.1,fun b o hb hO=>aW.1.2 b o (by omega) (fun hh=>(KM b hh).elim hO (by omega))⟩,fun r p pl e hr=>aW.2 r p pl (hx.2 r p pl e hr) hr⟩,⟨⟨k.heap.rows,k.heap.sep,k.heap.eA,k.heap.eF,?_,?_,?_,?_,?_,?_⟩,k.tm,k.size,k.defers,k.gen⟩,aW.1.2,?_,k.heap.frame⟩
 ·intro r g p row pl b q h1 h2 h3;obtain⟨ha,hb⟩:=k.heap.own _ _ _ _ _ _ _ h1 h2 h3;refine⟨ha.elim (KM b) (fun hh=>.inr (by omega)),hb⟩
 ·intro b hb hO;rw[k.heap.frame b (by omega) (fun hh=>(KM b hh).elim hO (by omega))];exact h.frame b hb hO
 ·have:=k.heap.size;omega
 ·rw[k.heap.os,h.os]
 ·rw[k.heap.tape,h.tape]
 ·rw[k.heap.output,h.output]
 rintro b ⟨r,g,p,row,pl,q,h1,h2,h3⟩;exact(k.heap.own _ _ _ _ _ _ _ h1 h2 h3).1
theorem Oq {E:kQ}{ops:Array Oper}{K:St->Prop}{Q:Exit->Act->World->Prop}{l2:List Nat}(hn:∀s' a' w',K s'->iz E O w0 s' a' w'->wpOps P ops Q l2 a' w'):
  ∀(l:List Nat) (os:List Oper),l.map (ops[·]?)=os.map some->∀s a w,iz E O w0 s a w->yU P ops os s K->wpOps P ops Q (l++l2) a w
 | [],[],_,s,a,w,h,hv=>hn _ _ _ hv h
 | [],_::_,hl,_,_,_,_,_=>by cases hl
 | _::_,[],hl,_,_,_,_,_=>by cases hl
 | i::l,o::os,hl,s,a,w,⟨rd',φ,hx,h⟩,hv=>by
  simp only[List.map_cons,List.cons.injEq]at hl;simp only[List.cons_append,wpOps,hl.1];exact IC hx hl.1 h hv fun s' a' w' hk hr=>Oq hn l os hl.2 s' a' w' hr hk
end
def aif (P:Program) (it tn tk id:Nat) (body:Code) (Q:Exit->St->Prop) (str:ByteArray) (r:Nat) (I:Nat->St->Prop) (pos:Nat) (s:St):Prop:=
 (bE s.tm it=some (.it r)/\tn<s.n/\tk<s.n)/\
 (pos<str.size->∃c,Utf8.decode str pos=(c,1)/\vc P body ⟨s.n,(tk,.sc (.bool true))::(tn,.aZ [.sc (.bool true),.sc (.int .i64 pos),.sc (.int .i32 c)])::s.tm,s.σ,s.G⟩ (gl (jK id Q) fun s4=>∃s5,aB s4 s5/\I (pos+1) s5))/\
 (¬pos<str.size->Q .normal ⟨s.n,(tk,.sc (.bool false))::(tn,.aZ [.sc (.bool false)])::s.tm,s.σ,s.G⟩)
def aid (P:Program) (it tn tk id:Nat) (x:Operand) (body:Code) (Q:Exit->St->Prop) (s:St):Prop:=
 ∃str,ev s x=.sc (.string str)/\it<s.n/\∀r,∃(I:Nat->St->Prop) (s2:St),aB ⟨s.n,(it,.it r)::s.tm,s.σ,s.G⟩ s2/\I 0 s2/\∀pos s3,I pos s3->aif P it tn tk id body Q str r I pos s3
theorem Rel.Bw {rd:RD}{φ:cj}{O:Nat->Prop}{w0 w w':World}{s:St}{a:Act}{d:Nat}{v:AV}{cv:Value}(h:Rel rd φ O w0 s a w) (hd:d<s.n) (hh:bc rd φ O w0 s.σ w') (hv:aL rd φ v cv):
  Rel rd φ O w0 ⟨s.n,(d,v)::s.tm,s.σ,s.G⟩ (a.put (some d) cv) w':=by
 obtain⟨s',e,hr⟩:=h.put (dst:=some d) (v:=v) (σ:=s.σ) (b:=false) (K:=fun s'=>s'=⟨s.n,(d,v)::s.tm,s.σ,s.G⟩) (by
  unfold E.put;simp only;rw[show Nat.blt d s.n=true from Nat.ble_eq_true_of_le hd];rfl) (fun _ _ _ h=>h) hh hv (fun _ _ _ _ h=>h) (fun _ _ _ h=>.inl h)
 exact e▸hr
theorem acJ {rd:RD}{φ:cj}{r:Nat}{v:Value}(h:aL rd φ (.it r) v):v=.pointer (some ⟨r,0,none⟩):=by
 cases h;rfl
theorem Rel.Wj {rd:RD}{φ:cj}{O:Nat->Prop}{w0 w:World}{s:St}{a:Act}(h:Rel rd φ O w0 s a w):iz (rd,φ) (ic φ s.σ) w s a w:=
 ⟨rd,φ,.refl,h.heap.Jf,h.tm,h.size,h.defers,h.gen⟩
theorem Rel.kept {E:kQ}{rd:RD}{φ:cj}{O:Nat->Prop}{w0 w w':World}{s s':St}{a a':Act}{r:Nat}(h:Rel rd φ O w0 s a w) (hx:nj O w0 E rd φ) (hr:r<w.heap.size) (eU:¬ic φ s.σ r) (nE:∀k,rd r k=none)
  (k:iz (rd,φ) (ic φ s.σ) w s' a' w'):∃dV φ2,nj O w0 E dV φ2/\Rel dV φ2 O w0 s' a' w'/\w'.heap[r]?=w.heap[r]?/\(∀k,dV r k=none)/\¬ic φ2 s'.σ r:=by
 obtain⟨dV,φ2,h1,h2,h3,h4,h5⟩:=Ya hx h.heap k;exact⟨dV,φ2,h1,h2,h5 r hr eU,fun k=>by rw[h3 r k hr eU,nE],fun hh=>(h4 r hh).elim eU (by omega)⟩
theorem Zd {P:Program}{i1 i2 id it tn tk:Nat}{ty:TypeId}{x:Operand}{sC sB:Array Oper}{body:Code}{pre:List Oper}{oR oN oE:Oper}{Q:Exit->St->Prop}{s:St}
  (h1:sC.toList=pre++[oR]) (hR:oR.op=.range ty x/\oR.dst=some it/\oR.guard=none) (h2:sB.toList=[oN,oE])
  (hN:oN.op=.next (.tmp it) true/\oN.dst=some tn/\oN.guard=none) (hE:oE.op=.extract (.tmp tn) 0/\oE.dst=some tk/\oE.guard=none) (Cj:P.underlying ty=some .string)
  (hv:yU P sC pre s (aid P it tn tk id x body Q)):
  AM P (.seq (.region i1 sC false) (.block id (.loop (.seq (.region i2 sB false) (.seq (.cond (.tmp tk) .skip (.exit id)) body))))) s Q:=by
 intro E O w0 a w h;refine wp_seq (wp_region ?_);have Gy:=P9 sC;have dv:sC.size=pre.length+1:=by rw[<-Array.length_toList,h1];simp
 rw[h1,dv,List.range_succ,List.map_append,List.map_append]at Gy;obtain⟨oq,zQ⟩:=List.append_inj Gy (by simp);rw[dv,List.range_succ];refine Oq ?_ _ _ oq s a w h hv;rintro s1 a1 w1 ⟨str,hx,CB,hI⟩ ⟨eh,φ1,fQ,jJ⟩;have hk:sC[pre.length]?=some oR:=by simpa using zQ
 simp only[wpOps,hk];have cY:=jJ.ev x;rw[hx]at cY;have cY:=fH cY;rw[if_pos (by simp[Region.wanted,hR.2.2])];refine .inl ?_;unfold Oper.wp;have eS:(execOp a1.eval oR).run P w1=.ok (.value (.pointer (some ⟨w1.heap.size,0,none⟩))) (w1.iter str 0):=by
  unfold execOp;rw[hR.1];simp[cY,run_range_string w1 ty str Cj]
 rw[eS,Oper.upon_value,hR.2.1];have hh1:bc eh φ1 O w0 s1.σ (w1.iter str 0):=jJ.heap.newObj _;have nF:=jJ.Bw CB hh1 (.it w1.heap.size);obtain⟨I,s2,KB,hI0,KH⟩:=hI w1.heap.size;have ac6:¬ic φ1 s1.σ w1.heap.size:=fun⟨r',g,p,row,pl,q,k1,k2,k3⟩=>Nat.lt_irrefl _ (jJ.heap.own _ _ _ _ _ _ _ k1 k2 k3).2
 have ac1:∀k,eh w1.heap.size k=none:=fun k=>by
  cases e:eh w1.heap.size k with
  | none=>rfl
  | some v=>exact absurd (tj (w:=w1) (b:=w1.heap.size) (k:=k) (by rw[jJ.heap.eA _ _ _ e];rfl)) (Nat.lt_irrefl _)
 obtain⟨dV,φ2,aW,hr3,SM,ac0,ac5⟩:=nF.kept (r:=w1.heap.size) fQ (by show w1.heap.size<(w1.alloc _).heap.size;rw[World.size_alloc];omega) ac6 ac1 (KB _ _ _ _ _ nF.Wj);have SM:(w1.iter str 0).heap[w1.heap.size]?=some (.stringIter str 0):=World.iter_heap _ _ _;have hle:w0.heap.size<=w1.heap.size:=jJ.heap.size;have ab:w1.heap.size<(w1.iter str 0).heap.size:=by show w1.heap.size<(w1.alloc _).heap.size;rw[World.size_alloc];omega
 generalize w1.iter str 0=w2 at *;generalize w1.heap.size=r at *;show(Code.block id _).wp P _ _ _
 refine wp_block (N2 (fun m a w=>∃pos s3 rd' φ,m=str.size - pos/\I pos s3/\nj O w0 E rd' φ/\Rel rd' φ O w0 s3 a w/\w.heap[r]?=some (.stringIter str pos)/\(∀k,rd' r k=none)/\¬ic φ s3.σ r) ?_ (str.size - 0) _ _ ⟨0,s2,dV,φ2,rfl,hI0,aW,hr3,SM,ac0,ac5⟩);rintro m a3 w3 ⟨pos,s3,P6,φ3,rfl,hIp,cD,xQ,GC,Gs,Gv⟩;obtain⟨⟨KY,Gl,iu⟩,hgo,ads⟩:=KH pos s3 hIp;have SE:a3.tmps.getD it undef=.pointer (some ⟨r,0,none⟩):=by
  exact acJ (xQ.tm _ _ KY)
 have SB:r<w3.heap.size:=by
  rcases bp r w3.heap.size with h|h
  ·exact h
  rw[Array.getElem?_eq_none h]at GC;cases GC
 refine wp_seq (wp_region ?_);have zM:sB.size=2:=by rw[<-Array.length_toList,h2];rfl
 have mV:sB[0]?=some oN:=by rw[<-Array.getElem?_toList,h2];rfl
 have uh:sB[1]?=some oE:=by rw[<-Array.getElem?_toList,h2];rfl
 rw[zM,show List.range 2=[0,1] from rfl];simp only[wpOps,mV,uh];rw[if_pos (by simp[Region.wanted,hN.2.2])];refine .inl ?_;by_cases hp:pos<str.size
 ·obtain⟨c,adB,m6⟩:=hgo hp;unfold Oper.wp;have eS:(execOp a3.eval oN).run P w3=.ok (.value (.tuple #[.bool true,.int .i64 pos,.int .i32 c])) (setBlock w3 r (.stringIter str (pos+1))):=by
   unfold execOp;rw[hN.1];simp[Act.eval,SE,Instr.next,getObj,Go.setObj,Sem.run,GC,hp,adB,Result.andThen,setBlock,goInt]
  rw[eS,Oper.upon_value,hN.2.1];have hh4:=xQ.heap.setObj (Obj.stringIter str (pos+1)) Gv Gs hle;have Cr:=xQ.Bw (cv:=.tuple #[.bool true,.int .i64 pos,.int .i32 c]) Gl hh4 (v:=.aZ [.sc (.bool true),.sc (.int .i64 pos),.sc (.int .i32 c)]) (PW.aZ (PW.cons (.sc _ rfl) (PW.cons (.sc _ rfl) (PW.cons (.sc _ rfl) PW.nil))));have nI:(a3.put (some tn) (.tuple #[.bool true,.int .i64 pos,.int .i32 c])).tmps.getD tn undef=.tuple #[.bool true,.int .i64 pos,.int .i32 c]:=by
   rw[GZ _ _ _ _ (by rw[xQ.size];exact Gl),if_pos rfl]
  rw[if_pos (by simp[Region.wanted,hE.2.2])];refine .inl ?_;have KG:∀w,(execOp (a3.put (some tn) (.tuple #[.bool true,.int .i64 pos,.int .i32 c])).eval oE).run P w=.ok (.value (.bool true)) w:=by
   intro w;unfold execOp;rw[hE.1];simp only[Act.eval];rw[nI];rfl
  rw[KG,Oper.upon_value,hE.2.1];have vt:=Cr.Bw (d:=tk) (cv:=.bool true) (v:=.sc (.bool true)) iu Cr.heap (.sc _ rfl);have adl:(setBlock w3 r (.stringIter str (pos+1))).heap[r]?=some (.stringIter str (pos+1)):=by
   show(w3.heap.setIfInBounds r _)[r]?=_
   rw[Array.getElem?_setIfInBounds_self_of_lt SB]
  have KI:r<(setBlock w3 r (.stringIter str (pos+1))).heap.size:=by simp[setBlock];exact SB
  generalize setBlock w3 r (.stringIter str (pos+1))=w4 at *;have Le:=fH (vt.tm tk (.sc (.bool true)) (by simp[bE]));refine wp_seq (wp_cond_true Le (wp_skip ?_));refine wp_mono (sk (rd:=(P6,φ3)) (O:=ic φ3 s3.σ) (w0:=w4) body _ _ m6 _ _ vt.Wj) ?_;rintro e a' w' ⟨s',hk,KJ⟩;cases e with
  | normal=>
   obtain⟨s5,hw5,hI5⟩:=hk;obtain⟨zg,φ5,k1,k2,k3,k4,k5⟩:=vt.kept cD KI Gv Gs (hw5.rel KJ);exact⟨str.size - (pos+1),by omega,pos+1,s5,zg,φ5,rfl,hI5,k1,k2,k3.trans adl,k4,k5⟩
  | exit kq=>
   obtain⟨zg,φ5,k1,k2,k3,k4,k5⟩:=vt.kept cD KI Gv Gs KJ;simp only[gl,jK]at hk;simp only[Exit.then,Exit.inBlock];by_cases pM:kq=id
   ·rw[if_pos pM];have:(kq==id)=true:=by simp[pM]
    rw[this]at hk;exact⟨s',hk,zg,φ5,k1,k2⟩
   rw[if_neg pM];have:(kq==id)=false:=by simp[pM]
   rw[this]at hk;exact⟨s',hk,zg,φ5,k1,k2⟩
  | _=>
   obtain⟨zg,φ5,k1,k2,k3,k4,k5⟩:=vt.kept cD KI Gv Gs KJ;exact⟨s',hk,zg,φ5,k1,k2⟩
 have hq:=ads hp;unfold Oper.wp;have eS:(execOp a3.eval oN).run P w3=.ok (.value (.tuple #[.bool false])) w3:=by
  unfold execOp;rw[hN.1];simp[Act.eval,SE,Instr.next,getObj,Sem.run,GC,hp,Result.andThen]
 rw[eS,Oper.upon_value,hN.2.1];have Cr:=xQ.Bw (cv:=.tuple #[.bool false]) Gl xQ.heap (v:=.aZ [.sc (.bool false)]) (PW.aZ (PW.cons (.sc _ rfl) PW.nil));have nI:(a3.put (some tn) (.tuple #[.bool false])).tmps.getD tn undef=.tuple #[.bool false]:=by
  rw[GZ _ _ _ _ (by rw[xQ.size];exact Gl),if_pos rfl]
 rw[if_pos (by simp[Region.wanted,hE.2.2])];refine .inl ?_;have KG:∀w,(execOp (a3.put (some tn) (.tuple #[.bool false])).eval oE).run P w=.ok (.value (.bool false)) w:=by
  intro w;unfold execOp;rw[hE.1];simp only[Act.eval];rw[nI];rfl
 rw[KG,Oper.upon_value,hE.2.1];have vt:=Cr.Bw (d:=tk) (cv:=.bool false) (v:=.sc (.bool false)) iu Cr.heap (.sc _ rfl);have Le:=fH (vt.tm tk (.sc (.bool false)) (by simp[bE]));refine wp_seq (wp_cond_false Le (wp_exit ?_));simp only[Exit.then,Exit.inBlock,if_true];exact⟨_,hq,P6,φ3,cD,vt⟩
end
section
open Go Go.RowKit
set_option linter.unusedVariables false
structure GE where
 r:Nat
 g:Nat
 p:List Nat
 q:List Nat
 row:Row
def CX (σ:ak) (q:List Nat):AV->Option (AV × List GE)
 | .aw r g p sz off len=>match rowAt σ r g p with
  | some row=>match Nat.beq off 0,Nat.beq len row.es.length,Nat.ble 1 row.fl with
   | true,true,true=>some (.aw 0 0 q sz 0 len,[⟨r,g,p,q,row⟩])
   | _,_,_=>none
  | none=>none
 | .ptr ..|.agg _|.aZ _|.dead|.rp _|.it _|.mr ..=>none
 | v=>some (v,[])
def CW (σ:ak) (q:List Nat):Nat->List AV->Option (List AV × List GE)
 | _,[]=>some ([],[])
 | k,c::cs=>match CX σ (q++[k]) c with
  | some (c',l)=>match CW σ q (k+1) cs with
   | some (bH,l')=>some (c'::bH,l++l')
   | none=>none
  | none=>none
def CY (σ:ak) (q:List Nat):AV->Option (AV × List GE)
 | .agg cs=>match CW σ q 0 cs with
  | some (bH,l)=>some (.agg bH,l)
  | none=>none
 | v=>CX σ q v
def zY (σ:ak):Nat->List AV->Option (List AV × List GE)
 | _,[]=>some ([],[])
 | k,c::cs=>match CY σ [k] c with
  | some (c',l)=>match zY σ (k+1) cs with
   | some (bH,l')=>some (c'::bH,l++l')
   | none=>none
  | none=>none
def LI (σ:ak):List AV->Option (AV × List GE)
 | [v]=>CY σ [] v
 | vs=>match zY σ 0 vs with
  | some (po,l)=>some (.aZ po,l)
  | none=>none
def oC:List Nat->List Nat->Bool
 | [],[]=>true
 | a::l,b::m=>match a==b with
  | true=>oC l m
  | false=>false
 | _,_=>false
theorem Nf:∀l:List Nat,oC l l=true
 | []=>rfl
 | a::l=>by simp[oC,Nf l]
def DM (e:GE):List GE->Bool
 | []=>true
 | f::l=>match oC e.q f.q,(match e.r==f.r with|true=>oC e.p f.p|false=>false) with
  | false,false=>DM e l
  | _,_=>false
def wq:List GE->Bool
 | []=>true
 | e::l=>match DM e l with
  | true=>wq l
  | false=>false
section
variable {P:Program}{rd:RD}{φ:cj}{O:Nat->Prop}{w0 w:World}{σ:ak}
theorem Nq {e:GE}:∀{l:List GE},DM e l=true->∀f∈l,e.q≠f.q/\¬(e.r=f.r/\e.p=f.p)
 | [],_,f,hf=>by simp at hf
 | x::l,h,f,hf=>by
  simp only[DM]at h;split at h
  ·rename_i h1 h2;rcases List.mem_cons.1 hf with rfl|hf
   ·refine⟨fun e'=>?_,fun⟨e1,e2⟩=>?_⟩
    ·rw[e',Nf]at h1;cases h1
    have:(e.r==f.r)=true:=by simp[e1]
    rw[this,e2,Nf]at h2;cases h2
   exact Nq h f hf
  cases h
theorem Wx:∀{l:List GE},wq l=true->∀(i j:Nat) (e f:GE),l[i]?=some e->l[j]?=some f->(e.q=f.q\/(e.r=f.r/\e.p=f.p))->i=j
 | [],_,i,j,e,f,he,_,_=>by simp at he
 | x::l,h,i,j,e,f,he,hf,hh=>by
  simp only[wq]at h;split at h
  ·rename_i h1;have hs:=Nq h1;cases i with
   | zero=>
    cases j with
    | zero=>rfl
    | succ j=>
     cases he;have hf':l[j]?=some f:=by simpa using hf
     have:=hs f (dk hf');exact(hh.elim (fun h=>this.1 h) (fun h=>this.2 h)).elim
   | succ i=>
    cases j with
    | zero=>
     cases hf;have Lk:l[i]?=some e:=by simpa using he
     have:=hs e (dk Lk);exact(hh.elim (fun h=>this.1 h.symm) (fun h=>this.2 ⟨h.1.symm,h.2.symm⟩)).elim
    | succ j=>
     have:=Wx h i j e f (by simpa using he) (by simpa using hf) hh;omega
  cases h
def Sound (rd:RD) (φ:cj) (σ:ak) (c':AV) (l:List GE) (v:Value):Prop:=
 (∀e∈l,rowAt σ e.r e.g e.p=some e.row/\1<=e.row.fl)/\∀ψ:List Nat->Option Pl,(∀e∈l,ψ e.q=φ e.r e.g e.p)->aL rd (kg ψ) c' v
theorem Tk {q:List Nat}{c c':AV}{l:List GE}{v:Value}(hv:aL rd φ c v) (h:CX σ q c=some (c',l)):Sound rd φ σ c' l v:=by
 have II:∀{c:AV},sf c=true->aL rd φ c v->some (c,[])=some (c',l)->Sound rd φ σ c' l v:=by
  intro c hs hv h;cases h;exact⟨fun e he=>by simp at he,fun ψ _=>hv.l9 hs⟩
 cases c with
 | aw r g p sz off len=>
  simp only[CX]at h;split at h
  ·rename_i row fF;split at h
   ·rename_i h1 h2 h3;cases h;have h1:=Nat.eq_of_beq_eq_true h1;subst h1;refine⟨fun e he=>?_,fun ψ hψ=>?_⟩
    ·rw[List.mem_singleton.1 he];exact⟨fF,Nat.le_of_ble_eq_true h3⟩
    cases hv with
    | aw _ _ _ _ _ _ pl A hφ hA hl=>
     have hq:=hψ ⟨r,g,p,q,row⟩ (by simp);simp only at hq;rw[hφ]at hq;exact .aw 0 0 q sz 0 len pl A hq hA hl
   cases h
  cases h
 | sc v=>exact II rfl hv h
 | aG=>exact II rfl hv h
 | ro sz es=>exact II rfl hv h
 | _=>cases h
theorem Tj {q:List Nat}:∀{k:Nat}{cs bH:List AV}{l:List GE}{vs:List Value},PW rd φ cs vs->CW σ q k cs=some (bH,l)->
  (∀e∈l,rowAt σ e.r e.g e.p=some e.row/\1<=e.row.fl)/\∀ψ:List Nat->Option Pl,(∀e∈l,ψ e.q=φ e.r e.g e.p)->PW rd (kg ψ) bH vs
 | k,[],bH,l,vs,hp,h=>by
  cases h;have:vs=[]:=List.eq_nil_of_length_eq_zero hp.1.symm
  subst this;exact⟨fun e he=>by simp at he,fun _ _=>PW.nil⟩
 | k,c::cs,bH,l,vs,hp,h=>by
  cases vs with
  | nil=>exact absurd hp.1 (by simp)
  | cons v vs=>
   simp only[CW]at h;split at h
   ·rename_i c1 l1 hc;split at h
    ·rename_i uy l2 iH;cases h;obtain⟨v',oh,hr⟩:=hp.2 0 c rfl;cases oh;have mS:PW rd φ cs vs:=⟨by simpa using hp.1,fun j c hc=>by simpa using hp.2 (j+1) c (by simpa using hc)⟩;obtain⟨a1,a2⟩:=Tk hr hc;obtain⟨b1,b2⟩:=Tj mS iH;refine⟨fun e he=>(List.mem_append.1 he).elim (a1 e) (b1 e),fun ψ hψ=>?_⟩;have x:=a2 ψ (fun e he=>hψ e (by simp[he]));have y:=b2 ψ (fun e he=>hψ e (by simp[he]));exact⟨by simp[y.1],fun j c hc=>by
      cases j with
      | zero=>cases hc;exact⟨v,rfl,x⟩
      | succ j=>simpa using y.2 j c (by simpa using hc)⟩
    cases h
   cases h
theorem Tl {q:List Nat}{c c':AV}{l:List GE}{v:Value}(hv:aL rd φ c v) (h:CY σ q c=some (c',l)):Sound rd φ σ c' l v:=by
 cases c with
 | agg cs=>
  simp only[CY]at h;split at h
  ·rename_i uy l1 iH;cases h;obtain⟨arr,rfl,hp⟩:=PW.mM hv;obtain⟨a1,a2⟩:=Tj hp iH;exact⟨a1,fun ψ hψ=>PW.agg (a2 ψ hψ)⟩
  cases h
 | _=>exact Tk (q:=q) hv h
theorem Ti:∀{k:Nat}{cs bH:List AV}{l:List GE}{vs:List Value},PW rd φ cs vs->zY σ k cs=some (bH,l)->
  (∀e∈l,rowAt σ e.r e.g e.p=some e.row/\1<=e.row.fl)/\∀ψ:List Nat->Option Pl,(∀e∈l,ψ e.q=φ e.r e.g e.p)->PW rd (kg ψ) bH vs
 | k,[],bH,l,vs,hp,h=>by
  cases h;have:vs=[]:=List.eq_nil_of_length_eq_zero hp.1.symm
  subst this;exact⟨fun e he=>by simp at he,fun _ _=>PW.nil⟩
 | k,c::cs,bH,l,vs,hp,h=>by
  cases vs with
  | nil=>exact absurd hp.1 (by simp)
  | cons v vs=>
   simp only[zY]at h;split at h
   ·rename_i c1 l1 hc;split at h
    ·rename_i uy l2 iH;cases h;obtain⟨v',oh,hr⟩:=hp.2 0 c rfl;cases oh;have mS:PW rd φ cs vs:=⟨by simpa using hp.1,fun j c hc=>by simpa using hp.2 (j+1) c (by simpa using hc)⟩;obtain⟨a1,a2⟩:=Tl hr hc;obtain⟨b1,b2⟩:=Ti mS iH;refine⟨fun e he=>(List.mem_append.1 he).elim (a1 e) (b1 e),fun ψ hψ=>?_⟩;have x:=a2 ψ (fun e he=>hψ e (by simp[he]));have y:=b2 ψ (fun e he=>hψ e (by simp[he]));exact⟨by simp[y.1],fun j c hc=>by
      cases j with
      | zero=>cases hc;exact⟨v,rfl,x⟩
      | succ j=>simpa using y.2 j c (by simpa using hc)⟩
    cases h
   cases h
theorem adR {vs:List AV}{c':AV}{l:List GE}{v:Value}(hv:aL rd φ (qk vs) v) (h:LI σ vs=some (c',l)):Sound rd φ σ c' l v:=by
 have many:qk vs=.aZ vs->(match zY σ 0 vs with|some (po,l)=>some (AV.aZ po,l)|none=>none)=some (c',l)->Sound rd φ σ c' l v:=by
  intro hp h;rw[hp]at hv;split at h
  ·rename_i uy l1 iH;cases h;obtain⟨arr,rfl,hp⟩:=PW.tS hv;obtain⟨a1,a2⟩:=Ti hp iH;exact⟨a1,fun ψ hψ=>PW.aZ (a2 ψ hψ)⟩
  cases h
 match vs,hv,h,many with
 | [x],hv,h,_=>exact Tl hv h
 | [],_,h,many=>exact many rfl h
 | _::_::_,_,h,many=>exact many rfl h
def rowsOf:List GE->List (List Nat × Row)
 | []=>[]
 | e::l=>(e.q,e.row)::rowsOf l
def zi (φ:cj):List GE->List Nat->Option Pl
 | [],_=>none
 | e::l,q=>if q=e.q then φ e.r e.g e.p else zi φ l q
theorem RO:∀{l:List GE}{p:List Nat}{row:Row},mQ (rowsOf l) p=some row->∃(i:Nat) (e:GE),l[i]?=some e/\e.q=p/\e.row=row
 | [],_,_,h=>by cases h
 | e::l,p,row,h=>by
  simp only[rowsOf,mQ]at h;split at h
  ·rename_i hp;cases h;exact⟨0,e,rfl,hp.symm,rfl⟩
  obtain⟨i,f,h1,h2,h3⟩:=RO h;exact⟨i+1,f,by simpa using h1,h2,h3⟩
theorem Jq:∀{l:List GE},wq l=true->∀e∈l,zi φ l e.q=φ e.r e.g e.p
 | [],_,e,he=>by simp at he
 | x::l,h,e,he=>by
  simp only[wq]at h;split at h
  ·rename_i h1;simp only[zi];rcases List.mem_cons.1 he with rfl|he
   ·simp
   have:=(Nq h1 e he).1;rw[if_neg (fun hh=>this hh.symm)];exact Jq h e he
  cases h
theorem bc.back (h:bc rd φ O w0 σ w) {l:List GE}(hl:∀e∈l,rowAt σ e.r e.g e.p=some e.row/\1<=e.row.fl) (ha:wq l=true):
  bc rd (kg (zi φ l)) O w0 (l5 (rowsOf l)) w:=by
 have cA:∀{r g p row},rowAt (l5 (rowsOf l)) r g p=some row->∃(i:Nat) (e:GE),l[i]?=some e/\e.q=p/\e.row=row/\rowAt σ e.r e.g e.p=some row/\1<=row.fl/\r=0/\kg (zi φ l) r g p=φ e.r e.g e.p:=by
  intro r g p row hr;cases mo:rowsOf l with
  | nil=>rw[mo]at hr;simp[l5,rowAt,bE]at hr
  | cons x m=>
   rw[mo]at hr;simp only[l5,rowAt,gR,bE]at hr;split at hr
   ·rename_i g' f hx;split at hx
    ·rename_i h0;cases hx;split at hr
     ·rename_i hg;rw[<-mo]at hr;obtain⟨i,e,h1,h2,h3⟩:=RO hr;have hm:=dk h1;obtain⟨k1,k2⟩:=hl e hm;subst h0;subst hg;refine⟨i,e,h1,h2,h3,h3▸k1,h3▸k2,rfl,?_⟩;rw[<-h2];exact Jq ha e hm
     cases hr
    cases hx
   cases hr
 refine⟨?_,?_,h.eA,?_,?_,h.frame,h.size,h.os,h.tape,h.output⟩
 ·intro r g p row hr;obtain⟨i,e,h1,h2,h3,h4,h5,h6,h7⟩:=cA hr;obtain⟨pl,k1,k2⟩:=h.rows _ _ _ _ h4;refine⟨pl,by rw[h7,k1],k2.wide,k2.len,k2.kind,k2.nil,k2.room,fun b q aK i j c hc=>?_,k2.iI,k2.mp⟩;obtain⟨v,hv,fj⟩:=k2.cells b q aK i j c hc;refine⟨v,hv,fj.l9 ?_⟩;have hm:∃e∈row.es,c∈e:=by
   cases he:row.es[i]? with
   | none=>rw[he]at hc;cases hc
   | some e=>rw[he]at hc;exact⟨e,dk he,dk hc⟩
  obtain⟨e',he,Lr⟩:=hm;have hs:=(k2.kind e' he).1 h5 c Lr;cases c<;>first|rfl|cases hs
 ·intro r g p row r' g' p' cC pl cZ b q q' h1 h2 h3 h4 h5 h6;obtain⟨i,e,a1,a2,a3,a4,a5,a6,a7⟩:=cA h1;obtain⟨j,f,b1,b2,b3,b4,b5,b6,b7⟩:=cA h2;rw[a7]at h3;rw[b7]at h4;have:=h.sep _ _ _ _ _ _ _ _ _ _ _ _ _ a4 b4 h3 h4 h5 h6;have oZ:=Wx ha i j e f a1 b1 (.inr this);subst oZ;rw[a1]at b1;cases b1;exact⟨a6.trans b6.symm,a2.symm.trans b2⟩
 ·intro r g p row pl b q h1 h2 h3 k dI;obtain⟨i,e,a1,a2,a3,a4,a5,a6,a7⟩:=cA h1;rw[a7]at h2;exact h.eF _ _ _ _ _ _ _ a4 h2 h3 k dI
 intro r g p row pl b q h1 h2 h3;obtain⟨i,e,a1,a2,a3,a4,a5,a6,a7⟩:=cA h1;rw[a7]at h2;exact h.own _ _ _ _ _ _ _ a4 h2 h3
def C5 (σ:ak):AV->AV->Option (ak × AV)
 | .aw ..,c=>some (σ,c)
 | .ptr ..,c=>some (σ,c)
 | .mr ..,c=>some (σ,c)
 | .ro sz _,.aG=>some (σ,.ro sz [])
 | _,c=>s9 σ c
def C4 (σ:ak):List AV->List AV->Option (ak × List AV)
 | [],[]=>some (σ,[])
 | u::us,c::cs=>(C5 σ u c).bind fun x=>(C4 x.1 us cs).map fun y=>(y.1,x.2::y.2)
 | _,_=>none
def C6 (σ:ak):AV->AV->Option (ak × AV)
 | .agg us,.agg cs=>(C4 σ us cs).map fun x=>(x.1,.agg x.2)
 | u,c=>C5 σ u c
def C3 (σ:ak):List AV->List AV->Option (ak × List AV)
 | [],[]=>some (σ,[])
 | u::us,c::cs=>(C6 σ u c).bind fun x=>(C3 x.1 us cs).map fun y=>(y.1,x.2::y.2)
 | _,_=>none
def C7 (σ:ak) (res:AV):List AV->Option (ak × List AV)
 | [v]=>(C6 σ res v).map fun x=>(x.1,[x.2])
 | vs=>match res with
  | .aZ us=>C3 σ us vs
  | _=>none
theorem Ts (h:bc rd φ O w0 σ w) {u c c':AV}{v:Value}{σ':ak}(hv:aL rd φ c v) (hf:C5 σ u c=some (σ',c')):
  r8 rd φ O w0 w σ' fun rd'=>aL rd' φ c' v:=by
 unfold C5 at hf;split at hf
 ·cases hf;exact⟨rd,.refl,h,hv⟩
 ·cases hf;exact⟨rd,.refl,h,hv⟩
 ·cases hf;exact⟨rd,.refl,h,hv⟩
 ·cases hf;cases hv;exact⟨rd,.refl,h,.iC _ _ _⟩
 obtain⟨eh,x1,k1,v1,_⟩:=G9 h hv hf;exact⟨eh,x1,k1,v1 φ⟩
theorem Tr:∀{us cs bH:List AV}{vs:List Value}{rd:RD}{σ σ':ak},bc rd φ O w0 σ w->PW rd φ cs vs->C4 σ us cs=some (σ',bH)->
  r8 rd φ O w0 w σ' fun rd'=>PW rd' φ bH vs
 | [],[],bH,vs,rd,σ,σ',h,hp,hf=>by cases hf;exact⟨rd,.refl,h,hp⟩
 | u::us,c::cs,bH,vs,rd,σ,σ',h,hp,hf=>by
  obtain⟨v,us,rfl,hr,hp⟩:=hp.kV;simp only[C4]at hf;obtain⟨⟨σ1,c1⟩,h1,hf⟩:=cG hf;obtain⟨⟨σ2,Mm⟩,h2,hf⟩:=cP hf;cases hf;obtain⟨eh,x1,k1,v1⟩:=Ts h hr h1;obtain⟨dV,x2,k2,v2⟩:=Tr k1 (hp.mono x1.1 (fun _ _ _ _ h=>h)) h2;exact⟨dV,x1.trans x2,k2,PW.cons (v1.mono x2.1 (fun _ _ _ _ h=>h)) v2⟩
 | [],_::_,_,_,_,_,_,_,_,hf=>by cases hf
 | _::_,[],_,_,_,_,_,_,_,hf=>by cases hf
theorem Tp (h:bc rd φ O w0 σ w) {u c c':AV}{v:Value}{σ':ak}(hv:aL rd φ c v) (hf:C6 σ u c=some (σ',c')):
  r8 rd φ O w0 w σ' fun rd'=>aL rd' φ c' v:=by
 unfold C6 at hf;split at hf
 ·obtain⟨arr,rfl,hp⟩:=PW.mM hv;obtain⟨⟨σ1,uy⟩,h1,hf⟩:=cP hf;cases hf;obtain⟨eh,x1,k1,v1⟩:=Tr h hp h1;exact⟨eh,x1,k1,PW.agg v1⟩
 exact Ts h hv hf
theorem Tq:∀{us cs bH:List AV}{vs:List Value}{rd:RD}{σ σ':ak},bc rd φ O w0 σ w->PW rd φ cs vs->C3 σ us cs=some (σ',bH)->
  bH.length=cs.length/\r8 rd φ O w0 w σ' fun rd'=>PW rd' φ bH vs
 | [],[],bH,vs,rd,σ,σ',h,hp,hf=>by cases hf;exact⟨rfl,rd,.refl,h,hp⟩
 | u::us,c::cs,bH,vs,rd,σ,σ',h,hp,hf=>by
  obtain⟨v,us,rfl,hr,hp⟩:=hp.kV;simp only[C3]at hf;obtain⟨⟨σ1,c1⟩,h1,hf⟩:=cG hf;obtain⟨⟨σ2,Mm⟩,h2,hf⟩:=cP hf;cases hf;obtain⟨eh,x1,k1,v1⟩:=Tp h hr h1;obtain⟨hlen,dV,x2,k2,v2⟩:=Tq k1 (hp.mono x1.1 (fun _ _ _ _ h=>h)) h2;exact⟨by simp[hlen],dV,x1.trans x2,k2,PW.cons (v1.mono x2.1 (fun _ _ _ _ h=>h)) v2⟩
 | [],_::_,_,_,_,_,_,_,_,hf=>by cases hf
 | _::_,[],_,_,_,_,_,_,_,hf=>by cases hf
theorem Fq {vs:List AV}(h:vs.length≠1):qk vs=.aZ vs:=by
 match vs with
 | []=>rfl
 | [x]=>exact absurd rfl h
 | _::_::_=>rfl
theorem Tu (h:bc rd φ O w0 σ w) {res:AV}{vs po:List AV}{v:Value}{σ':ak}(hv:aL rd φ (qk vs) v) (hf:C7 σ res vs=some (σ',po)):
  r8 rd φ O w0 w σ' fun rd'=>aL rd' φ (qk po) v:=by
 unfold C7 at hf;split at hf
 ·obtain⟨⟨σ1,c1⟩,h1,hf⟩:=cP hf;cases hf;exact Tp h hv h1
 rename_i bJ;have hl:vs.length≠1:=fun e=>by
  match vs,e with
  | [x],_=>exact bJ x rfl
 split at hf
 ·rename_i us;rw[Fq hl]at hv;obtain⟨arr,rfl,hp⟩:=PW.tS hv;obtain⟨hlen,eh,x1,k1,v1⟩:=Tq h hp hf;rw[show qk po=.aZ po from Fq (by rw[hlen];exact hl)];exact⟨eh,x1,k1,PW.aZ v1⟩
 cases hf
end
def q9 (u c:AV) (σ:ak) (G:Nat):AV × ak × Nat:=match c with
 | .aG=>match u with
  | .aw _ _ _ sz _ _=>(.aw (800000+G) G [] sz 0 0,bT σ (800000+G) (G,one ⟨sz,[],2,false⟩),G+1)
  | _=>(.aG,σ,G)
 | c=>(c,σ,G)
def u7:List AV->List AV->ak->Nat->List AV × ak × Nat
 | u::us,c::cs,σ,G=>((q9 u c σ G).1::(u7 us cs (q9 u c σ G).2.1 (q9 u c σ G).2.2).1,(u7 us cs (q9 u c σ G).2.1 (q9 u c σ G).2.2).2)
 | _,cs,σ,G=>(cs,σ,G)
def u6 (u c:AV) (σ:ak) (G:Nat):AV × ak × Nat:=match c with
 | .agg cs=>match u with
  | .agg us=>(.agg (u7 us cs σ G).1,(u7 us cs σ G).2)
  | _=>(.agg cs,σ,G)
 | c=>q9 u c σ G
def AL (rd:RD) (φ:cj) (O:Nat->Prop) (w0 w:World) (X:(cj->Prop)) (σ':ak) (G':Nat):Prop:=
 ∃φ',(∀r g p pl,φ r g p=some pl->φ' r g p=some pl)/\bc rd φ' O w0 σ' w/\(∀r g p,φ' r g p≠none->g<G')/\X φ'
theorem Q1 {rd:RD}{φ:cj}{O:Nat->Prop}{w0 w:World}{σ:ak}{u c:AV}{v:Value}{G:Nat}(h:bc rd φ O w0 σ w) (hg:∀r g p,φ r g p≠none->g<G) (hv:aL rd φ c v):
  AL rd φ O w0 w (fun φ'=>aL rd φ' (q9 u c σ G).1 v) (q9 u c σ G).2.1 (q9 u c σ G).2.2:=by
 have same:AL rd φ O w0 w (fun φ'=>aL rd φ' c v) σ G:=⟨φ,fun _ _ _ _ h=>h,h,hg,hv⟩;unfold q9;split
 ·split
  ·rename_i r g p sz off len;cases hv;have dA:∀q,φ (800000+G) G q=none:=fun q=>by
    cases hh:φ (800000+G) G q with
    | none=>rfl
    | some x=>exact absurd (hg _ _ _ (by rw[hh];simp)) (Nat.lt_irrefl G)
   have hn:=h.JO dA sz 2;refine⟨_,hn.2,hn.1,fun r g p hp=>?_,?_⟩
   ·unfold dB at hp;split at hp
    ·rename_i e;rw[e.2];exact Nat.lt_succ_self G
    exact Nat.lt_succ_of_lt (hg _ _ _ hp)
   exact .aw (800000+G) G [] sz 0 0 ⟨none,0⟩ none (by simp[dB]) (.inl rfl) (aR _)
  exact same
 exact same
theorem Q0:∀{us cs:List AV}{vs:List Value}{rd:RD}{φ:cj}{O:Nat->Prop}{w0 w:World}{σ:ak}{G:Nat},bc rd φ O w0 σ w->(∀r g p,φ r g p≠none->g<G)->PW rd φ cs vs->
  AL rd φ O w0 w (fun φ'=>PW rd φ' (u7 us cs σ G).1 vs) (u7 us cs σ G).2.1 (u7 us cs σ G).2.2
 | u::us,c::cs,vs,rd,φ,O,w0,w,σ,G,h,hg,hp=>by
  obtain⟨v,vs,rfl,hr,hp⟩:=hp.kV;obtain⟨φ1,x1,h1,g1,v1⟩:=Q1 (u:=u) h hg hr;obtain⟨φ2,x2,h2,g2,v2⟩:=Q0 (us:=us) h1 g1 (hp.mono (fun _ _ _ h=>h) x1);exact⟨φ2,fun r g p pl hh=>x2 _ _ _ _ (x1 _ _ _ _ hh),h2,g2,PW.cons (v1.mono (fun _ _ _ h=>h) x2) v2⟩
 | [],cs,vs,rd,φ,O,w0,w,σ,G,h,hg,hp=>⟨φ,fun _ _ _ _ h=>h,h,hg,hp⟩
 | _::_,[],vs,rd,φ,O,w0,w,σ,G,h,hg,hp=>⟨φ,fun _ _ _ _ h=>h,h,hg,hp⟩
theorem QY {rd:RD}{φ:cj}{O:Nat->Prop}{w0 w:World}{σ:ak}{u c:AV}{v:Value}{G:Nat}(h:bc rd φ O w0 σ w) (hg:∀r g p,φ r g p≠none->g<G) (hv:aL rd φ c v):
  AL rd φ O w0 w (fun φ'=>aL rd φ' (u6 u c σ G).1 v) (u6 u c σ G).2.1 (u6 u c σ G).2.2:=by
 unfold u6;split
 ·split
  ·obtain⟨arr,rfl,hp⟩:=PW.mM hv;obtain⟨φ1,x1,h1,g1,v1⟩:=Q0 h hg hp;exact⟨φ1,x1,h1,g1,PW.agg v1⟩
  exact⟨φ,fun _ _ _ _ h=>h,h,hg,hv⟩
 exact Q1 h hg hv
def ny:List AV->List AV->ak->Nat->List AV × ak × Nat
 | u::us,v::vs,σ,G=>match u6 u v σ G with
  | (v',σ',G')=>match ny us vs σ' G' with
   | (po,x)=>(v'::po,x)
 | _,vs,σ,G=>(vs,σ,G)
def uP (res:AV):List AV->List AV
 | [_]=>[res]
 | _=>match res with
  | .aZ us=>us
  | _=>[]
theorem JK:∀{us cs:List AV}{vs:List Value}{rd:RD}{φ:cj}{O:Nat->Prop}{w0 w:World}{σ:ak}{G:Nat},bc rd φ O w0 σ w->(∀r g p,φ r g p≠none->g<G)->PW rd φ cs vs->
  (ny us cs σ G).1.length=cs.length/\AL rd φ O w0 w (fun φ'=>PW rd φ' (ny us cs σ G).1 vs) (ny us cs σ G).2.1 (ny us cs σ G).2.2
 | u::us,c::cs,vs,rd,φ,O,w0,w,σ,G,h,hg,hp=>by
  obtain⟨v,vs,rfl,hr,hp⟩:=hp.kV;obtain⟨φ1,x1,h1,g1,v1⟩:=QY (u:=u) h hg hr;obtain⟨hl,φ2,x2,h2,g2,v2⟩:=JK (us:=us) h1 g1 (hp.mono (fun _ _ _ h=>h) x1);exact⟨by simp only[ny,List.length_cons,hl],φ2,fun r g p pl hh=>x2 _ _ _ _ (x1 _ _ _ _ hh),h2,g2,PW.cons (v1.mono (fun _ _ _ h=>h) x2) v2⟩
 | [],cs,vs,rd,φ,O,w0,w,σ,G,h,hg,hp=>⟨rfl,φ,fun _ _ _ _ h=>h,h,hg,hp⟩
 | _::_,[],vs,rd,φ,O,w0,w,σ,G,h,hg,hp=>⟨rfl,φ,fun _ _ _ _ h=>h,h,hg,hp⟩
theorem QZ {rd:RD}{φ:cj}{O:Nat->Prop}{w0 w:World}{σ:ak}{us cs:List AV}{v:Value}{G:Nat}(h:bc rd φ O w0 σ w) (hg:∀r g p,φ r g p≠none->g<G) (hv:aL rd φ (qk cs) v):
  AL rd φ O w0 w (fun φ'=>aL rd φ' (qk (ny us cs σ G).1) v) (ny us cs σ G).2.1 (ny us cs σ G).2.2:=by
 by_cases hl:cs.length=1
 ·match cs,hl with
  | [c],_=>
   have hp:PW rd φ [c] [v]:=PW.cons hv ⟨rfl,fun j c hc=>by simp at hc⟩;obtain⟨hlen,φ',x1,h1,g1,v1⟩:=JK (us:=us) h hg hp;refine⟨φ',x1,h1,g1,?_⟩;generalize (ny us [c] σ G).1=bH at *
   match bH,hlen with
   | [c'],_=>
    obtain⟨v',po,e,hr,-⟩:=v1.kV;cases e;exact hr
 rw[Fq hl]at hv;obtain⟨arr,rfl,hp⟩:=PW.tS hv;obtain⟨hlen,φ',x1,h1,g1,v1⟩:=JK (us:=us) h hg hp;exact⟨φ',x1,h1,g1,by rw[Fq (by rw[hlen];exact hl)];exact PW.aZ v1⟩
def Ic (res:AV) (rf:List (List Nat × Row)):List AV × ak × Nat->Prop
 | (vs,σ,_)=>match C7 σ res vs with
  | some (σ1,wN)=>match LI σ1 wN with
   | some (v,l)=>wq l=true/\v=res/\rowsOf l=rf
   | none=>False
  | none=>False
def Ib (P:Program) (fn:Func) (s:St) (res:AV) (rf:List (List Nat × Row)):Prop:=
 match tu P s fn.results.toList with
 | some vs=>Ic res rf (ny (uP res vs) vs s.σ s.G)
 | none=>False
def PM (P:Program) (fn:Func) (res:AV) (rf:List (List Nat × Row)):Exit->St->Prop
 | .ret,s=>Ib P fn s res rf
 | .normal,s=>Ib P fn s res rf
 | _,_=>False
def mB:Nat->List AV->List (Nat × AV)
 | _,[]=>[]
 | k,v::vs=>(k,v)::mB (k+1) vs
theorem Ki:∀(vs:List AV) (k t:Nat) (v:AV),bE (mB k vs) t=some v->k<=t/\vs[t - k]?=some v
 | [],k,t,v,h=>by cases h
 | x::vs,k,t,v,h=>by
  simp only[mB,gR]at h;split at h
  ·rename_i e;subst e;cases h;exact⟨Nat.le_refl _,by simp⟩
  obtain⟨h1,h2⟩:=Ki vs (k+1) t v h;refine⟨by omega,?_⟩;rw[show t - k=(t - (k+1))+1 by omega,List.getElem?_cons_succ];exact h2
theorem afA {P:Program}{n:Nat}{fn:Func}(hf:P.funcs[n]?=some fn) {code:Code}(hb:fn.body=some code) (hn:(fn.name== "runtime.NumGoroutine")=false)
  {args:List AV} {res:AV} {rf:List (List Nat × Row)} (hlen:args.length<=fn.ntmps)
  (hv:vc P code ⟨fn.ntmps,mB 0 args,[],0⟩ (PM P fn res rf)):ba P n args res rf:=by
 refine⟨⟨fn,hf,hn,by rw[hb];rfl⟩,fun w rd ew nE fL=>?_⟩;have dv:ew.size=args.length:=by rw[fL.1];simp
 have fj:Rel rd (fun _ _ _=>none) (fun _=>False) w ⟨fn.ntmps,mB 0 args,[],0⟩ {tmps:=ew++Array.replicate (fn.ntmps - ew.size) undef,defers:=[]} w:=by
  refine⟨⟨?_,?_,nE,?_,?_,fun _ _ _=>rfl,Nat.le_refl _,rfl,rfl,rfl⟩,?_,by simp;omega,rfl,fun r g p hp=>absurd rfl hp⟩
  ·intro r g p row hr;simp[rowAt,bE]at hr
  ·intro r g p row r' g' p' cC pl cZ b q q' hr;simp[rowAt,bE]at hr
  ·intro r g p row pl b q hr;simp[rowAt,bE]at hr
  ·intro r g p row pl b q hr;simp[rowAt,bE]at hr
  intro t v hl;obtain⟨_,h2⟩:=Ki _ _ _ _ hl;obtain⟨cv,h3,h4⟩:=fL.2 t v (by simpa using h2);have h5:ew[t]?=some cv:=by simpa using h3
  have ht:t<ew.size:=by
   rcases bp t ew.size with hx|hx
   ·exact hx
   rw[Array.getElem?_eq_none hx]at h5;cases h5
  have:(ew++Array.replicate (fn.ntmps - ew.size) undef).getD t undef=cv:=by
   rw[Array.getD_eq_getD_getElem?,Array.getElem?_append_left ht,h5];rfl
  rw[this];exact h4
 refine calls_of_wp hf hb (wp_mono (sk (rd:=((rd,fun _ _ _=>none):kQ)) (O:=fun _=>False) (w0:=w) code _ _ hv _ _ ⟨rd,_,.refl,fj⟩) ?_);rintro e a w' ⟨s,hk,eh,φ,hx,hr⟩;have fin:Ib P fn s res rf->a.defers=[]/\∃v,(results fn a.tmps).run P w'=.ok v w'/\∃v' rd' ψ,Ending.returned v=.returned v'/\Ext (fun _=>False) w rd rd'/\bc rd' (kg ψ) (fun _=>False) w (l5 rf) w'/\aL rd' (kg ψ) res v':=by
  intro hk;unfold Ib at hk;split at hk
  ·rename_i vs nB;obtain⟨v,eS,og⟩:=PN hr nB;obtain⟨φ,x0,hh,-,og⟩:=QZ (us:=uP res vs) hr.heap hr.gen og;generalize ny (uP res vs) vs s.σ s.G=X at hk hh og;obtain⟨Om,σ0,G0⟩:=X;unfold Ic at hk;simp only at hk hh og;split at hk
   ·rename_i σ1 wN iG;split at hk
    ·rename_i v0 l hg;obtain⟨k1,k2,k3⟩:=hk;obtain⟨dV,x2,h2,v2⟩:=Tu hh og iG;obtain⟨g1,g2⟩:=adR v2 hg;refine⟨hr.defers,v,eS,v,dV,zi φ l,rfl,hx.1.trans x2,?_,?_⟩
     ·rw[<-k3];exact h2.back g1 k1
     rw[<-k2];exact g2 _ (Jq k1)
    cases hk
   cases hk
  cases hk
 cases e with
 | ret=>exact fin hk
 | normal=>exact fin hk
 | _=>cases hk
def Jc (σ:ak) (σout:ak) (vs:List AV):eg:=na false σ 1 30 0 (wQ σout) (JJ vs++Bl σ (wQ σout))
def NI (L:eg) (σ1:ak) (v:AV) (res:AV) (σout:ak):Prop:=(mC L=true/\Bd L=true)/\mI σ1 (iF L) L=some σout/\zx (iF L) v=res
def NH (res:AV) (σout:ak):List AV × ak × Nat->Prop
 | (vs,σ,_)=>match C7 σ res vs with
  | some (σ1,wN)=>NI (Jc σ1 σout wN) σ1 (qk wN) res σout
  | none=>False
def mG (P:Program) (rs:List ResultVar) (s:St) (res:AV) (σout:ak):Prop:=
 match tu P s rs with
 | some vs=>NH res σout (ny (uP res vs) vs s.σ s.G)
 | none=>False
def Zt (P:Program) (rs:List ResultVar) (res:AV) (σout:ak):Exit->St->Prop
 | .ret,s=>mG P rs s res σout
 | .normal,s=>mG P rs s res σout
 | _,_=>False
theorem Ms {P:Program}{n:Nat}{fn:Func}(hf:P.funcs[n]?=some fn) {code:Code}(hb:fn.body=some code) (hn:(fn.name== "runtime.NumGoroutine")=false)
  {σin:ak} {args:List AV} {res:AV} {σout:ak} (hlen:args.length<=fn.ntmps)
  (hv:vc P code ⟨fn.ntmps,mB 0 args,σin,1⟩ (Zt P fn.results.toList res σout)):aY P n σin args res σout:=by
 refine⟨⟨fn,hf,hn,by rw[hb];rfl⟩,fun w rd φ ew qC hh fL=>?_⟩;have dv:ew.size=args.length:=by rw[fL.1];simp
 have fj:Rel rd φ (ic φ σin) w ⟨fn.ntmps,mB 0 args,σin,1⟩ {tmps:=ew++Array.replicate (fn.ntmps - ew.size) undef,defers:=[]} w:=by
  refine⟨hh,?_,by simp;omega,rfl,fun r g p hp=>by have:=qC r g p hp;show g<1;omega⟩;intro t v hl;obtain⟨_,h2⟩:=Ki _ _ _ _ hl;obtain⟨cv,h3,h4⟩:=fL.2 t v (by simpa using h2);have h5:ew[t]?=some cv:=by simpa using h3
  have ht:t<ew.size:=by
   rcases bp t ew.size with hx|hx
   ·exact hx
   rw[Array.getElem?_eq_none hx]at h5;cases h5
  have:(ew++Array.replicate (fn.ntmps - ew.size) undef).getD t undef=cv:=by
   rw[Array.getD_eq_getD_getElem?,Array.getElem?_append_left ht,h5];rfl
  rw[this];exact h4
 refine calls_of_wp hf hb (wp_mono (sk (rd:=(rd,φ)) (O:=ic φ σin) (w0:=w) code _ _ hv _ _ ⟨rd,φ,.refl,fj⟩) ?_);rintro e a w' ⟨s,hk,eh,φ1,hx,hr⟩;have fin:mG P fn.results.toList s res σout->a.defers=[]/\∃v,(results fn a.tmps).run P w'=.ok v w'/\∃v' rd' φ',Ending.returned v=.returned v'/\Ext (ic φ σin) w rd rd'/\(∀r p pl,φ r 0 p=some pl->1000000<=r->φ' r 0 p=some pl)/\bc rd' φ' (ic φ σin) w σout w'/\aL rd' φ' res v':=by
  intro hk;unfold mG at hk;split at hk
  ·rename_i vs nB;obtain⟨v,eS,og⟩:=PN hr nB;obtain⟨φ2,x0,hh,-,og⟩:=QZ (us:=uP res vs) hr.heap hr.gen og;generalize ny (uP res vs) vs s.σ s.G=X at hk hh og;obtain⟨Om,σ0,G0⟩:=X;unfold NH at hk;simp only at hk hh og;split at hk
   ·rename_i σ1 wN iG;unfold NI at hk;generalize Jc σ1 σout wN=L at hk;obtain⟨⟨hd,aD⟩,acZ,Gy⟩:=hk;obtain⟨dV,x2,h2,v2⟩:=Tu hh og iG;refine⟨hr.defers,v,eS,v,dV,xh φ2 L,rfl,hx.1.trans x2,fun r p pl e fZ=>Qs aD r p pl (x0 _ _ _ _ (hx.2 r p pl e fZ)) fZ,(h2.E1 hd acZ).Qt Fp,?_⟩;rw[<-Gy];exact(J0 (zm hd) v2).mono (fun _ _ _ h=>h) Fp
   cases hk
  cases hk
 cases e with
 | ret=>exact fin hk
 | normal=>exact fin hk
 | _=>cases hk
end
end Go.Proofs.YtobpfkgabdeefaaGreat.E
