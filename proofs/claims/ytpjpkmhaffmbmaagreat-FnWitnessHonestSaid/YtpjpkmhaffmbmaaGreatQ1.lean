/- An evaluator of the model's code, proved sound (E2): V W X Z N Q O P H. -/
import Derived.Test.YtpjpkmhaffmbmaaGreatQ0
import Derived.Carry
import Derived.WideKeyRuns
import Derived.Orders
import Derived.Lib.ConvBytes
import Derived.Laws.RangeString
import Derived.ChangeMaps4
section
namespace Go.Proofs.YtpjpkmhaffmbmaaGreat.E
open Go Go.RowKit
set_option linter.unusedVariables false
abbrev NF:=Nat→Nat→Option (Nat × Nat)
def zna (N:NF):AV→AV
 | .blk r g p sz off len=>match N r g with
  | some x=>.blk x.1 x.2 p sz off len
  | none=>.dead
 | .ptr r g p sz i o=>match N r g with
  | some x=>.ptr x.1 x.2 p sz i o
  | none=>.dead
 | .mr r g p=>match N r g with
  | some x=>.mr x.1 x.2 p
  | none=>.dead
 | .agg _=>.dead
 | .tup _=>.dead
 | v=>v
def zoq (N:NF):AV→AV
 | .agg cs=>.agg (cs.map (zna N))
 | v=>zna N v
def zpM (N:NF):AV→AV
 | .tup vs=>.tup (vs.map (zoq N))
 | v=>zoq N v
def qs (N:NF) (row:Row):Row:=match Nat.ble 1 row.fl with
 | true=>row
 | false=>⟨row.sz,row.es.map fun e=>e.map (zna N),row.fl,row.ao⟩
def zqS (N:NF) (f:jQ):jQ:=fun p=>match f p with
 | some row=>some (qs N row)
 | none=>none
theorem zl4 {N:NF} {row:Row}:zqS N (one row)=one (qs N row):=by
 funext p
 cases p<;>rfl
def qV (N:NF) (φ φ':Phi):Prop:=∀r g x p pl,N r g=some x→φ r g p=some pl→φ' x.1 x.2 p=some pl
section
variable {P:Program} {rd:RD} {φ φ':Phi} {O:Nat→Prop} {w0 w:World} {σ σ':Sig} {N:NF}
theorem zd0 (hN:qV N φ φ') {c:AV} {v:Value} (h:VRel rd φ c v):VRel rd φ' (zna N c) v:=by
 cases h with
 | blk r g p sz off len pl A hφ hA hl=>
  simp only [zna]
  split
  ·rename_i x hx;exact .blk _ _ p sz off len pl A (hN _ _ _ _ _ hx hφ) hA hl
  ·exact .dead _
 | ptr r g p sz i o pl b q hφ had=>
  simp only [zna]
  split
  ·rename_i x hx;exact .ptr _ _ p sz i o pl b q (hN _ _ _ _ _ hx hφ) had
  ·exact .dead _
 | dead v=>exact .dead v
 | sc v h=>exact .sc v h
 | nilS=>exact .nilS
 | ro0 sz A cap=>exact .ro0 sz A cap
 | ro sz es b q cap f hc hs hr hv=>exact (VRel.ro sz es b q cap f hc hs hr hv).of_sf rfl
 | rp cs b q f hs hr hv=>exact (VRel.rp cs b q f hs hr hv).of_sf rfl
 | agg=>exact .dead _
 | tup=>exact .dead _
 | it r=>exact .it r
 | mr r g p pl b hφ had=>
  simp only [zna]
  cases hn:N r g with
  | none=>exact .dead _
  | some x=>exact .mr _ _ p pl b (hN _ _ _ _ _ hn hφ) had
theorem zbk (hN:qV N φ φ') {c:AV} {v:Value} (h:VRel rd φ c v):VRel rd φ' (zoq N c) v:=by
 cases c with
 | agg cs=>
  obtain ⟨arr,rfl,hp⟩:=PW.of_agg h
  exact PW.agg (hp.map (zd0 hN))
 | _=>exact zd0 hN h
theorem zdY (hN:qV N φ φ') {c:AV} {v:Value} (h:VRel rd φ c v):VRel rd φ' (zpM N c) v:=by
 cases c with
 | tup cs=>
  obtain ⟨arr,rfl,hp⟩:=PW.of_tup h
  exact PW.tup (hp.map (zbk hN))
 | _=>exact zbk hN h
theorem ze2 (N:NF) (row:Row):(qs N row).sz=row.sz∧(qs N row).es.length=row.es.length∧(qs N row).ao=row.ao:=by
 unfold qs
 split
 ·exact ⟨rfl,rfl,rfl⟩
 ·exact ⟨rfl,by simp,rfl⟩
theorem RowOK.map (hN:qV N φ φ') {pl:Pl} {row:Row} (h:RowOK rd φ w pl row):RowOK rd φ' w pl (qs N row):=by
 unfold qs
 split
 ·rename_i hf
  have hf:=Nat.le_of_ble_eq_true hf
  refine ⟨h.wide,h.len,h.kind,h.nil,h.room,fun b q had i j c hc=>?_,h.frz,h.mp⟩
  obtain ⟨v,hv,hr⟩:=h.cells b q had i j c hc
  refine ⟨v,hv,hr.of_sf ?_⟩
  cases he:row.es[i]? with
  | none=>rw [he] at hc;cases hc
  | some e=>
   rw [he] at hc
   have:=(h.kind e (List.mem_of_getElem? he)).1 hf c (List.mem_of_getElem? hc)
   cases c<;>first | rfl | cases this
 ·rename_i hf
  have hf0:row.fl=0:=by
   rcases Nat.eq_zero_or_pos row.fl with h0 | h0
   ·exact h0
   ·rw [Nat.ble_eq_true_of_le h0] at hf;cases hf
  refine ⟨fun e he=>?_,by simpa using h.len,fun e he=>⟨fun h1=>?_,fun h1=>?_⟩,h.nil,h.room,fun b q had i j c hc=>?_,fun ha=>?_,zm4 (by show row.fl<3;omega)⟩
  ·obtain ⟨e',he',rfl⟩:=List.mem_map.1 he
   simpa using h.wide e' he'
  ·simp only at h1;omega
  ·simp only at h1;omega
  ·simp only [List.getElem?_map] at hc
   cases he:row.es[i]? with
   | none=>rw [he] at hc;cases hc
   | some e=>
    rw [he] at hc
    simp only [Option.map_some,Option.bind_some,List.getElem?_map] at hc
    obtain ⟨c',hc',rfl⟩:=Option.map_eq_some_iff.1 hc
    obtain ⟨v,hv,hr⟩:=h.cells b q had i j c' (by rw [he];exact hc')
    exact ⟨v,hv,zd0 hN hr⟩
  ·have:=(h.frz ha).1
   omega
theorem zeJ {σ:Sig} {r g g':Nat} {p p':List Nat} {row row':Row} (h:zo σ r g p=some row) (k:zo σ r g' p'=some row'):g=g':=by
 unfold zo at h k
 cases hl:zz σ r with
 | none=>rw [hl] at h;cases h
 | some x=>
  rw [hl] at h k
  simp only at h k
  split at h
  ·split at k
   ·rename_i h1 h2;exact h1.symm.trans h2
   ·cases k
  ·cases h
theorem HRel.ren (h:HRel rd φ O w0 σ w) (hN:qV N φ φ')
  (hσ:∀r' g' p row',zo σ' r' g' p=some row'→∃r g row,zo σ r g p=some row∧N r g=some (r',g')∧row'=qs N row):HRel rd φ' O w0 σ' w:=by
 refine ⟨?_,?_,h.rdok,?_,?_,h.frame,h.size,h.os,h.tape,h.output⟩
 ·intro r' g' p row' hr
  obtain ⟨r,g,row,h1,h2,rfl⟩:=hσ _ _ _ _ hr
  obtain ⟨pl,h3,h4⟩:=h.rows _ _ _ _ h1
  exact ⟨pl,hN _ _ _ _ _ h2 h3,h4.map hN⟩
 ·intro r' g' p row' r2' g2' p2 row2' pl pl2 b q q2 e1 e2 e3 e4 e5 e6
  obtain ⟨r,g,row,h1,h2,rfl⟩:=hσ _ _ _ _ e1
  obtain ⟨r2,g2,row2,k1,k2,rfl⟩:=hσ _ _ _ _ e2
  obtain ⟨pl1,h3,_⟩:=h.rows _ _ _ _ h1
  obtain ⟨pl3,k3,_⟩:=h.rows _ _ _ _ k1
  rw [hN _ _ _ _ _ h2 h3] at e3
  rw [hN _ _ _ _ _ k2 k3] at e4
  cases e3
  cases e4
  obtain ⟨rfl,rfl⟩:=h.sep _ _ _ _ _ _ _ _ _ _ _ _ _ h1 k1 h3 k3 e5 e6
  have:=zeJ h1 k1
  subst this
  rw [h2] at k2
  cases k2
  exact ⟨rfl,rfl⟩
 ·intro r' g' p row' pl b q e1 e2 e3 k hor
  obtain ⟨r,g,row,h1,h2,rfl⟩:=hσ _ _ _ _ e1
  obtain ⟨pl1,h3,_⟩:=h.rows _ _ _ _ h1
  rw [hN _ _ _ _ _ h2 h3] at e2
  cases e2
  obtain ⟨m1,m2,m3⟩:=ze2 N row
  rw [m1,m2,m3] at hor
  exact h.rdsep _ _ _ _ _ _ _ h1 h3 e3 k hor
 ·intro r' g' p row' pl b q e1 e2 e3
  obtain ⟨r,g,row,h1,h2,rfl⟩:=hσ _ _ _ _ e1
  obtain ⟨pl1,h3,_⟩:=h.rows _ _ _ _ h1
  rw [hN _ _ _ _ _ h2 h3] at e2
  cases e2
  exact h.own _ _ _ _ _ _ _ h1 h3 e3
abbrev Asc:=List ((Nat × Nat) × (Nat × Nat))
def lkN:Asc→NF
 | [],_,_=>none
 | x::l,r,g=>match x.1.1==r with
  | true=>match Nat.beq x.1.2 g with
   | true=>some x.2
   | false=>lkN l r g
  | false=>lkN l r g
def lkB:Asc→NF
 | [],_,_=>none
 | x::l,r,g=>match x.2.1==r with
  | true=>match Nat.beq x.2.2 g with
   | true=>some x.1
   | false=>lkB l r g
  | false=>lkB l r g
def zeN (σ:Sig) (N:NF):Asc→Option Sig
 | []=>some []
 | x::l=>(zz σ x.1.1).bind fun gf=>match Nat.beq gf.1 x.1.2 with
  | true=>(gf.2 []).bind fun _=>(zeN σ N l).map fun s=>(x.2.1,(x.2.2,zqS N gf.2))::s
  | false=>none
def zrq (l:Asc) (r:Nat):Bool:=l.any fun x=>x.1.1==r
def hasT (l:Asc) (r:Nat):Bool:=l.any fun x=>x.2.1==r
def je:Asc→Bool
 | []=>true
 | x::l=>match zrq l x.1.1,hasT l x.2.1 with
  | false,false=>je l
  | _,_=>false
theorem zd4 {l:Asc} {r g:Nat} {x:Nat × Nat} (h:lkN l r g=some x):((r,g),x)∈l:=by
 induction l with
 | nil=>cases h
 | cons y l ih=>
  simp only [lkN] at h
  split at h
  ·rename_i h1
   split at h
   ·rename_i h2
    cases h
    have h1:y.1.1=r:=by simpa using h1
    have h2:y.1.2=g:=Nat.eq_of_beq_eq_true h2
    subst h1;subst h2
    simp
   ·exact List.mem_cons_of_mem _ (ih h)
  ·exact List.mem_cons_of_mem _ (ih h)
theorem zcg {l:Asc} {r g:Nat} {x:Nat × Nat} (h:lkB l r g=some x):(x,(r,g))∈l:=by
 induction l with
 | nil=>cases h
 | cons y l ih=>
  simp only [lkB] at h
  split at h
  ·rename_i h1
   split at h
   ·rename_i h2
    cases h
    have h1:y.2.1=r:=by simpa using h1
    have h2:y.2.2=g:=Nat.eq_of_beq_eq_true h2
    subst h1;subst h2
    simp
   ·exact List.mem_cons_of_mem _ (ih h)
  ·exact List.mem_cons_of_mem _ (ih h)
theorem zdu {l:Asc} {r:Nat} (h:zrq l r=false) {x:(Nat × Nat) × (Nat × Nat)} (hx:x∈l):x.1.1≠r:=by
 intro e
 have:zrq l r=true:=List.any_eq_true.2 ⟨x,hx,by simp [e]⟩
 rw [this] at h;cases h
theorem zdt {l:Asc} {r:Nat} (h:hasT l r=false) {x:(Nat × Nat) × (Nat × Nat)} (hx:x∈l):x.2.1≠r:=by
 intro e
 have:hasT l r=true:=List.any_eq_true.2 ⟨x,hx,by simp [e]⟩
 rw [this] at h;cases h
theorem zaJ:∀{l:Asc},je l=true→∀x∈l,∀y∈l,(x.1.1=y.1.1∨x.2.1=y.2.1)→x=y
 | [],_,x,hx,_,_,_=>by simp at hx
 | z::l,h,x,hx,y,hy,e=>by
  simp only [je] at h
  split at h
  ·rename_i h1 h2
   rcases List.mem_cons.1 hx with hx1 | hx1<;>rcases List.mem_cons.1 hy with hy1 | hy1
   ·rw [hx1,hy1]
   ·subst hx1
    rcases e with e | e
    ·exact absurd e.symm (zdu h1 hy1)
    ·exact absurd e.symm (zdt h2 hy1)
   ·subst hy1
    rcases e with e | e
    ·exact absurd e (zdu h1 hx1)
    ·exact absurd e (zdt h2 hx1)
   ·exact zaJ h x hx1 y hy1 e
  ·cases h
theorem zdo {l:Asc} (hd:je l=true) {x:(Nat × Nat) × (Nat × Nat)} (hx:x∈l):lkN l x.1.1 x.1.2=some x.2:=by
 induction l with
 | nil=>simp at hx
 | cons y l ih=>
  have hall:=zaJ hd
  simp only [lkN]
  by_cases h1:y.1.1=x.1.1
  ·have:y=x:=hall y (by simp) x hx (.inl h1)
   subst this
   simp
  ·have h2:(y.1.1==x.1.1)=false:=by simpa using h1
   rw [h2]
   have hx':x∈l:=by
    rcases List.mem_cons.1 hx with e | e
    ·exact absurd (by rw [e]) h1
    ·exact e
   refine ih ?_ hx'
   simp only [je] at hd
   split at hd
   ·exact hd
   ·cases hd
theorem zdp {l:Asc} (hd:je l=true) {x:(Nat × Nat) × (Nat × Nat)} (hx:x∈l):lkB l x.2.1 x.2.2=some x.1:=by
 induction l with
 | nil=>simp at hx
 | cons y l ih=>
  have hall:=zaJ hd
  simp only [lkB]
  by_cases h1:y.2.1=x.2.1
  ·have:y=x:=hall y (by simp) x hx (.inr h1)
   subst this
   simp
  ·have h2:(y.2.1==x.2.1)=false:=by simpa using h1
   rw [h2]
   have hx':x∈l:=by
    rcases List.mem_cons.1 hx with e | e
    ·exact absurd (by rw [e]) h1
    ·exact e
   refine ih ?_ hx'
   simp only [je] at hd
   split at hd
   ·exact hd
   ·cases hd
def zda (φ:Phi) (L:Asc):Phi:=fun r g p=>match lkB L r g with
 | some x=>φ x.1 x.2 p
 | none=>none
theorem xd {L:Asc} (hd:je L=true):qV (lkN L) φ (zda φ L):=by
 intro r g x p pl hx hp
 have:=zdp hd (zd4 hx)
 simp only at this
 simp only [zda,this,hp]
theorem zbL {N:NF}:∀{L:Asc} {σ':Sig},zeN σ N L=some σ'→∀r' g' p row',zo σ' r' g' p=some row'→∃x∈L,∃row,x.2=(r',g')∧zo σ x.1.1 x.1.2 p=some row∧row'=qs N row
 | [],σ',h,r',g',p,row',hr=>by cases h;simp [zo,zz] at hr
 | y::L,σ',h,r',g',p,row',hr=>by
  simp only [zeN] at h
  obtain ⟨gf,h1,h2⟩:=Option.bind_eq_some_iff.1 h
  split at h2
  ·rename_i hb
   obtain ⟨row0,h0,h2⟩:=Option.bind_eq_some_iff.1 h2
   obtain ⟨s,h3,rfl⟩:=Option.map_eq_some_iff.1 h2
   have hb:=Nat.eq_of_beq_eq_true hb
   unfold zo at hr
   rw [zA] at hr
   by_cases hk:y.2.1=r'
   ·rw [if_pos hk] at hr
    simp only at hr
    split at hr
    ·rename_i hg
     unfold zqS at hr
     split at hr
     ·rename_i row hrow
      cases hr
      refine ⟨y,by simp,row,by rw [←hk,←hg],?_,rfl⟩
      unfold zo
      rw [h1]
      simp [hb,hrow]
     ·cases hr
    ·cases hr
   ·rw [if_neg hk] at hr
    obtain ⟨x,hx,row,e1,e2,e3⟩:=zbL h3 r' g' p row' hr
    exact ⟨x,List.mem_cons_of_mem _ hx,row,e1,e2,e3⟩
  ·cases h2
theorem jD {N:NF}:∀{L:Asc} {σ':Sig},zeN σ N L=some σ'→∀x∈L,∃row,zo σ x.1.1 x.1.2 []=some row
 | [],_,_,x,hx=>by simp at hx
 | y::L,σ',h,x,hx=>by
  simp only [zeN] at h
  obtain ⟨gf,h1,h2⟩:=Option.bind_eq_some_iff.1 h
  split at h2
  ·rename_i hb
   obtain ⟨row0,h0,h2⟩:=Option.bind_eq_some_iff.1 h2
   obtain ⟨s,h3,rfl⟩:=Option.map_eq_some_iff.1 h2
   have hb:=Nat.eq_of_beq_eq_true hb
   rcases List.mem_cons.1 hx with rfl | hx
   ·refine ⟨row0,?_⟩
    unfold zo
    rw [h1]
    simp [hb,h0]
   ·exact jD h3 x hx
  ·cases h2
theorem HRel.renL (h:HRel rd φ O w0 σ w) {L:Asc} (hd:je L=true) (hr:zeN σ (lkN L) L=some σ'):HRel rd (zda φ L) O w0 σ' w:=
 h.ren (xd hd) fun r' g' p row' hrow=>by
  obtain ⟨x,hx,row,e1,e2,e3⟩:=zbL hr r' g' p row' hrow
  refine ⟨x.1.1,x.1.2,row,e2,?_,e3⟩
  rw [zdo hd hx,e1]
def zV (φ:Phi) (σ:Sig):Nat→Prop:=fun b=>∃r g p row pl q,zo σ r g p=some row∧φ r g p=some pl∧pl.ad=some (b,q)
theorem HRel.rebase (h:HRel rd φ O w0 σ w):HRel rd φ (zV φ σ) w σ w:=
 ⟨h.rows,h.sep,h.rdok,h.rdsep,fun r g p row pl b q h1 h2 h3=>⟨.inl ⟨r,g,p,row,pl,q,h1,h2,h3⟩,(h.own _ _ _ _ _ _ _ h1 h2 h3).2⟩,fun _ _ _=>rfl,Nat.le_refl _,rfl,rfl,rfl⟩
def zW (P:Program) (n:Nat) (σin:Sig) (args:List AV) (res:AV) (σout:Sig):Prop:=
 zls P n∧∀(w:World) (rd:RD) (φ:Phi) (cargs:Array Value),(∀r g p,φ r g p≠none→g=0)→HRel rd φ (zV φ σin) w σin w→PW rd φ args cargs.toList→
  Calls P n cargs w fun e w'=>∃v rd' φ',e=.returned v∧Ext (zV φ σin) w rd rd'∧(∀r p pl,φ r 0 p=some pl→1000000≤r→φ' r 0 p=some pl)∧HRel rd' φ' (zV φ σin) w σout w'∧VRel rd' φ' res v
def bkN (L:Asc) (d G:Nat):NF:=fun k g=>match decide (k<1000000) with
 | true=>match Nat.beq g 0 with
  | true=>some (d+10000 * k,G)
  | false=>none
 | false=>lkB L k g
def zmv:Sig→Nat→Sig
 | [],_=>[]
 | (k,v)::l,r=>match k==r with
  | true=>zmv l r
  | false=>(k,v)::zmv l r
def zo1 (σ:Sig):Asc→Sig
 | []=>σ
 | x::l=>zo1 (zmv σ x.1.1) l
def zmX (N:NF) (acc:Sig):Sig→Option Sig
 | []=>some acc
 | (k,(g0,f))::l=>match N k g0 with
  | some x=>zmX N (yD acc x.1 (x.2,zqS N f)) l
  | none=>none
def zfl:Sig→Bool
 | []=>true
 | (k,_)::l=>match l.any (fun x=>x.1==k) with
  | true=>false
  | false=>zfl l
theorem jF:∀(σ:Sig) (r m:Nat),zz (zmv σ r) m=if m=r then none else zz σ m
 | [],r,m=>by simp [zmv,zz]
 | (k,v)::l,r,m=>by
  simp only [zmv]
  split
  ·rename_i h
   have h:k=r:=by simpa using h
   subst h
   rw [jF l,zA]
   by_cases hm:m=k
   ·simp [hm]
   ·have:¬k=m:=fun e=>hm e.symm
    simp [hm,this]
  ·rename_i h
   have h:¬k=r:=by simpa using h
   rw [zA,zA,jF l]
   by_cases hk:k=m
   ·subst hk;simp [h]
   ·simp [hk]
theorem zc6:∀(L:Asc) {σ:Sig} {r g:Nat} {p:List Nat} {row:Row},zo (zo1 σ L) r g p=some row→zo σ r g p=some row∧∀x∈L,x.1.1≠r
 | [],_,_,_,_,_,h=>⟨h,by simp⟩
 | y::L,σ,r,g,p,row,h=>by
  obtain ⟨h1,h2⟩:=zc6 L (σ:=zmv σ y.1.1) h
  unfold zo at h1
  rw [jF] at h1
  split at h1
  ·rename_i x hx
   split at hx
   ·cases hx
   ·rename_i hne
    refine ⟨?_,fun z hz=>?_⟩
    ·unfold zo
     rw [hx]
     exact h1
    ·rcases List.mem_cons.1 hz with rfl | hz
     ·exact fun e=>hne e.symm
     ·exact h2 z hz
  ·cases h1
theorem za0:∀{σ:Sig},zfl σ=true→∀{k:Nat} {x:Nat × jQ},(k,x)∈σ→zz σ k=some x
 | [],_,_,_,h=>by simp at h
 | (k0,v)::l,hd,k,x,h=>by
  simp only [zfl] at hd
  split at hd
  ·cases hd
  ·rename_i hn
   rw [zA]
   rcases List.mem_cons.1 h with e | h
   ·cases e;simp
   ·rw [if_neg,za0 hd h]
    intro e
    subst e
    have:l.any (fun x=>x.1==k0)=true:=List.any_eq_true.2 ⟨_,h,by simp⟩
    rw [this] at hn;cases hn
theorem zeY {N:NF}:∀{l:Sig} {acc σ2:Sig},zmX N acc l=some σ2→∀{r g:Nat} {p:List Nat} {row':Row},zo σ2 r g p=some row'→
  (∃k g0 f row,(k,(g0,f))∈l∧N k g0=some (r,g)∧f p=some row∧row'=qs N row)∨zo acc r g p=some row'
 | [],_,_,h,_,_,_,_,hr=>by cases h;exact .inr hr
 | (k,(g0,f))::l,acc,σ2,h,r,g,p,row',hr=>by
  simp only [zmX] at h
  split at h
  ·rename_i x hx
   rcases zeY h hr with ⟨k1,g1,f1,row,h1,h2,h3,h4⟩ | h1
   ·exact .inl ⟨k1,g1,f1,row,List.mem_cons_of_mem _ h1,h2,h3,h4⟩
   ·rw [yo] at h1
    by_cases hr1:r=x.1
    ·rw [if_pos hr1] at h1
     split at h1
     ·rename_i hg
      unfold zqS at h1
      split at h1
      ·rename_i row hrow
       cases h1
       exact .inl ⟨k,g0,f,row,by simp,by rw [hx,hr1,←hg],hrow,rfl⟩
      ·cases h1
     ·cases h1
    ·rw [if_neg hr1] at h1
     exact .inr h1
  ·cases h
def zlp (φ φ':Phi) (L:Asc) (d G:Nat):Phi:=fun r g p=>match lkN L r g with
 | some x=>φ' x.1 x.2 p
 | none=>match decide (g=G) with
  | true=>match decide (r=d+10000 * ((r - d)/10000)) with
   | true=>φ' ((r - d)/10000) 0 p
   | false=>φ r g p
  | false=>φ r g p
theorem HRel.joinM {rd':RD} {w':World} {d G:Nat} {L:Asc} {σin σout σ2:Sig} (h:HRel rd φ O w0 σ w) (hgen:∀r g p,φ r g p≠none→g<G)
  (hL:∀x∈L,1000000≤x.2.1∧x.2.2=0) (hd:je L=true) (hin:zeN σ (lkN L) L=some σin) (hk:zfl σout=true)
  (hx:Ext (zV (zda φ L) σin) w rd rd') (hmono:∀r p pl,zda φ L r 0 p=some pl→1000000≤r→φ' r 0 p=some pl) (k:HRel rd' φ' (zV (zda φ L) σin) w σout w')
  (ho:zmX (bkN L d G) (zo1 σ L) σout=some σ2):
  HRel rd' (zlp φ φ' L d G) O w0 σ2 w'∧(∀r g p pl,φ r g p=some pl→zlp φ φ' L d G r g p=some pl)∧qV (bkN L d G) φ' (zlp φ φ' L d G)∧Ext O w0 rd rd':=by
 have halive:=jD hin
 have hgx:∀x∈L,x.1.2<G:=fun x hxm=>by
  obtain ⟨row,hrow⟩:=halive x hxm
  obtain ⟨pl,hp,_⟩:=h.rows _ _ _ _ hrow
  exact hgen _ _ [] (by rw [hp];simp)
 have hext:∀r g p pl,φ r g p=some pl→zlp φ φ' L d G r g p=some pl:=by
  intro r g p pl hp
  unfold zlp
  split
  ·rename_i x hxx
   have hm:=zd4 hxx
   have:=xd hd (φ:=φ) _ _ _ _ _ hxx hp
   obtain ⟨e1,e2⟩:=hL _ hm
   simp only at e1 e2
   rw [e2] at this ⊢
   exact hmono _ _ _ this e1
  ·split
   ·rename_i hg
    have hg:=of_decide_eq_true hg
    subst hg
    exact absurd (hgen _ _ _ (by rw [hp];simp)) (Nat.lt_irrefl _)
   ·exact hp
 have hM:qV (bkN L d G) φ' (zlp φ φ' L d G):=by
  intro r g x p pl hxx hp
  unfold bkN at hxx
  split at hxx
  ·rename_i hlt
   have hlt:=of_decide_eq_true hlt
   split at hxx
   ·rename_i hg
    have hg:=Nat.eq_of_beq_eq_true hg
    cases hxx
    subst hg
    unfold zlp
    have hno:lkN L (d+10000 * r) G=none:=by
     cases hl:lkN L (d+10000 * r) G with
     | none=>rfl
     | some y=>exact absurd (hgx _ (zd4 hl)) (Nat.lt_irrefl _)
    simp only [hno]
    have e:(d+10000 * r - d)/10000=r:=by omega
    rw [e]
    simp [hp]
   ·cases hxx
  ·have hm:=zcg hxx
   have hn:=zdo hd hm
   simp only at hn
   unfold zlp
   rw [hn]
   exact hp
 have hOc:∀b,zV (zda φ L) σin b→∃x∈L,∃p row pl q,zo σ x.1.1 x.1.2 p=some row∧φ x.1.1 x.1.2 p=some pl∧pl.ad=some (b,q):=by
  rintro b ⟨r,g,p,row,pl,q,h1,h2,h3⟩
  obtain ⟨x,hxm,row0,e1,e2,e3⟩:=zbL hin _ _ _ _ h1
  refine ⟨x,hxm,p,row0,pl,q,e2,?_,h3⟩
  have:=zdp hd hxm
  rw [e1] at this
  simp only [zda,this] at h2
  exact h2
 have hcase:∀{r g p row'},zo σ2 r g p=some row'→(∃k0 g0 row,zo σout k0 g0 p=some row∧bkN L d G k0 g0=some (r,g)∧row'=qs (bkN L d G) row)∨(zo σ r g p=some row'∧∀x∈L,x.1.1≠r):=by
  intro r g p row' hr
  rcases zeY ho hr with ⟨k0,g0,f,row,h1,h2,h3,h4⟩ | h1
  ·refine .inl ⟨k0,g0,row,?_,h2,h4⟩
   unfold zo
   rw [za0 hk h1]
   simp [h3]
  ·exact .inr (zc6 L h1)
 have hnotOc:∀{r g p row pl b q},zo σ r g p=some row→(∀x∈L,x.1.1≠r)→φ r g p=some pl→pl.ad=some (b,q)→¬zV (zda φ L) σin b:=by
  intro r g p row pl b q h1 h2 h3 h4 hb
  obtain ⟨x,hxm,p',row',pl',q',e1,e2,e3⟩:=hOc b hb
  exact h2 x hxm (h.sep _ _ _ _ _ _ _ _ _ _ _ _ _ e1 h1 e2 h3 e3 h4).1
 have hlt:∀{r g p row pl b q},zo σ r g p=some row→φ r g p=some pl→pl.ad=some (b,q)→b<w.heap.size:=fun h1 h2 h3=>(h.own _ _ _ _ _ _ _ h1 h2 h3).2
 have hownO:∀b,zV (zda φ L) σin b→O b∨w0.heap.size≤b:=by
  intro b hb
  obtain ⟨x,hxm,p',row',pl',q',e1,e2,e3⟩:=hOc b hb
  exact (h.own _ _ _ _ _ _ _ e1 e2 e3).1
 refine ⟨⟨?_,?_,k.rdok,?_,?_,?_,Nat.le_trans h.size k.size,k.os.trans h.os,k.tape.trans h.tape,k.output.trans h.output⟩,hext,hM,hx.1,fun b o hb hO=>hx.2 b o (Nat.lt_of_lt_of_le hb h.size) fun hc=>?_⟩
 ·intro r g p row' hr
  rcases hcase hr with ⟨k0,g0,row,h1,h2,rfl⟩ | ⟨h1,h2⟩
  ·obtain ⟨pl,h3,h4⟩:=k.rows _ _ _ _ h1
   exact ⟨pl,hM _ _ _ _ _ h2 h3,h4.map hM⟩
  ·obtain ⟨pl,h3,h4⟩:=h.rows _ _ _ _ h1
   refine ⟨pl,hext _ _ _ _ h3,(h4.of_same (fun b q had k'=>?_) fun b q had es ck e=>by rw [k.frame b (hlt h1 h3 had) (hnotOc h1 h2 h3 had)];exact e).mono hx.1 hext⟩
   have:=k.frame b (hlt h1 h3 had) (hnotOc h1 h2 h3 had)
   exact ⟨World.cell?_of_block this,World.frozen?_of_block this⟩
 ·intro r g p row r' g' p' row' pl pl' b q q' h1 h2 h3 h4 h5 h6
  rcases hcase h1 with ⟨k0,g0,row0,a1,a2,rfl⟩ | ⟨a1,a2⟩<;>rcases hcase h2 with ⟨k1,g1,row1,b1,b2,rfl⟩ | ⟨b1,b2⟩
  ·obtain ⟨pa,a3,_⟩:=k.rows _ _ _ _ a1
   obtain ⟨pb,b3,_⟩:=k.rows _ _ _ _ b1
   rw [hM _ _ _ _ _ a2 a3] at h3
   rw [hM _ _ _ _ _ b2 b3] at h4
   cases h3
   cases h4
   obtain ⟨rfl,rfl⟩:=k.sep _ _ _ _ _ _ _ _ _ _ _ _ _ a1 b1 a3 b3 h5 h6
   have:=zeJ a1 b1
   subst this
   rw [a2] at b2
   cases b2
   exact ⟨rfl,rfl⟩
  ·obtain ⟨pa,a3,_⟩:=k.rows _ _ _ _ a1
   rw [hM _ _ _ _ _ a2 a3] at h3
   cases h3
   obtain ⟨pb,b3,_⟩:=h.rows _ _ _ _ b1
   rw [hext _ _ _ _ b3] at h4
   cases h4
   rcases (k.own _ _ _ _ _ _ _ a1 a3 h5).1 with hh | hh
   ·exact absurd hh (hnotOc b1 b2 b3 h6)
   ·exact absurd (hlt b1 b3 h6) (by omega)
  ·obtain ⟨pb,b3,_⟩:=k.rows _ _ _ _ b1
   rw [hM _ _ _ _ _ b2 b3] at h4
   cases h4
   obtain ⟨pa,a3,_⟩:=h.rows _ _ _ _ a1
   rw [hext _ _ _ _ a3] at h3
   cases h3
   rcases (k.own _ _ _ _ _ _ _ b1 b3 h6).1 with hh | hh
   ·exact absurd hh (hnotOc a1 a2 a3 h5)
   ·exact absurd (hlt a1 a3 h5) (by omega)
  ·obtain ⟨pa,a3,_⟩:=h.rows _ _ _ _ a1
   obtain ⟨pb,b3,_⟩:=h.rows _ _ _ _ b1
   rw [hext _ _ _ _ a3] at h3
   rw [hext _ _ _ _ b3] at h4
   cases h3
   cases h4
   exact h.sep _ _ _ _ _ _ _ _ _ _ _ _ _ a1 b1 a3 b3 h5 h6
 ·intro r g p row' pl b q h1 h2 h3 i hor
  rcases hcase h1 with ⟨k0,g0,row0,a1,a2,rfl⟩ | ⟨a1,a2⟩
  ·obtain ⟨pa,a3,_⟩:=k.rows _ _ _ _ a1
   rw [hM _ _ _ _ _ a2 a3] at h2
   cases h2
   obtain ⟨m1,m2,m3⟩:=ze2 (bkN L d G) row0
   rw [m1,m2,m3] at hor
   exact k.rdsep _ _ _ _ _ _ _ a1 a3 h3 i hor
  ·obtain ⟨pa,a3,_⟩:=h.rows _ _ _ _ a1
   rw [hext _ _ _ _ a3] at h2
   cases h2
   rw [hx.2 b i (hlt a1 a3 h3) (hnotOc a1 a2 a3 h3)]
   exact h.rdsep _ _ _ _ _ _ _ a1 a3 h3 i hor
 ·intro r g p row' pl b q h1 h2 h3
  rcases hcase h1 with ⟨k0,g0,row0,a1,a2,rfl⟩ | ⟨a1,a2⟩
  ·obtain ⟨pa,a3,_⟩:=k.rows _ _ _ _ a1
   rw [hM _ _ _ _ _ a2 a3] at h2
   cases h2
   obtain ⟨e1,e2⟩:=k.own _ _ _ _ _ _ _ a1 a3 h3
   exact ⟨e1.elim (hownO b) fun e=>.inr (Nat.le_trans h.size e),e2⟩
  ·obtain ⟨pa,a3,_⟩:=h.rows _ _ _ _ a1
   rw [hext _ _ _ _ a3] at h2
   cases h2
   obtain ⟨e1,e2⟩:=h.own _ _ _ _ _ _ _ a1 a3 h3
   exact ⟨e1,Nat.lt_of_lt_of_le e2 k.size⟩
 ·intro b hb hO
  rw [k.frame b (Nat.lt_of_lt_of_le hb h.size) fun hc=>?_]
  ·exact h.frame b hb hO
  ·rcases hownO b hc with e | e
   ·exact hO e
   ·omega
 ·rcases hownO b hc with e | e
  ·exact hO e
  ·omega
end
end Go.Proofs.YtpjpkmhaffmbmaaGreat.E
end
section
namespace Go.Proofs.YtpjpkmhaffmbmaaGreat.E
open Go Go.RowKit
set_option linter.unusedVariables false
def nmsC:AV→List (Nat × Nat)
 | .blk r g _ _ _ _=>[(r,g)]
 | .ptr r g _ _ _ _=>[(r,g)]
 | .mr r g _=>[(r,g)]
 | _=>[]
def zqL:List AV→List (Nat × Nat)
 | []=>[]
 | c::cs=>nmsC c++zqL cs
def zqM:AV→List (Nat × Nat)
 | .agg cs=>zqL cs
 | v=>nmsC v
def zl0:List AV→List (Nat × Nat)
 | []=>[]
 | c::cs=>zqM c++zl0 cs
def nmsT:AV→List (Nat × Nat)
 | .tup vs=>zl0 vs
 | v=>zqM v
def zjS:List Bool→List AV→List (Nat × Nat)
 | true::ms,a::as=>zqM a++zjS ms as
 | false::ms,_::as=>zjS ms as
 | _,_=>[]
def inNm (x:Nat × Nat):List (Nat × Nat)→List (Nat × Nat)
 | []=>[x]
 | y::l=>match Nat.beq y.1 x.1 with
  | true=>y::l
  | false=>y::inNm x l
def inNs:List (Nat × Nat)→List (Nat × Nat)→List (Nat × Nat)
 | [],l=>l
 | x::xs,l=>inNs xs (inNm x l)
def nmsG (acc:List (Nat × Nat)):List (List AV)→List (Nat × Nat)
 | []=>acc
 | e::l=>nmsG (inNs (zqL e) acc) l
def nmsE:List (List AV)→List (Nat × Nat)
 | []=>[]
 | [e]=>zqL e
 | e::e'::l=>nmsG [] (e::e'::l)
def zm5 (row:Row):List (Nat × Nat):=match Nat.ble 1 row.fl with
 | true=>[]
 | false=>nmsE row.es
def zjp (σ:Sig) (x:Nat × Nat):Option (List (Nat × Nat)):=(zz σ x.1).bind fun gf=>match Nat.beq gf.1 x.2 with
 | true=>(gf.2 []).map zm5
 | false=>none
def tgt (keep:Bool) (k:Nat) (x:Nat × Nat):Nat × Nat:=match keep,Nat.ble 1000000 x.1 with
 | true,true=>x
 | _,_=>(k,0)
def zgB (keep:Bool) (σ:Sig) (st:Nat):Nat→Nat→Asc→List (Nat × Nat)→Asc
 | 0,_,acc,_=>acc
 | _,_,acc,[]=>acc
 | n+1,k,acc,x::t=>match zrq acc x.1 with
  | true=>zgB keep σ st n k acc t
  | false=>match zjp σ x with
   | some l=>zgB keep σ st n (k+st) (acc++[(x,tgt keep k x)]) (t++l)
   | none=>zgB keep σ st n k acc t
def zfT:Sig→Asc
 | []=>[]
 | (k,_)::l=>match Nat.ble 1000000 k with
  | true=>((k,0),(k,0))::zfT l
  | false=>zfT l
def zlJ (σ:Sig):Asc→List (Nat × Nat)
 | []=>[]
 | x::l=>(match zjp σ x.1 with | some l=>l | none=>[])++zlJ σ l
def zeC (L:Asc):Bool:=L.all fun x=>match Nat.ble 1000000 x.2.1 with
 | true=>Nat.beq x.1.1 x.2.1&&Nat.beq x.1.2 x.2.2
 | false=>true
def zrd (L:Asc):Bool:=L.all fun x=>Nat.ble 1000000 x.2.1&&Nat.beq x.2.2 0
def zcP (N:NF):Sig→List Bool→List AV→Option (Sig × List AV)
 | σ,[],[]=>some (σ,[])
 | σ,true::ms,a::as=>(zcP N σ ms as).map fun y=>(y.1,zoq N a::y.2)
 | σ,false::ms,a::as=>(frz σ a).bind fun x=>(zcP N x.1 ms as).map fun y=>(y.1,x.2::y.2)
 | _,_,_=>none
def WantM (P:Program) (n:Nat) (σin:Sig) (args:List AV) (K:AV→Sig→Prop):Prop:=∃res σout,zW P n σin args res σout∧K res σout
theorem WantM.intro {P:Program} {n:Nat} {σin:Sig} {args:List AV} {K:AV→Sig→Prop} {res:AV} {σout:Sig} (h:zW P n σin args res σout) (k:K res σout):WantM P n σin args K:=⟨res,σout,h,k⟩
def mvE (s:St) (d:Option Nat) (K:St→Prop) (v:AV) (σ2:Sig):Prop:=put s d v σ2 true K
def mvD (s:St) (d:Option Nat) (K:St→Prop) (L:Asc) (σ1:Sig) (res:AV) (σout:Sig):Prop:=
 zfl σout=true∧zu (zmX (bkN L (d.getD 0) s.G) (zo1 σ1 L) σout) (mvE s d K (zpM (bkN L (d.getD 0) s.G) res))
def mvC (P:Program) (s:St) (d:Option Nat) (n:Nat) (K:St→Prop) (L:Asc) (x:Sig × List AV) (σin:Sig):Prop:=WantM P n σin x.2 (mvD s d K L x.1)
def mvB (P:Program) (s:St) (d:Option Nat) (n:Nat) (K:St→Prop) (L:Asc) (x:Sig × List AV):Prop:=zu (zeN x.1 (lkN L) L) (mvC P s d n K L x)
def mvA (P:Program) (s:St) (d:Option Nat) (n:Nat) (K:St→Prop) (ms:List Bool) (args:List AV) (L:Asc):Prop:=
 (je L=true∧zrd L=true)∧zu (zcP (lkN L) s.σ ms args) (mvB P s d n K L)
def zi2 (P:Program) (s:St) (d:Option Nat) (n:Nat) (ms:List Bool) (args:List AV) (K:St→Prop):Prop:=
 mvA P s d n K ms args (zgB false s.σ 1 30 1000000 [] (zjS ms args))
def zkD (f:jQ):Prop:=∀p row,f p=some row→2≤row.fl∧row.ao=false
def zik:Sig→Prop
 | []=>True
 | (_,_,f)::l=>zkD f∧zik l
theorem zil {row:Row}:zkD (one row)=(2≤row.fl∧row.ao=false):=propext
 ⟨fun h=>h [] row rfl,fun h p r hr=>by
  cases p with
  | nil=>cases hr;exact h
  | cons=>cases hr⟩
theorem zfe:∀{σ:Sig} {k g:Nat} {f:jQ},zik σ→zz σ k=some (g,f)→zkD f
 | [],k,g,f,_,h=>by simp [zz] at h
 | (k',g',f')::l,k,g,f,hs,h=>by
  rw [zA] at h
  split at h
  ·cases h;exact hs.1
  ·exact zfe hs.2 h
theorem zmp {σ:Sig} {r g:Nat} {p:List Nat} {row:Row} (hs:zik σ) (h:zo σ r g p=some row):2≤row.fl∧row.ao=false:=by
 unfold zo at h
 split at h
 ·rename_i x hx
  split at h
  ·exact zfe hs hx p row h
  ·cases h
 ·cases h
def zeT:AV→Bool
 | .sc _ | .nilS | .blk .. | .ptr .. | .mr .. | .dead | .ro _ []=>true
 | _=>false
def zeS:List AV→Bool
 | []=>true
 | c::cs=>match zeT c with
  | true=>zeS cs
  | false=>false
def zeU:AV→Bool
 | .agg cs=>zeS cs
 | v=>zeT v
def zbQ:List AV→Bool
 | []=>true
 | c::cs=>match zeU c with
  | true=>zbQ cs
  | false=>false
def zc9:AV→Bool
 | .tup vs=>zbQ vs
 | v=>zeU v
def zav:List (List Nat × Row)→Bool
 | []=>true
 | x::l=>match Nat.ble 2 x.2.fl with
  | true=>zav l
  | false=>false
def ldD (s:St) (d:Option Nat) (K:St→Prop) (res:AV) (rf:List (List Nat × Row)):Prop:=
 (zc9 res=true∧zav rf=true)∧put s d (nm (d.getD 0) s.G res) (zfF s.σ (d.getD 0) s.G rf) true K
def zq0 (P:Program) (s:St) (d:Option Nat) (n:Nat) (K:St→Prop) (x:Sig × List AV):Prop:=Want P n x.2 (ldD s d K)
def zgW (P:Program) (s:St) (d:Option Nat) (n:Nat) (args:List AV) (K:St→Prop):Prop:=zu (qx s.σ args) (zq0 P s d n K)
def mvDL (s:St) (d:Option Nat) (K:St→Prop) (L:Asc) (res:AV) (σout:Sig):Prop:=(zc9 res=true∧zik σout)∧mvD s d K L s.σ res σout
def mvCL (P:Program) (s:St) (d:Option Nat) (n:Nat) (K:St→Prop) (L:Asc) (x:Sig × List AV) (σin:Sig):Prop:=zeN s.σ (lkN L) L=some σin∧WantM P n σin x.2 (mvDL s d K L)
def mvBL (P:Program) (s:St) (d:Option Nat) (n:Nat) (K:St→Prop) (L:Asc) (x:Sig × List AV):Prop:=zu (zeN x.1 (lkN L) L) (mvCL P s d n K L x)
def mvAL (P:Program) (s:St) (d:Option Nat) (n:Nat) (K:St→Prop) (ms:List Bool) (args:List AV) (L:Asc):Prop:=
 (je L=true∧zrd L=true)∧zu (zcP (lkN L) s.σ ms args) (mvBL P s d n K L)
def zfP (P:Program) (s:St) (d:Option Nat) (n:Nat) (ms:List Bool) (args:List AV) (K:St→Prop):Prop:=
 mvAL P s d n K ms args (zgB false s.σ 1 30 1000000 [] (zjS ms args))
section
variable {P:Program} {rd:RD} {φ φ':Phi} {O:Nat→Prop} {w0 w:World} {σ σ':Sig} {N:NF} {s:St} {a:Act}
theorem qI (hN:qV N φ φ'):∀{ms:List Bool} {cs cs':List AV} {vs:List Value} {rd:RD} {σ σ':Sig},HRel rd φ O w0 σ w→PW rd φ cs vs→zcP N σ ms cs=some (σ',cs')→
  jY rd φ O w0 w σ' fun rd'=>PW rd' φ' cs' vs
 | [],[],cs',vs,rd,σ,σ',h,hp,hf=>by
  cases hf
  have:vs=[]:=List.eq_nil_of_length_eq_zero hp.1.symm
  subst this
  exact ⟨rd,.refl,h,PW.nil⟩
 | true::ms,c::cs,cs',vs,rd,σ,σ',h,hp,hf=>by
  obtain ⟨v,us,rfl,hr,hp⟩:=hp.uncons
  simp only [zcP] at hf
  obtain ⟨⟨σ1,cs1⟩,h1,hf⟩:=Option.map_eq_some_iff.1 hf
  cases hf
  obtain ⟨rd1,x1,k1,v1⟩:=qI hN h hp h1
  exact ⟨rd1,x1,k1,PW.cons (zbk hN (hr.mono x1.1 (fun _ _ _ _ h=>h))) v1⟩
 | false::ms,c::cs,cs',vs,rd,σ,σ',h,hp,hf=>by
  obtain ⟨v,us,rfl,hr,hp⟩:=hp.uncons
  simp only [zcP] at hf
  obtain ⟨⟨σ1,c1⟩,h1,hf⟩:=Option.bind_eq_some_iff.1 hf
  obtain ⟨⟨σ2,cs1⟩,h2,hf⟩:=Option.map_eq_some_iff.1 hf
  cases hf
  obtain ⟨rd1,x1,k1,v1⟩:=zab h hr h1
  obtain ⟨rd2,x2,k2,v2⟩:=qI hN k1 (hp.mono x1.1 (fun _ _ _ _ h=>h)) h2
  exact ⟨rd2,x1.trans x2,k2,PW.cons ((v1 φ').mono x2.1 (fun _ _ _ _ h=>h)) v2⟩
 | [],_::_,_,_,_,_,_,_,_,hf=>by cases hf
 | true::_,[],_,_,_,_,_,_,_,hf=>by cases hf
 | false::_,[],_,_,_,_,_,_,_,hf=>by cases hf
theorem Rel.putG (h:Rel rd φ O w0 s a w) {dst:Option Nat} {v:AV} {σ:Sig} {b:Bool} {K:St→Prop} (hk:E.put s dst v σ b K) {rd':RD} (hx:∀b o v,rd b o=some v→rd' b o=some v) {φ':Phi} {w':World} {cv:Value} (hh:HRel rd' φ' O w0 σ w')
  (hv:VRel rd' φ' v cv) (h4:∀r g p pl,φ r g p=some pl→φ' r g p=some pl) (hg:∀r g p,φ' r g p≠none→g<bmp b s.G):
  ∃s',K s'∧Rel rd' φ' O w0 s' (a.put dst cv) w':=by
 unfold E.put at hk
 cases dst with
 | none=>exact ⟨_,hk,hh,fun t v hl=>(h.tm t v hl).mono hx h4,h.size,h.defers,hg⟩
 | some d=>
  simp only at hk
  split at hk
  ·rename_i hd
   have hd:d<s.n:=Nat.le_of_ble_eq_true hd
   refine ⟨_,hk,hh,fun t u hl=>?_,by simp [Act.put,h.size],h.defers,hg⟩
   rw [zbo _ _ _ _ (by rw [h.size];exact hd)]
   simp only [zA] at hl
   by_cases ht:d=t
   ·rw [if_pos ht] at hl
    rw [if_pos ht.symm]
    cases hl
    exact hv
   ·rw [if_neg ht] at hl
    rw [if_neg (fun e=>ht e.symm)]
    exact (h.tm t u hl).mono hx h4
  ·exact hk.elim
theorem zg8 {L:Asc} {d G:Nat} (hgen:∀r g p,φ r g p≠none→g<G) (halive:∀x∈L,∃row,zo σ x.1.1 x.1.2 []=some row) (h:HRel rd φ O w0 σ w):∀r g p,zlp φ φ' L d G r g p≠none→g<G+1:=by
 intro r g p hp
 unfold zlp at hp
 split at hp
 ·rename_i x hx
  obtain ⟨row,hrow⟩:=halive _ (zd4 hx)
  obtain ⟨pl,h1,_⟩:=h.rows _ _ _ _ hrow
  have:=hgen _ _ [] (show φ r g []≠none by rw [h1];simp)
  omega
 ·split at hp
  ·rename_i hg
   have hg:=of_decide_eq_true hg
   omega
  ·have:=hgen _ _ _ hp
   omega
theorem zex {rd0:zcX} (hx0:ExtE O w0 rd0 rd φ) {d:Option Nat} {n:Nat} {ms:List Bool} {args:List AV} {K:St→Prop} (h:Rel rd φ O w0 s a w) {cargs:Array Value} (hargs:PW rd φ args cargs.toList) (hv:zi2 P s d n ms args K):
  zls P n∧Calls P n cargs w fun e w'=>∃v s',e=.returned v∧K s'∧zan rd0 O w0 s' (a.put d v) w':=by
 unfold zi2 mvA at hv
 generalize zgB false s.σ 1 30 1000000 [] (zjS ms args)=L at hv
 obtain ⟨⟨hd,hin⟩,hv⟩:=hv
 obtain ⟨⟨σ1,args'⟩,hp,hv⟩:=zq hv
 obtain ⟨σin,hr,hv⟩:=zq hv
 obtain ⟨res,σout,⟨hfn,hc⟩,hk,hv⟩:=hv
 obtain ⟨σ2,ho,hv⟩:=zq hv
 refine ⟨hfn,?_⟩
 have hL:∀x∈L,1000000≤x.2.1∧x.2.2=0:=fun x hx=>by
  have:=List.all_eq_true.1 hin x hx
  simp only [Bool.and_eq_true] at this
  exact ⟨Nat.le_of_ble_eq_true this.1,Nat.eq_of_beq_eq_true this.2⟩
 obtain ⟨rd1,x1,h1,p1⟩:=qI (φ':=zda φ L) (xd hd) h.heap hargs hp
 have h2:=(h1.renL hd hr).rebase
 refine (hc w rd1 (zda φ L) cargs (fun r g p hne=>?_) h2 p1).mono ?_
 ·unfold zda at hne
  split at hne
  ·rename_i x hx
   exact (hL _ (zcg hx)).2
  ·exact absurd rfl hne
 ·rintro e w' ⟨v,rd',φ',rfl,x2,hm,h3,hres⟩
  obtain ⟨j1,j2,j3,j4⟩:=h1.joinM (d:=d.getD 0) (G:=s.G) h.gen hL hd hr hk x2 hm h3 ho
  obtain ⟨s',hs,hrel⟩:=h.putG hv (fun b o v e=>x2.1 _ _ _ (x1.1 _ _ _ e)) j1 (zdY j3 hres) j2 (fun r g p hp=>by
   have:=zg8 h.gen (jD hr) h1 r g p hp
   simpa [bmp] using this)
  exact ⟨v,s',rfl,hs,rd',_,hx0.step (x1.trans j4) j2,hrel⟩
theorem VRel.of_plainC {rd rd':RD} {c:AV} {v:Value} (h:VRel rd φ c v) (hp:zeT c=true):VRel rd' φ c v:=by
 cases h with
 | dead v=>exact .dead v
 | sc v h=>exact .sc v h
 | nilS=>exact .nilS
 | blk r g p sz off len pl A hφ hA hl=>exact .blk r g p sz off len pl A hφ hA hl
 | ptr r g p sz i o pl b q hφ had=>exact .ptr r g p sz i o pl b q hφ had
 | mr r g p pl b hφ had=>exact .mr r g p pl b hφ had
 | ro0 sz A cap=>exact .ro0 sz A cap
 | ro sz es b q cap f hc hs hr hv=>
  cases es with
  | nil=>exact .ro0 sz _ _
  | cons=>cases hp
 | rp=>cases hp
 | agg=>cases hp
 | tup=>cases hp
 | it=>cases hp
theorem zbP:∀{cs:List AV},zeS cs=true→∀c∈cs,zeT c=true
 | [],_,c,hc=>by simp at hc
 | x::cs,h,c,hc=>by
  simp only [zeS] at h
  split at h
  ·rename_i hx
   rcases List.mem_cons.1 hc with rfl | hc
   ·exact hx
   ·exact zbP h c hc
  ·cases h
theorem VRel.of_plainA {rd rd':RD} {c:AV} {v:Value} (h:VRel rd φ c v) (hp:zeU c=true):VRel rd' φ c v:=by
 cases c with
 | agg cs=>
  obtain ⟨arr,rfl,hq⟩:=PW.of_agg h
  refine PW.agg ⟨hq.1,fun j c hc=>?_⟩
  obtain ⟨u,hu,hr⟩:=hq.2 j c hc
  exact ⟨u,hu,hr.of_plainC (zbP hp c (List.mem_of_getElem? hc))⟩
 | _=>exact h.of_plainC hp
theorem zaV:∀{cs:List AV},zbQ cs=true→∀c∈cs,zeU c=true
 | [],_,c,hc=>by simp at hc
 | x::cs,h,c,hc=>by
  simp only [zbQ] at h
  split at h
  ·rename_i hx
   rcases List.mem_cons.1 hc with rfl | hc
   ·exact hx
   ·exact zaV h c hc
  ·cases h
theorem VRel.of_plainT {rd rd':RD} {c:AV} {v:Value} (h:VRel rd φ c v) (hp:zc9 c=true):VRel rd' φ c v:=by
 cases c with
 | tup cs=>
  obtain ⟨arr,rfl,hq⟩:=PW.of_tup h
  refine PW.tup ⟨hq.1,fun j c hc=>?_⟩
  obtain ⟨u,hu,hr⟩:=hq.2 j c hc
  exact ⟨u,hu,hr.of_plainA (zaV hp c (List.mem_of_getElem? hc))⟩
 | _=>exact h.of_plainA hp
theorem jk:∀{l:List (List Nat × Row)},zav l=true→∀x∈l,2≤x.2.fl
 | [],_,c,hc=>by simp at hc
 | x::cs,h,c,hc=>by
  simp only [zav] at h
  split at h
  ·rename_i hx
   rcases List.mem_cons.1 hc with rfl | hc
   ·exact Nat.le_of_ble_eq_true hx
   ·exact jk h c hc
  ·cases h
theorem zf1 {rf:List (List Nat × Row)} {r g:Nat} {p:List Nat} {row:Row} (h:zo (wE rf) r g p=some row):∃q,(q,row)∈rf:=by
 cases rf with
 | nil=>simp [wE,zo,zz] at h
 | cons x l=>
  simp only [wE,zo,zA,zz] at h
  split at h
  ·rename_i y hy
   split at hy
   ·cases hy
    split at h
    ·exact zcd h
    ·cases h
   ·cases hy
  ·cases h
theorem zaQ {rd0:zcX} (hx0:ExtE O w0 rd0 rd φ) {d:Option Nat} {n:Nat} {args:List AV} {K:St→Prop} (h:Rel rd φ O w0 s a w) {cargs:Array Value} (hargs:PW rd φ args cargs.toList) (hv:zgW P s d n args K):
  zls P n∧Calls P n cargs w fun e w'=>∃v s',e=.returned v∧K s'∧zan rd0 O w0 s' (a.put d v) w':=by
 unfold zgW at hv
 obtain ⟨⟨σ1,args'⟩,hl,hv⟩:=zq hv
 obtain ⟨res,rf,⟨hfn,hc⟩,⟨hpl,hrf⟩,hk⟩:=hv
 refine ⟨hfn,?_⟩
 obtain ⟨rd1,x1,h1,l1⟩:=jt h.heap hargs hl
 have hfr:∀p,φ (d.getD 0) s.G p=none:=fun p=>by
  cases hp:φ (d.getD 0) s.G p with
  | none=>rfl
  | some x=>exact absurd (h.gen _ s.G p (by rw [hp];simp)) (Nat.lt_irrefl _)
 refine (hc w rd1 cargs h1.rdok (l1 _)).mono ?_
 rintro e w' ⟨v,rd',ψ,rfl,x2,h2,h4⟩
 let rd2:RD:=fun b o=>if b<w.heap.size then rd b o else rd' b o
 have hlt:∀b o v,rd b o=some v→b<w.heap.size:=fun b o v e=>ql (k:=o) (by rw [h.heap.rdok _ _ _ e];rfl)
 have x3:Ext (fun _=>False) w rd rd2:=⟨fun b o v e=>by simp only [rd2];rw [if_pos (hlt _ _ _ e)];exact e,fun b o hb _=>by simp only [rd2];rw [if_pos hb]⟩
 have hnew:∀{r g p row pl b q},zo (wE rf) r g p=some row→zcK ψ r g p=some pl→pl.ad=some (b,q)→¬b<w.heap.size:=fun e1 e2 e3 hb=>by
  have:=(h2.own _ _ _ _ _ _ _ e1 e2 e3).1
  rcases this with hh | hh
  ·exact hh
  ·omega
 have k2:HRel rd2 (zcK ψ) (fun _=>False) w (wE rf) w':=by
  refine ⟨?_,h2.sep,?_,?_,h2.own,h2.frame,h2.size,h2.os,h2.tape,h2.output⟩
  ·intro r g p row hr
   obtain ⟨pl,hp,hok⟩:=h2.rows _ _ _ _ hr
   obtain ⟨q0,hq0⟩:=zf1 hr
   have hfl:=jk hrf _ hq0
   refine ⟨pl,hp,hok.wide,hok.len,hok.kind,hok.nil,hok.room,fun b q had i j c hcc=>?_,fun ha=>⟨(hok.frz ha).1,fun b q had k hk=>?_⟩,hok.mp⟩
   ·obtain ⟨u,hu,hrel⟩:=hok.cells b q had i j c hcc
    refine ⟨u,hu,hrel.of_plainC ?_⟩
    cases he:row.es[i]? with
    | none=>rw [he] at hcc;cases hcc
    | some e'=>
     rw [he] at hcc
     have:=(hok.kind e' (List.mem_of_getElem? he)).2 hfl c (List.mem_of_getElem? hcc)
     cases c<;>first | rfl | cases this
   ·simp only [rd2]
    rw [if_neg (hnew hr hp had)]
    exact (hok.frz ha).2 b q had k hk
  ·intro b o v e
   simp only [rd2] at e
   split at e
   ·rename_i hb
    rw [World.cell?_of_block (h2.frame b hb (fun h=>h))]
    exact h.heap.rdok _ _ _ e
   ·exact h2.rdok _ _ _ e
  ·intro r g p row pl b q e1 e2 e3 k hor
   simp only [rd2]
   rw [if_neg (hnew e1 e2 e3)]
   exact h2.rdsep _ _ _ _ _ _ _ e1 e2 e3 k hor
 obtain ⟨j1,j2⟩:=h.heap.join hfr x3 k2 (fun p row hp=>by
  obtain ⟨q,hq⟩:=zcd hp
  have:=jk hrf _ hq
  simp only at this
  omega)
 have hr:=zm6 (φ:=φ) (d:=d.getD 0) (G:=s.G) (h4.of_plainT (rd':=rd2) hpl)
 have x4:Ext O w0 rd rd2:=⟨x3.1,fun b k hb hO=>x3.2 b k (Nat.lt_of_lt_of_le hb h.heap.size) (fun h=>h)⟩
 obtain ⟨s',hs,hrel⟩:=h.put hk x3.1 j1 hr j2 (fun r g p hp=>(yC r g p hp).imp id fun h=>⟨rfl,h⟩)
 exact ⟨v,s',rfl,hs,rd2,_,hx0.step x4 j2,hrel⟩
theorem zdM {rd0:zcX} (hx0:ExtE O w0 rd0 rd φ) {d:Option Nat} {n:Nat} {ms:List Bool} {args:List AV} {K:St→Prop} (h:Rel rd φ O w0 s a w) {cargs:Array Value} (hargs:PW rd φ args cargs.toList) (hv:zfP P s d n ms args K):
  zls P n∧Calls P n cargs w fun e w'=>∃v s',e=.returned v∧K s'∧zan rd0 O w0 s' (a.put d v) w':=by
 unfold zfP mvAL at hv
 generalize zgB false s.σ 1 30 1000000 [] (zjS ms args)=L at hv
 obtain ⟨⟨hd,hin⟩,hv⟩:=hv
 obtain ⟨⟨σ1,args'⟩,hp,hv⟩:=zq hv
 obtain ⟨σin,hr,hr0,res,σout,⟨hfn,hc⟩,⟨hpl,hfl⟩,hk,hv⟩:=zq hv
 obtain ⟨σ2,ho,hv⟩:=zq hv
 refine ⟨hfn,?_⟩
 have hL:∀x∈L,1000000≤x.2.1∧x.2.2=0:=fun x hx=>by
  have:=List.all_eq_true.1 hin x hx
  simp only [Bool.and_eq_true] at this
  exact ⟨Nat.le_of_ble_eq_true this.1,Nat.eq_of_beq_eq_true this.2⟩
 obtain ⟨rd1,x1,h1,p1⟩:=qI (φ':=zda φ L) (xd hd) h.heap hargs hp
 have h2:=(h1.renL hd hr).rebase
 refine (hc w rd1 (zda φ L) cargs (fun r g p hne=>?_) h2 p1).mono ?_
 ·unfold zda at hne
  split at hne
  ·rename_i x hx
   exact (hL _ (zcg hx)).2
  ·exact absurd rfl hne
 ·rintro e w' ⟨v,rd',φ',rfl,x2,hm,h3,hres⟩
  let rd2:RD:=fun b o=>if b<w.heap.size then rd b o else rd' b o
  have hlt:∀b o v,rd b o=some v→b<w.heap.size:=fun b o v e=>ql (k:=o) (by rw [h.heap.rdok _ _ _ e];rfl)
  have hsub:∀b o v,rd2 b o=some v→rd' b o=some v:=fun b o v e=>by
   simp only [rd2] at e
   split at e
   ·exact x2.1 _ _ _ (x1.1 _ _ _ e)
   ·exact e
  have x3:Ext (zV (zda φ L) σin) w rd rd2:=⟨fun b o v e=>by simp only [rd2];rw [if_pos (hlt _ _ _ e)];exact e,fun b o hb _=>by simp only [rd2];rw [if_pos hb]⟩
  have k2:HRel rd2 φ' (zV (zda φ L) σin) w σout w':=by
   refine ⟨?_,h3.sep,fun b o v e=>h3.rdok _ _ _ (hsub _ _ _ e),?_,h3.own,h3.frame,h3.size,h3.os,h3.tape,h3.output⟩
   ·intro r g p row hrow
    obtain ⟨pl,hp2,hok⟩:=h3.rows _ _ _ _ hrow
    obtain ⟨hf1,hf2⟩:=zmp hfl hrow
    refine ⟨pl,hp2,hok.wide,hok.len,hok.kind,hok.nil,hok.room,fun b q had i j c hcc=>?_,fun ha=>(by rw [hf2] at ha;cases ha),hok.mp⟩
    obtain ⟨u,hu,hrel⟩:=hok.cells b q had i j c hcc
    refine ⟨u,hu,hrel.of_plainC ?_⟩
    cases he:row.es[i]? with
    | none=>rw [he] at hcc;cases hcc
    | some e'=>
     rw [he] at hcc
     have:=(hok.kind e' (List.mem_of_getElem? he)).2 hf1 c (List.mem_of_getElem? hcc)
     cases c<;>first | rfl | cases this
   ·intro r g p row pl b q e1 e2 e3 k hor
    have h0:=h3.rdsep _ _ _ _ _ _ _ e1 e2 e3 k hor
    cases hh:rd2 b k with
    | none=>rfl
    | some u=>rw [hsub _ _ _ hh] at h0;cases h0
  obtain ⟨j1,j2,j3,j4⟩:=h.heap.joinM (d:=d.getD 0) (G:=s.G) h.gen hL hd hr0 hk x3 hm k2 ho
  obtain ⟨s',hs,hrel⟩:=h.putG hv x3.1 j1 (zdY j3 (hres.of_plainT (rd':=rd2) hpl)) j2 (fun r g p hp=>by
   have:=zg8 h.gen (jD hr0) h.heap r g p hp
   simpa [bmp] using this)
  exact ⟨v,s',rfl,hs,rd2,_,hx0.step j4 j2,hrel⟩
end
end Go.Proofs.YtpjpkmhaffmbmaaGreat.E
end
section
namespace Go.Proofs.YtpjpkmhaffmbmaaGreat.E
open Go Go.RowKit
set_option linter.unusedVariables false
def fdel (f:jQ) (p:List Nat):jQ:=fun q=>if q=p then none else f q
def zqb (σ:Sig) (r:Nat) (p:List Nat):Sig:=match p with
 | []=>zmv σ r
 | p=>match zz σ r with
  | some (g,f)=>yD σ r (g,fdel f p)
  | none=>σ
def zk4 (σ:Sig) (sz:Nat):AV→Option (List (List AV) × Nat × Sig)
 | .nilS=>some ([],2,σ)
 | .blk r g p s off len=>(zo σ r g p).bind fun row=>match Nat.beq s sz,Nat.beq row.sz sz,row.ao with
  | true,true,false=>ziJ (off+len) row.es.length (some (sub off len row.es,row.fl,zqb σ r p))
  | _,_,_=>none
 | _=>none
def appR (d G esz eby:Nat) (olds:List (List AV)) (fl:Nat) (σ:Sig) (news:List (List AV)) (fn:Nat):Option (AV × Sig):=
 ifP ((olds++news).length≤maxLen∧(olds++news).length * eby≤140737488355328)
  (some (.blk d G [] esz 0 (olds++news).length,yD σ d (G,one ⟨esz,olds++news,min fl fn,false⟩)))
def qA (P:Program) (d G:Nat) (σ:Sig) (t tx:Nat) (b x:AV):Option (AV × Sig):=
 (ti P t).bind fun i=>(ti P i.el).bind fun e=>e.zero.bind fun z=>match i.k,Nat.beq z.length e.sz,Nat.ble 1 e.sz with
  | .slice,true,true=>(zfU P σ tx e.sz x).bind fun s=>(zk4 σ e.sz b).bind fun o=>appR d G e.sz e.bytes o.1 o.2.1 o.2.2 s.1 s.2
  | _,_,_=>none
def zaO (P:Program) (σ:Sig) (t tx:Nat) (a x:AV):Option (AV × Sig):=
 (ti P t).bind fun i=>(ti P i.el).bind fun e=>match i.k,Nat.ble 1 e.sz,tk P tx with
  | .slice,true,some .slice=>(zfU P σ tx e.sz x).bind fun s=>match a with
   | .blk r g p sz off len=>(zz σ r).bind fun gf=>match Nat.beq gf.1 g with
    | true=>(gf.2 p).bind fun row=>match Nat.beq sz e.sz,Nat.beq row.sz e.sz,row.ao with
     | true,true,false=>ziJ (off+len) row.es.length (some (.sc (.int .i64 (min s.1.length len:Nat)),
       yD σ r (g,jg gf.2 p ⟨row.sz,row.es.take off++(s.1.take len++(row.es.drop off).drop (min s.1.length len)),min row.fl s.2,false⟩)))
     | _,_,_=>none
    | false=>none
   | _=>none
  | _,_,_=>none
def zpA (P:Program) (d G:Nat) (σ:Sig) (t:Nat) (x:AV):Option (AV × Sig):=
 (ti P t).bind fun i=>match tk P t,tk P i.el,x with
  | some .slice,some (.int .u8),.sc (.string s)=>some (.blk d G [] 1 0 s.data.toList.length,yD σ d (G,one ⟨1,s.data.toList.map zy,2,false⟩))
  | _,_,_=>none
def yZ (P:Program) (d G:Nat) (σ:Sig) (t len:Nat) (parts:List (Nat × AV)):Option (AV × Sig):=
 (jA P t len parts).bind fun x=>some (.blk d G [] x.1 0 len,yD σ d (G,one ⟨x.1,x.2,flL x.2,false⟩))
section
variable {P:Program} {rd:RD} {φ:Phi} {O:Nat→Prop} {w0 w:World} {σ:Sig} {d G:Nat}
theorem HRel.less (h:HRel rd φ O w0 σ w) {σ':Sig} (hs:∀r g p row,zo σ' r g p=some row→zo σ r g p=some row):HRel rd φ O w0 σ' w:=
 ⟨fun r g p row hr=>h.rows r g p row (hs _ _ _ _ hr),fun r g p row r' g' p' row' pl pl' b q q' h1 h2=>h.sep _ _ _ _ _ _ _ _ _ _ _ _ _ (hs _ _ _ _ h1) (hs _ _ _ _ h2),h.rdok,
  fun r g p row pl b q h1=>h.rdsep _ _ _ _ _ _ _ (hs _ _ _ _ h1),fun r g p row pl b q h1=>h.own _ _ _ _ _ _ _ (hs _ _ _ _ h1),h.frame,h.size,h.os,h.tape,h.output⟩
theorem zc7 {r:Nat} {p:List Nat} {r2 g2:Nat} {p2:List Nat} {row:Row} (h:zo (zqb σ r p) r2 g2 p2=some row):zo σ r2 g2 p2=some row∧¬(r2=r∧p2=p):=by
 unfold zqb at h
 split at h
 ·unfold zo at h
  rw [jF] at h
  by_cases hr:r2=r
  ·rw [if_pos hr] at h;cases h
  ·rw [if_neg hr] at h
   exact ⟨h,fun hh=>hr hh.1⟩
 ·rename_i hp
  split at h
  ·rename_i g f hl
   rw [yo] at h
   by_cases hr:r2=r
   ·rw [if_pos hr] at h
    split at h
    ·rename_i hg
     unfold fdel at h
     split at h
     ·cases h
     ·rename_i hne
      refine ⟨?_,fun hh=>hne hh.2⟩
      unfold zo
      rw [hr,hl]
      simp [hg,h]
    ·cases h
   ·rw [if_neg hr] at h
    exact ⟨h,fun hh=>hr hh.1⟩
  ·rename_i hl
   refine ⟨h,fun hh=>?_⟩
   unfold zo at h
   rw [hh.1,hl] at h
   cases h
theorem HRel.moveRow (h:HRel rd φ O w0 σ w) (hfr:∀p,φ d G p=none) {r g:Nat} {p:List Nat} {row:Row} (hr:zo σ r g p=some row) (hao:row.ao=false) {pl:Pl} (hp:φ r g p=some pl) {off n:Nat} (hn:off+n≤row.es.length) (T:Sig) (hT:∀{r2 g2 p2 row2},zo T r2 g2 p2=some row2→zo σ r2 g2 p2=some row2∧¬(r2=r∧p2=p)):
  HRel rd (zB φ d G fun q=>match q with | []=>some ⟨pl.ad.map fun x=>(x.1,x.2+off * row.sz),pl.cap - off⟩ | _=>none) O w0 (yD T d (G,one ⟨row.sz,sub off n row.es,row.fl,false⟩)) w∧
  (∀r g p pl',φ r g p=some pl'→zB φ d G (fun q=>match q with | []=>some ⟨pl.ad.map fun x=>(x.1,x.2+off * row.sz),pl.cap - off⟩ | _=>none) r g p=some pl'):=by
 have hext:∀r g p pl',φ r g p=some pl'→zB φ d G (fun q=>match q with | []=>some (⟨pl.ad.map fun x=>(x.1,x.2+off * row.sz),pl.cap - off⟩:Pl) | _=>none) r g p=some pl':=by
  intro r g p pl' hp
  unfold zB
  rw [if_neg (by rintro ⟨rfl,rfl⟩;rw [hfr] at hp;cases hp)]
  exact hp
 generalize hφ':(zB φ d G fun q=>match q with | []=>some (⟨pl.ad.map fun x=>(x.1,x.2+off * row.sz),pl.cap - off⟩:Pl) | _=>none)=φ' at hext ⊢
 have hnew:φ' d G []=some ⟨pl.ad.map fun x=>(x.1,x.2+off * row.sz),pl.cap - off⟩:=by rw [←hφ'];simp [zB]
 obtain ⟨pl0,hp0,hok⟩:=h.rows _ _ _ _ hr
 rw [hp] at hp0
 cases hp0
 have hcase:∀{r2 g2 p2 row2},zo (yD T d (G,one ⟨row.sz,sub off n row.es,row.fl,false⟩)) r2 g2 p2=some row2→(d=r2∧G=g2∧[]=p2∧⟨row.sz,sub off n row.es,row.fl,false⟩=row2)∨(zo σ r2 g2 p2=some row2∧¬(r2=r∧p2=p)∧φ' r2 g2 p2=φ r2 g2 p2):=by
  intro r2 g2 p2 row2 h2
  rw [yo] at h2
  by_cases hd:r2=d
  ·rw [if_pos hd] at h2
   by_cases hg:G=g2
   ·rw [if_pos hg] at h2
    obtain ⟨e1,e2⟩:=wH h2
    exact .inl ⟨hd.symm,hg,e1.symm,e2.symm⟩
   ·rw [if_neg hg] at h2;cases h2
  ·rw [if_neg hd] at h2
   obtain ⟨e1,e2⟩:=hT h2
   refine .inr ⟨e1,e2,?_⟩
   obtain ⟨pl2,e3,_⟩:=h.rows _ _ _ _ e1
   rw [hext _ _ _ _ e3,e3]
 refine ⟨⟨?_,?_,h.rdok,?_,?_,h.frame,h.size,h.os,h.tape,h.output⟩,hext⟩
 ·intro r2 g2 p2 row2 h2
  rcases hcase h2 with ⟨rfl,rfl,rfl,rfl⟩ | ⟨e1,e2,e3⟩
  ·refine ⟨_,hnew,fun e he=>hok.wide e (List.mem_of_mem_drop (List.mem_of_mem_take he)),by simp [sub];have:=hok.len;omega,fun e he=>hok.kind e (List.mem_of_mem_drop (List.mem_of_mem_take he)),fun ha=>?_,?_,?_,fun ha=>(by cases ha),fun C e=>?_⟩
   ·cases hq:pl.ad with
    | none=>have:=hok.nil hq;simp;omega
    | some x=>rw [hq] at ha;cases ha
   ·intro b q hb k hk
    cases hq:pl.ad with
    | none=>rw [hq] at hb;cases hb
    | some x=>
     rw [hq] at hb
     simp only [Option.map_some,Option.some.injEq,Prod.mk.injEq] at hb
     obtain ⟨rfl,rfl⟩:=hb
     have:=hok.room x.1 x.2 hq (off * row.sz+k) (by
      have hk':k<(pl.cap - off) * row.sz:=hk
      rw [Nat.sub_mul] at hk'
      omega)
     rwa [Nat.add_assoc]
   ·intro b q hb i j c hc
    cases hq:pl.ad with
    | none=>rw [hq] at hb;cases hb
    | some x=>
     rw [hq] at hb
     simp only [Option.map_some,Option.some.injEq,Prod.mk.injEq] at hb
     obtain ⟨rfl,rfl⟩:=hb
     have hc':(row.es[off+i]?).bind (·[j]?)=some c:=by
      simp only [sub,List.getElem?_take] at hc
      split at hc
      ·rwa [List.getElem?_drop] at hc
      ·cases hc
     obtain ⟨v,hv,hrel⟩:=hok.cells x.1 x.2 hq _ _ _ hc'
     refine ⟨v,?_,hrel.mono (fun _ _ _ h=>h) hext⟩
     rw [←hv]
     congr 2
     show x.2+off * row.sz+i * row.sz+j=x.2+(off+i) * row.sz+j
     rw [Nat.add_mul];omega
   ·obtain ⟨hz,b,had,hm⟩:=hok.mp C e
    have hz:row.sz=0:=hz
    exact ⟨hz,b,by rw [had];simp [hz],hm⟩
  ·obtain ⟨pl2,e4,e5⟩:=h.rows _ _ _ _ e1
   exact ⟨pl2,hext _ _ _ _ e4,e5.mono (fun _ _ _ h=>h) hext⟩
 ·intro r1 g1 p1 row1 r2 g2 p2 row2 pl1 pl2 b q1 q2 h1 h2 h3 h4 h5 h6
  have aux:∀{pl2 q q2},(pl.ad.map fun x=>(x.1,x.2+off * row.sz))=some (b,q)→zo σ r2 g2 p2=some row2→φ r2 g2 p2=some pl2→pl2.ad=some (b,q2)→r2=r∧p2=p:=by
   intro pl2 q q2 e1 e2 e3 e4
   cases hq:pl.ad with
   | none=>rw [hq] at e1;cases e1
   | some x=>
    rw [hq] at e1
    simp only [Option.map_some,Option.some.injEq,Prod.mk.injEq] at e1
    exact h.sep _ _ _ _ _ _ _ _ _ _ b q2 x.2 e2 hr e3 hp e4 (by rw [hq,←e1.1])
  have aux1:∀{pl2 q q2},(pl.ad.map fun x=>(x.1,x.2+off * row.sz))=some (b,q)→zo σ r1 g1 p1=some row1→φ r1 g1 p1=some pl2→pl2.ad=some (b,q2)→r1=r∧p1=p:=by
   intro pl2 q q2 e1 e2 e3 e4
   cases hq:pl.ad with
   | none=>rw [hq] at e1;cases e1
   | some x=>
    rw [hq] at e1
    simp only [Option.map_some,Option.some.injEq,Prod.mk.injEq] at e1
    exact h.sep _ _ _ _ _ _ _ _ _ _ b q2 x.2 e2 hr e3 hp e4 (by rw [hq,←e1.1])
  rcases hcase h1 with ⟨a1,a2,a3,a4⟩ | ⟨a1,a2,a3⟩<;>rcases hcase h2 with ⟨b1,b2,b3,b4⟩ | ⟨b1,b2,b3⟩
  ·exact ⟨a1.symm.trans b1,a3.symm.trans b3⟩
  ·subst a1;subst a2;subst a3
   rw [hnew] at h3
   cases h3
   rw [b3] at h4
   exact absurd (aux h5 b1 h4 h6) b2
  ·subst b1;subst b2;subst b3
   rw [hnew] at h4
   cases h4
   rw [a3] at h3
   exact absurd (aux1 h6 a1 h3 h5) a2
  ·rw [a3] at h3
   rw [b3] at h4
   exact h.sep _ _ _ _ _ _ _ _ _ _ _ _ _ a1 b1 h3 h4 h5 h6
 ·intro r2 g2 p2 row2 pl2 b q h1 h2 h3 k hor
  rcases hcase h1 with ⟨rfl,rfl,rfl,rfl⟩ | ⟨e1,e2,e3⟩
  ·rw [hnew] at h2
   cases h2
   cases hq:pl.ad with
   | none=>rw [hq] at h3;cases h3
   | some x=>
    rw [hq] at h3
    simp only [Option.map_some,Option.some.injEq,Prod.mk.injEq] at h3
    obtain ⟨rfl,rfl⟩:=h3
    exact h.rdsep _ _ _ _ _ _ _ hr hp hq k (.inl hao)
  ·rw [e3] at h2
   exact h.rdsep _ _ _ _ _ _ _ e1 h2 h3 k hor
 ·intro r2 g2 p2 row2 pl2 b q h1 h2 h3
  rcases hcase h1 with ⟨rfl,rfl,rfl,rfl⟩ | ⟨e1,e2,e3⟩
  ·rw [hnew] at h2
   cases h2
   cases hq:pl.ad with
   | none=>rw [hq] at h3;cases h3
   | some x=>
    rw [hq] at h3
    simp only [Option.map_some,Option.some.injEq,Prod.mk.injEq] at h3
    obtain ⟨rfl,rfl⟩:=h3
    exact h.own _ _ _ _ _ _ _ hr hp hq
  ·rw [e3] at h2
   exact h.own _ _ _ _ _ _ _ e1 h2 h3
theorem HRel.newNil (h:HRel rd φ O w0 σ w) (hfr:∀p,φ d G p=none) (sz fl:Nat) (hnm:fl<3:=by decide):
  HRel rd (zB φ d G fun q=>match q with | []=>some ⟨none,0⟩ | _=>none) O w0 (yD σ d (G,one ⟨sz,[],fl,false⟩)) w∧
  (∀r g p pl',φ r g p=some pl'→zB φ d G (fun q=>match q with | []=>some ⟨none,0⟩ | _=>none) r g p=some pl'):=by
 have hext:∀r g p pl',φ r g p=some pl'→zB φ d G (fun q=>match q with | []=>some (⟨none,0⟩:Pl) | _=>none) r g p=some pl':=by
  intro r g p pl' hp
  unfold zB
  rw [if_neg (by rintro ⟨rfl,rfl⟩;rw [hfr] at hp;cases hp)]
  exact hp
 generalize hφ':(zB φ d G fun q=>match q with | []=>some (⟨none,0⟩:Pl) | _=>none)=φ' at hext ⊢
 have hnew:φ' d G []=some ⟨none,0⟩:=by rw [←hφ'];simp [zB]
 have hcase:∀{r2 g2 p2 row2},zo (yD σ d (G,one ⟨sz,[],fl,false⟩)) r2 g2 p2=some row2→(d=r2∧G=g2∧[]=p2∧⟨sz,[],fl,false⟩=row2)∨(zo σ r2 g2 p2=some row2∧φ' r2 g2 p2=φ r2 g2 p2):=by
  intro r2 g2 p2 row2 h2
  rw [yo] at h2
  by_cases hd:r2=d
  ·rw [if_pos hd] at h2
   by_cases hg:G=g2
   ·rw [if_pos hg] at h2
    obtain ⟨e1,e2⟩:=wH h2
    exact .inl ⟨hd.symm,hg,e1.symm,e2.symm⟩
   ·rw [if_neg hg] at h2;cases h2
  ·rw [if_neg hd] at h2
   refine .inr ⟨h2,?_⟩
   obtain ⟨pl2,e3,_⟩:=h.rows _ _ _ _ h2
   rw [hext _ _ _ _ e3,e3]
 refine ⟨⟨?_,?_,h.rdok,?_,?_,h.frame,h.size,h.os,h.tape,h.output⟩,hext⟩
 ·intro r2 g2 p2 row2 h2
  rcases hcase h2 with ⟨rfl,rfl,rfl,rfl⟩ | ⟨e1,e2⟩
  ·exact ⟨_,hnew,by simp,by simp,by simp,fun _=>rfl,by simp,by simp,fun ha=>(by cases ha),zm4 hnm⟩
  ·obtain ⟨pl2,e4,e5⟩:=h.rows _ _ _ _ e1
   exact ⟨pl2,hext _ _ _ _ e4,e5.mono (fun _ _ _ h=>h) hext⟩
 ·intro r1 g1 p1 row1 r2 g2 p2 row2 pl1 pl2 b q1 q2 h1 h2 h3 h4 h5 h6
  rcases hcase h1 with ⟨a1,a2,a3,a4⟩ | ⟨a1,a3⟩<;>rcases hcase h2 with ⟨b1,b2,b3,b4⟩ | ⟨b1,b3⟩
  ·exact ⟨a1.symm.trans b1,a3.symm.trans b3⟩
  ·subst a1;subst a2;subst a3
   rw [hnew] at h3
   cases h3
   cases h5
  ·subst b1;subst b2;subst b3
   rw [hnew] at h4
   cases h4
   cases h6
  ·rw [a3] at h3
   rw [b3] at h4
   exact h.sep _ _ _ _ _ _ _ _ _ _ _ _ _ a1 b1 h3 h4 h5 h6
 ·intro r2 g2 p2 row2 pl2 b q h1 h2 h3 k hor
  rcases hcase h1 with ⟨rfl,rfl,rfl,rfl⟩ | ⟨e1,e3⟩
  ·rw [hnew] at h2
   cases h2
   cases h3
  ·rw [e3] at h2
   exact h.rdsep _ _ _ _ _ _ _ e1 h2 h3 k hor
 ·intro r2 g2 p2 row2 pl2 b q h1 h2 h3
  rcases hcase h1 with ⟨rfl,rfl,rfl,rfl⟩ | ⟨e1,e3⟩
  ·rw [hnew] at h2
   cases h2
   cases h3
  ·rw [e3] at h2
   exact h.own _ _ _ _ _ _ _ e1 h2 h3
theorem zjj {α:Type} (l:List (Nat × α)) (n:Nat) (x y:α):yD (yD l n x) n y=yD l n y:=by
 induction l with
 | nil=>simp [yD]
 | cons z l ih=>
  obtain ⟨k,v⟩:=z
  simp only [yD]
  cases h:k==n with
  | true=>simp [yD,h]
  | false=>simp [yD,h,ih]
theorem zia {α:Type} (l:List (Nat × α)) (n:Nat) (x:α):zz (yD l n x) n=some x:=by rw [zaC,if_pos rfl]
theorem HRel.lowFl {T:Sig} {row:Row} {fl':Nat} (h:HRel rd φ O w0 (yD T d (G,one row)) w) (hle:fl'≤row.fl) (hnm:fl'<3) (hao:row.ao=false):HRel rd φ O w0 (yD T d (G,one ⟨row.sz,row.es,fl',row.ao⟩)) w:=by
 have hcase:∀{r g p row2},zo (yD T d (G,one ⟨row.sz,row.es,fl',row.ao⟩)) r g p=some row2→∃row1,zo (yD T d (G,one row)) r g p=some row1∧row2.sz=row1.sz∧row2.es=row1.es∧row2.ao=row1.ao∧row2.fl≤row1.fl∧(row2.ao=true→row2.fl=row1.fl)∧(row2.fl=row1.fl∨row2.fl<3):=by
  intro r g p row2 hr
  rw [yo] at hr ⊢
  by_cases hd:r=d
  ·rw [if_pos hd] at hr ⊢
   by_cases hg:G=g
   ·rw [if_pos hg] at hr ⊢
    obtain ⟨rfl,rfl⟩:=wH hr
    exact ⟨row,rfl,rfl,rfl,rfl,hle,fun ha=>(by rw [hao] at ha;cases ha),.inr hnm⟩
   ·rw [if_neg hg] at hr;cases hr
  ·rw [if_neg hd] at hr ⊢
   exact ⟨row2,hr,rfl,rfl,rfl,Nat.le_refl _,fun _=>rfl,.inl rfl⟩
 refine ⟨?_,?_,h.rdok,?_,?_,h.frame,h.size,h.os,h.tape,h.output⟩
 ·intro r g p row2 hr
  obtain ⟨row1,h1,e1,e2,e3,e4,e5,e6⟩:=hcase hr
  obtain ⟨pl,hp,hok⟩:=h.rows _ _ _ _ h1
  refine ⟨pl,hp,by rw [e1,e2];exact hok.wide,by rw [e2];exact hok.len,fun x hx=>(hok.kind x (by rwa [←e2])).le e4,hok.nil,by rw [e1];exact hok.room,by rw [e1,e2];exact hok.cells,fun ha=>?_,fun C e=>?_⟩
  ·rw [e5 ha,e1,e2]
   exact hok.frz (by rw [←e3];exact ha)
  ·rcases e6 with e6 | e6
   ·rw [e1];exact hok.mp C (e6▸e)
   ·exact zm4 (X:=fun C=>row2.sz=0∧∃b,pl.ad=some (b,0)∧MapAt w b C) e6 C e
 ·intro r g p row r' g' p' row' pl pl' b q q' h1 h2 h3 h4 h5 h6
  obtain ⟨x1,k1,_⟩:=hcase h1
  obtain ⟨x2,k2,_⟩:=hcase h2
  exact h.sep _ _ _ _ _ _ _ _ _ _ _ _ _ k1 k2 h3 h4 h5 h6
 ·intro r g p row pl b q h1 h2 h3 k hor
  obtain ⟨x1,k1,e1,e2,e3,_⟩:=hcase h1
  rw [e1,e2,e3] at hor
  exact h.rdsep _ _ _ _ _ _ _ k1 h2 h3 k hor
 ·intro r g p row pl b q h1 h2 h3
  obtain ⟨x1,k1,_⟩:=hcase h1
  exact h.own _ _ _ _ _ _ _ k1 h2 h3
theorem zfv (h:HRel rd φ O w0 σ w) (hfr:∀p,φ d G p=none) {t tx ty:Nat} {b x v:AV} {cb cx:Value} (hb:VRel rd φ b cb) (hx:VRel rd φ x cx) {σ':Sig} (ha:qA P d G σ t tx b x=some (v,σ')):
  After rd φ O w0 d G σ' v ((Builtin.append_ #[t,tx] ty #[cb,cx]).run P w):=by
 unfold qA at ha
 obtain ⟨i,hi,ha1⟩:=Option.bind_eq_some_iff.1 ha
 obtain ⟨e,he,ha2⟩:=Option.bind_eq_some_iff.1 ha1
 obtain ⟨z,hz,ha3⟩:=Option.bind_eq_some_iff.1 ha2
 clear ha ha1 ha2
 split at ha3
 ·rename_i hk hzl hpos
  have hzl:=Nat.eq_of_beq_eq_true hzl
  have hpos:=Nat.le_of_ble_eq_true hpos
  obtain ⟨⟨es,fn⟩,hs,ha4⟩:=Option.bind_eq_some_iff.1 ha3
  obtain ⟨⟨olds,fl,T⟩,hbase,ha5⟩:=Option.bind_eq_some_iff.1 ha4
  clear ha3 ha4
  unfold appR at ha5
  obtain ⟨⟨hm1,hm2⟩,ha6⟩:=yW ha5
  clear ha5
  simp only at hm1 hm2 ha6
  cases ha6
  have hu:=yg hi hk
  obtain ⟨inf,dsc,e1,e2,e3,e4,e5,e6,-⟩:=xn he
  rw [e6] at hz
  obtain ⟨zv,hzv,hzz⟩:=Option.map_eq_some_iff.1 hz
  have hzs:zv.cells.size=e.sz:=by rw [←hzl,←hzz];simp
  obtain ⟨news,s1,s2,s3,s4,s6,s5⟩:=we h hx hs
  simp only at s1 s2 s3 s4 s6
  clear s5
  rw [e3] at s1
  have hnl:news.length=es.length * e.sz:=by rw [s1.newsLen,e3]
  have hlen:(olds++es).length=olds.length+es.length:=by simp
  have hfit:∀old,old<olds.length+es.length→Builtin.nextslicecap (olds.length+es.length) old * inf.bytes≤281474976710656:=fun old ho=>growslice_fits ho (by rw [←e4,←hlen];exact hm2)
  have h63:((olds.length+es.length:Nat):Int)≤9223372036854775807:=by rw [hlen] at hm1;simp only [maxLen] at hm1;omega
  have keep:∀{a:List (List AV)},(∀x∈a,KOK fl x)→∀x∈a++es,KOK (min fl fn) x:=fun ha x hx=>(List.mem_append.1 hx).elim (fun hx=>(ha x hx).le (Nat.min_le_left _ _)) (fun hx=>(s4 x hx).le (Nat.min_le_right _ _))
  have grow:∀{T:Sig},(∀r g p row,zo T r g p=some row→zo σ r g p=some row)→∀(base:Option Addr) (cap:Nat) (vo:List Value),cap<olds.length+es.length→
    (Builtin.firstCells inf.size olds.length (.slice base olds.length cap)).run P w.drew=.ok vo.toArray w.drew→vo.length=olds.length * e.sz→(∀x∈olds,x.length=e.sz)→(∀x∈olds,KOK fl x)→
    (∀i j c,(olds[i]?).bind (·[j]?)=some c→∃v,vo[i * e.sz+j]?=some v∧VRel rd φ c v)→
    After rd φ O w0 d G (yD T d (G,one ⟨e.sz,olds++es,min fl fn,false⟩)) (.blk d G [] e.sz 0 (olds++es).length) ((Builtin.append_ #[t,tx] ty #[.slice base olds.length cap,cx]).run P w):=by
   intro T hT base cap vo hcap hvo hvl hw hko hrel
   have hrun:=run_append_grow_src (P:=P) w t tx ty i.el inf zv hu e1 hzv base olds.length cap vo hvo cx es.length news s1 hcap h63 (hfit cap hcap)
   have hge:=grownCap_ge w (olds.length+es.length) cap i.el
   have hwide:∀x∈olds++es,x.length=e.sz:=fun x hx=>(List.mem_append.1 hx).elim (hw x) (s3 x)
   have hn:=((h.less hT).drew).newRow hfr ⟨e.sz,olds++es,min fl fn,false⟩ rfl (Nat.lt_of_le_of_lt (Nat.min_le_right _ _) s6) (grownCap w (olds.length+es.length) cap i.el)
    ((vo++news).toArray++Builtin.zeroCells zv.cells (grownCap w (olds.length+es.length) cap i.el - (olds.length+es.length))) i.el (0,0) (.inr (Nat.le_refl _)) hwide (by simpa using hge)
    (by
     simp only [Array.size_append,List.size_toArray,List.length_append,hvl,hnl,size_zeroCells,hzs,←Nat.add_mul]
     refine Nat.mul_le_mul_right _ ?_
     omega)
    (keep hko)
    (fun a b c hc=>by
     have hlt:a * e.sz+b<(vo++news).length∧∃v,(vo++news)[a * e.sz+b]?=some v∧VRel rd φ c v:=by
      rw [List.getElem?_append] at hc
      split at hc
      ·rename_i hlt
       obtain ⟨v,hv,hr⟩:=hrel a b c hc
       have hl:a * e.sz+b<vo.length:=by
        rcases Nat.lt_or_ge (a * e.sz+b) vo.length with hx | hx
        ·exact hx
        ·rw [List.getElem?_eq_none hx] at hv;cases hv
       exact ⟨by simp;omega,v,by rw [List.getElem?_append_left hl];exact hv,hr⟩
      ·rename_i hge'
       obtain ⟨v,hv,hr⟩:=s2 (a - olds.length) b c hc
       have hl:(a - olds.length) * e.sz+b<news.length:=by
        rcases Nat.lt_or_ge ((a - olds.length) * e.sz+b) news.length with hx | hx
        ·exact hx
        ·rw [List.getElem?_eq_none hx] at hv;cases hv
       have e0:a * e.sz+b=vo.length+((a - olds.length) * e.sz+b):=by
        rw [hvl,←Nat.add_assoc,←Nat.add_mul]
        congr 2
        omega
       refine ⟨by rw [e0];simp;omega,v,?_,hr⟩
       rw [e0,List.getElem?_append_right (by omega),Nat.add_sub_cancel_left]
       exact hv
     obtain ⟨hlt,v,hv,hr⟩:=hlt
     refine ⟨v,?_,hr⟩
     rw [Array.getElem?_append_left (by simpa using hlt)]
     simpa using hv)
   rw [hrun]
   refine ⟨_,_,_,rfl,hn.1,?_,hn.2,fun r g p hh=>yC r g p hh⟩
   have:=VRel.blk (rd:=rd) (φ:=zB φ d G fun p=>match p with | []=>some ⟨some (w.heap.size,0),grownCap w (olds.length+es.length) cap i.el⟩ | _=>none) d G [] e.sz 0 (olds++es).length ⟨some (w.heap.size,0),grownCap w (olds.length+es.length) cap i.el⟩ (some (mkA w.heap.size 0)) (by simp [zB]) (.inr (by simp)) (by simpa using hge)
   rw [hlen] at this ⊢
   exact this
  unfold zk4 at hbase
  split at hbase
  ·cases hbase
   cases hb
   simp only [List.nil_append,List.length_nil,Nat.zero_add] at *
   by_cases hz0:es.length=0
   ·have hes:es=[]:=List.eq_nil_of_length_eq_zero hz0
    subst hes
    have hnews:news=[]:=List.eq_nil_of_length_eq_zero (by simpa using hnl)
    subst hnews
    have hrun:(Builtin.append_ #[t,tx] ty #[.slice none 0 0,cx]).run P w=.ok (.slice none 0 0) w:=by
     have hl:=s1.len
     have hc:=s1.cells
     simp only [List.length_nil] at hl hc
     rcases s1.kind with ⟨e',hk'⟩ | hk'<;>simp [Builtin.append_,run_underlying hu,run_underlying hk',sizeOf,typeInfo,e1,hl,hc]
    rw [hrun]
    have hn:=h.newNil hfr e.sz (min 2 fn) (Nat.lt_of_le_of_lt (Nat.min_le_left _ _) (by decide))
    refine ⟨_,_,_,rfl,hn.1,?_,hn.2,fun r g p hh=>yC r g p hh⟩
    exact .blk d G [] e.sz 0 0 ⟨none,0⟩ none (by simp [zB]) (.inl rfl) (Nat.zero_le _)
   ·exact grow (fun _ _ _ _ h=>h) none 0 [] (by omega) (by simp [Builtin.firstCells]) (by simp) (by simp) (by simp) (by simp)
  ·rename_i r g p s0 off len
   obtain ⟨row,hrow,hb1⟩:=Option.bind_eq_some_iff.1 hbase
   clear hbase
   split at hb1
   ·rename_i q1 q2 q3
    have q1:=Nat.eq_of_beq_eq_true q1
    have q2:=Nat.eq_of_beq_eq_true q2
    subst q1
    unfold ziJ at hb1
    split at hb1
    ·rename_i hle
     have hle:=Nat.le_of_ble_eq_true hle
     simp only [Option.some.injEq,Prod.mk.injEq] at hb1
     obtain ⟨rfl,rfl,rfl⟩:=hb1
     obtain ⟨pl,hp,hok⟩:=h.rows _ _ _ _ hrow
     have hll:(sub off len row.es).length=len:=by simp [sub];omega
     have hmem:∀x∈sub off len row.es,x∈row.es:=fun x hx=>List.mem_of_mem_drop (List.mem_of_mem_take hx)
     have hw:∀x∈sub off len row.es,x.length=e.sz:=fun x hx=>by rw [hok.wide x (hmem x hx),q2]
     have hko:∀x∈sub off len row.es,KOK row.fl x:=fun x hx=>hok.kind x (hmem x hx)
     have hsubc:∀{i j:Nat} {c:AV},((sub off len row.es)[i]?).bind (·[j]?)=some c→(row.es[off+i]?).bind (·[j]?)=some c:=by
      intro i j c hc
      simp only [sub,List.getElem?_take] at hc
      split at hc
      ·rwa [List.getElem?_drop] at hc
      ·cases hc
     cases hb with
     | blk _ _ _ _ _ _ pl' A hφ hA hl=>
      rw [hφ] at hp
      cases hp
      by_cases hroom:len+es.length≤pl.cap - off
      ·
       obtain ⟨m1,m2⟩:=h.moveRow hfr hrow q3 hφ (off:=off) (n:=len) hle (zqb σ r p) (fun hh=>zc7 hh)
       rw [q2] at m1 m2
       generalize hφ':(zB φ d G fun q=>match q with | []=>some (⟨pl.ad.map fun x=>(x.1,x.2+off * e.sz),pl.cap - off⟩:Pl) | _=>none)=φ' at m1 m2
       have hnew:φ' d G []=some ⟨pl.ad.map fun x=>(x.1,x.2+off * e.sz),pl.cap - off⟩:=by rw [←hφ'];simp [zB]
       have hfresh:∀r g p,φ' r g p≠none→φ r g p≠none∨(r=d∧g=G):=fun r g p hh=>yC (ψ:=fun q=>match q with | []=>some (⟨pl.ad.map fun x=>(x.1,x.2+off * e.sz),pl.cap - off⟩:Pl) | _=>none) r g p (by rw [hφ'];exact hh)
       by_cases hz0:es.length=0
       ·have hes:es=[]:=List.eq_nil_of_length_eq_zero hz0
        subst hes
        have hnews:news=[]:=List.eq_nil_of_length_eq_zero (by simpa using hnl)
        subst hnews
        have hrun:(Builtin.append_ #[t,tx] ty #[.slice A len (pl.cap - off),cx]).run P w=.ok (.slice A len (pl.cap - off)) w:=by
         have hl':=s1.len
         have hc:=s1.cells
         simp only [List.length_nil] at hl' hc
         have hroom':len≤pl.cap - off:=hl
         rcases s1.kind with ⟨e',hk'⟩ | hk'<;>cases A<;>simp [Builtin.append_,run_underlying hu,run_underlying hk',sizeOf,typeInfo,e1,hl',hc,hroom',storeCells]
        rw [hrun]
        simp only [List.append_nil,hll]
        refine ⟨_,_,φ',rfl,m1.lowFl (Nat.min_le_left _ _) (Nat.lt_of_le_of_lt (Nat.min_le_right _ _) s6) rfl,?_,m2,hfresh⟩
        ·have:=VRel.blk (rd:=rd) (φ:=φ') d G [] e.sz 0 len ⟨pl.ad.map fun x=>(x.1,x.2+off * e.sz),pl.cap - off⟩ A hnew (by
          rcases hA with hA | hA
          ·left;simpa using hA
          ·right;rw [hA];cases pl.ad<;>simp) (by simpa using hl)
         simpa using this
       ·have hcap:pl.cap - off≠0:=by omega
        rcases hA with hA | hA
        ·exact absurd hA hcap
        ·cases had:pl.ad with
         | none=>exact absurd (hok.nil had) (by omega)
         | some bq=>
          obtain ⟨b0,q0⟩:=bq
          rw [had] at hA hnew
          simp only [Option.map_some] at hA hnew
          subst hA
          have hidx:∀j,j<news.length→off * e.sz+(len * e.sz+j)<pl.cap * e.sz:=by
           intro j hj
           rw [hnl] at hj
           have:(off+len+es.length) * e.sz≤pl.cap * e.sz:=Nat.mul_le_mul_right _ (by omega)
           rw [Nat.add_mul,Nat.add_mul] at this
           omega
          have hroomc:=fun j (hj:j<news.length)=>hok.room b0 q0 had (off * e.sz+(len * e.sz+j)) (by rw [q2];exact hidx j hj)
          have hrun:=run_append_room_src (P:=P) w t tx ty i.el inf hu e1 b0 (q0+off * e.sz) len (pl.cap - off) cx es.length news s1 hroom
           (fun j hj=>by rw [←e3,show q0+off * e.sz+len * e.sz+j=q0+(off * e.sz+(len * e.sz+j)) by omega];exact (hroomc j hj).1)
           (fun j hj=>by rw [←e3,show q0+off * e.sz+len * e.sz+j=q0+(off * e.sz+(len * e.sz+j)) by omega];exact (hroomc j hj).2)
          rw [←e3] at hrun
          have hst:=m1.store (r:=d) (g:=G) (p:=[]) (f:=one ⟨e.sz,sub off len row.es,row.fl,false⟩) (row:=⟨e.sz,sub off len row.es,row.fl,false⟩) (zia _ _ _) rfl hnew rfl rfl ⟨e.sz,sub off len row.es++es,min row.fl fn,false⟩ rfl (Nat.lt_of_le_of_lt (Nat.min_le_right _ _) s6) rfl
           (fun x hx=>(List.mem_append.1 hx).elim (hw x) (s3 x)) (by simp only [List.length_append,hll];exact hroom) (keep hko) (q0+off * e.sz+len * e.sz) news
           (fun a b c hc=>by
            rw [List.getElem?_append] at hc
            split at hc
            ·rename_i hlt
             rw [hll] at hlt
             have hb:b<e.sz:=by
              cases hh:(sub off len row.es)[a]? with
              | none=>rw [hh] at hc;cases hc
              | some x=>
               rw [hh] at hc
               rw [←hw x (List.mem_of_getElem? hh)]
               rcases Nat.lt_or_ge b x.length with hx | hx
               ·exact hx
               ·rw [Option.bind_some,List.getElem?_eq_none hx] at hc;cases hc
             have hm:=Nat.mul_le_mul_right e.sz (show a+1≤len from hlt)
             rw [Nat.succ_mul] at hm
             rw [if_neg (by simp only;omega)]
             obtain ⟨v,hv,hr⟩:=hok.cells b0 q0 had _ _ _ (hsubc hc)
             refine ⟨v,?_,hr.mono (fun _ _ _ h=>h) m2⟩
             rw [←hv]
             congr 2
             simp only [q2,Nat.add_mul]
             omega
            ·rename_i hge
             rw [hll] at hge hc
             obtain ⟨v,hv,hr⟩:=s2 (a - len) b c hc
             have hl':(a - len) * e.sz+b<news.length:=by
              rcases Nat.lt_or_ge ((a - len) * e.sz+b) news.length with hx | hx
              ·exact hx
              ·rw [List.getElem?_eq_none hx] at hv;cases hv
             have e0:a * e.sz=len * e.sz+(a - len) * e.sz:=by rw [←Nat.add_mul];congr 1;omega
             rw [if_pos (by simp only;omega)]
             refine ⟨v,?_,hr.mono (fun _ _ _ h=>h) m2⟩
             rw [←hv]
             congr 1
             simp only
             omega)
          rw [zjj,zhs] at hst
          rw [show mkA b0 (q0+off * e.sz)=(⟨b0,q0+off * e.sz,none⟩:Addr) from rfl,hrun]
          refine ⟨_,_,φ',rfl,hst,?_,m2,hfresh⟩
          have:=VRel.blk (rd:=rd) (φ:=φ') d G [] e.sz 0 (sub off len row.es++es).length ⟨some (b0,q0+off * e.sz),pl.cap - off⟩ (some (mkA b0 (q0+off * e.sz))) hnew (.inr (by simp)) (by simp only [List.length_append,hll];omega)
          simpa [hll] using this
      ·
       have hT:∀r2 g2 p2 row2,zo (zqb σ r p) r2 g2 p2=some row2→zo σ r2 g2 p2=some row2:=fun _ _ _ _ hh=>(zc7 hh).1
       by_cases hz0:len=0
       ·subst hz0
        have hsub:sub off 0 row.es=[]:=by simp [sub]
        rw [hsub] at grow ⊢
        exact grow hT A (pl.cap - off) [] (by simp;omega) (by cases A<;>simp [Builtin.firstCells,loadCells,loadCellsFrom]) (by simp) (by simp) (by simp) (by simp)
       ·rcases hA with hA | hA
        ·omega
        ·cases had:pl.ad with
         | none=>exact absurd (hok.nil had) (by omega)
         | some bq=>
          obtain ⟨b0,q0⟩:=bq
          rw [had] at hA
          simp only [Option.map_some] at hA
          subst hA
          have hcell:∀k,k<len * e.sz→(w.cell? (mkA b0 (q0+off * e.sz+k))).isSome=true:=by
           intro k hk
           have h1:=(hok.room b0 q0 had (off * e.sz+k) (by
            rw [q2]
            have:(off+len) * e.sz≤pl.cap * e.sz:=Nat.mul_le_mul_right _ (by omega)
            rw [Nat.add_mul] at this
            omega)).1
           rwa [←Nat.add_assoc] at h1
          have hvo:(Builtin.firstCells inf.size len (.slice (some (mkA b0 (q0+off * e.sz))) len (pl.cap - off))).run P w.drew=.ok (qk w b0 (q0+off * e.sz) (len * e.sz)).toArray w.drew:=by
           refine run_firstCells_some w.drew inf.size len _ _ _ _ (by rw [qS,e3]) fun j u hu=>?_
           obtain ⟨h1,rfl⟩:=wA hu
           obtain ⟨x,hx⟩:=Option.isSome_iff_exists.1 (hcell j h1)
           rw [xy,hx]
           simpa using hx
          have:=grow hT (some (mkA b0 (q0+off * e.sz))) (pl.cap - off) (qk w b0 (q0+off * e.sz) (len * e.sz)) (by rw [hll];omega) (by rw [hll];exact hvo) (by rw [qS,hll]) hw hko
           (fun a b c hc=>by
            have hab:a * e.sz+b<len * e.sz:=by
             cases hh:(sub off len row.es)[a]? with
             | none=>rw [hh] at hc;cases hc
             | some x=>
              have ha':a<len:=by
               rw [←hll]
               rcases Nat.lt_or_ge a (sub off len row.es).length with hx | hx
               ·exact hx
               ·rw [List.getElem?_eq_none hx] at hh;cases hh
              rw [hh] at hc
              have hb':b<e.sz:=by
               rw [←hw x (List.mem_of_getElem? hh)]
               rcases Nat.lt_or_ge b x.length with hx | hx
               ·exact hx
               ·rw [Option.bind_some,List.getElem?_eq_none hx] at hc;cases hc
              have hm:=Nat.mul_le_mul_right e.sz (show a+1≤len from ha')
              rw [Nat.succ_mul] at hm
              omega
            obtain ⟨v,hv,hr⟩:=hok.cells b0 q0 had _ _ _ (hsubc hc)
            refine ⟨v,zcv hab ?_,hr⟩
            rw [←hv]
            congr 2
            rw [q2,Nat.add_mul]
            omega)
          rw [hll] at this
          exact this
    ·cases hb1
   ·cases hb1
  ·cases hbase
 ·cases ha3
theorem HRel.fsetLow {r g:Nat} {p:List Nat} {f:jQ} {row:Row} {fl':Nat} (h:HRel rd φ O w0 σ w) (hl:zz σ r=some (g,f)) (hf:f p=some row) (hao:row.ao=false) (hle:fl'≤row.fl) (hnm:fl'<3):HRel rd φ O w0 (yD σ r (g,jg f p ⟨row.sz,row.es,fl',false⟩)) w:=by
 have hat:zo σ r g p=some row:=by unfold zo;rw [hl];simp [hf]
 have hcase:∀{r2 g2 p2 row2},zo (yD σ r (g,jg f p ⟨row.sz,row.es,fl',false⟩)) r2 g2 p2=some row2→∃row1,zo σ r2 g2 p2=some row1∧row2.sz=row1.sz∧row2.es=row1.es∧row2.ao=row1.ao∧row2.fl≤row1.fl∧(row2.ao=true→row2.fl=row1.fl)∧(row2.fl=row1.fl∨row2.fl<3):=by
  intro r2 g2 p2 row2 hr
  rcases xH hl hr with ⟨rfl,rfl,rfl,rfl⟩ | ⟨h1,_⟩
  ·exact ⟨row,hat,rfl,rfl,hao.symm,hle,fun ha=>(by cases ha),.inr hnm⟩
  ·exact ⟨row2,h1,rfl,rfl,rfl,Nat.le_refl _,fun _=>rfl,.inl rfl⟩
 refine ⟨?_,?_,h.rdok,?_,?_,h.frame,h.size,h.os,h.tape,h.output⟩
 ·intro r g p row2 hr
  obtain ⟨row1,h1,e1,e2,e3,e4,e5,e6⟩:=hcase hr
  obtain ⟨pl,hp,hok⟩:=h.rows _ _ _ _ h1
  refine ⟨pl,hp,by rw [e1,e2];exact hok.wide,by rw [e2];exact hok.len,fun x hx=>(hok.kind x (by rwa [←e2])).le e4,hok.nil,by rw [e1];exact hok.room,by rw [e1,e2];exact hok.cells,fun ha=>?_,fun C e=>?_⟩
  ·rw [e5 ha,e1,e2]
   exact hok.frz (by rw [←e3];exact ha)
  ·rcases e6 with e6 | e6
   ·rw [e1];exact hok.mp C (e6▸e)
   ·exact zm4 (X:=fun C=>row2.sz=0∧∃b,pl.ad=some (b,0)∧MapAt w b C) e6 C e
 ·intro r g p row r' g' p' row' pl pl' b q q' h1 h2 h3 h4 h5 h6
  obtain ⟨x1,k1,_⟩:=hcase h1
  obtain ⟨x2,k2,_⟩:=hcase h2
  exact h.sep _ _ _ _ _ _ _ _ _ _ _ _ _ k1 k2 h3 h4 h5 h6
 ·intro r g p row pl b q h1 h2 h3 k hor
  obtain ⟨x1,k1,e1,e2,e3,_⟩:=hcase h1
  rw [e1,e2,e3] at hor
  exact h.rdsep _ _ _ _ _ _ _ k1 h2 h3 k hor
 ·intro r g p row pl b q h1 h2 h3
  obtain ⟨x1,k1,_⟩:=hcase h1
  exact h.own _ _ _ _ _ _ _ k1 h2 h3
theorem ziq (h:HRel rd φ O w0 σ w) {t tx ty:Nat} {a x v:AV} {ca cx:Value} (hab:VRel rd φ a ca) (hx:VRel rd φ x cx) {σ':Sig} (ha:zaO P σ t tx a x=some (v,σ')):
  After0 rd φ O w0 σ' v ((Builtin.copy_ #[t,tx] ty #[ca,cx]).run P w):=by
 unfold zaO at ha
 obtain ⟨i,hi,ha1⟩:=Option.bind_eq_some_iff.1 ha
 obtain ⟨e,he,ha2⟩:=Option.bind_eq_some_iff.1 ha1
 clear ha ha1
 split at ha2
 ·rename_i hk hpos htx
  have hpos:=Nat.le_of_ble_eq_true hpos
  obtain ⟨⟨es,fn⟩,hs,ha3⟩:=Option.bind_eq_some_iff.1 ha2
  clear ha2
  obtain ⟨news,s1,s2,s3,s4,s6,s5⟩:=we h hx hs
  simp only at s1 s2 s3 s4 s5 s6 ha3
  split at ha3
  ·rename_i r g p sz off len
   obtain ⟨⟨g',f⟩,hl,ha4⟩:=Option.bind_eq_some_iff.1 ha3
   clear ha3
   split at ha4
   ·rename_i hg
    have hg:=Nat.eq_of_beq_eq_true hg
    simp only at hg
    subst hg
    obtain ⟨row,hrow,ha5⟩:=Option.bind_eq_some_iff.1 ha4
    clear ha4
    split at ha5
    ·rename_i q1 q2 q3
     have q1:=Nat.eq_of_beq_eq_true q1
     have q2:=Nat.eq_of_beq_eq_true q2
     subst q1
     unfold ziJ at ha5
     split at ha5
     ·rename_i hle
      have hle:=Nat.le_of_ble_eq_true hle
      simp only [Option.some.injEq,Prod.mk.injEq] at ha5
      obtain ⟨rfl,rfl⟩:=ha5
      have hrow':f p=some row:=hrow
      have hat:zo σ r g' p=some row:=by unfold zo;rw [hl];simp [hrow']
      obtain ⟨pl,hp,hok⟩:=h.rows _ _ _ _ hat
      have hu:=yg hi hk
      have hn:min es.length len≤es.length:=Nat.min_le_left _ _
      have yi:=s5 htx (min es.length len) hn
      have hnl:(news.take (min es.length len * e.sz)).length=min es.length len * e.sz:=by
       rw [List.length_take,s1.newsLen]
       exact Nat.min_eq_left (Nat.mul_le_mul_right _ hn)
      have hmin:Nat.min es.length len=min es.length len:=rfl
      cases hab with
      | blk _ _ _ _ _ _ pl' A hφ hA hl'=>
       rw [hφ] at hp
       cases hp
       by_cases hz:min es.length len=0
       ·have hrun:(Builtin.copy_ #[t,tx] ty #[.slice A len (pl.cap - off),cx]).run P w=.ok (goInt 0) w:=by
         rw [hz] at yi
         simp only [Nat.zero_mul,List.take_zero] at yi
         cases A<;>simp [Builtin.copy_,run_underlying hu,s1.len,yV he,hmin,hz,yi,storeCells]
        rw [hrun]
        have e0:row.es.take off++(es.take len++(row.es.drop off).drop (min es.length len))=row.es:=by
         have:es.take len=[]:=by
          apply List.eq_nil_of_length_eq_zero
          rw [List.length_take,Nat.min_comm];exact hz
         rw [hz,this]
         simp
        refine ⟨_,_,rfl,?_,by rw [hz];exact .sc _ rfl⟩
        rw [e0]
        refine HRel.fsetLow h hl hrow' q3 (Nat.min_le_left _ _) (Nat.lt_of_le_of_lt (Nat.min_le_right _ _) s6)
       ·rcases hA with hA | hA
        ·omega
        ·cases had:pl.ad with
         | none=>exact absurd (hok.nil had) (by omega)
         | some bq=>
          obtain ⟨b0,q0⟩:=bq
          rw [had] at hA
          simp only [Option.map_some] at hA
          subst hA
          have hone:∀u∈news.take (min es.length len * e.sz),u.oneCell'=true:=fun u hu=>s1.one u (List.mem_of_mem_take hu)
          have hidx:∀j,j<min es.length len * e.sz→off * e.sz+j<pl.cap * e.sz:=by
           intro j hj
           have:(off+min es.length len) * e.sz≤pl.cap * e.sz:=Nat.mul_le_mul_right _ (by omega)
           rw [Nat.add_mul] at this
           omega
          have hroomc:=fun j (hj:j<min es.length len * e.sz)=>hok.room b0 q0 had (off * e.sz+j) (by rw [q2];exact hidx j hj)
          have hst:=run_storeCells_cells (P:=P) b0 (q0+off * e.sz) (news.take (min es.length len * e.sz)) 0 w
           (fun j hj=>by have:=(hroomc j (by rw [←hnl];exact hj)).1;rwa [Nat.add_zero,Nat.add_assoc]) (fun j hj=>by have:=(hroomc j (by rw [←hnl];exact hj)).2;rwa [Nat.add_zero,Nat.add_assoc]) hone
          simp only [Nat.add_zero] at hst
          have hrun:(Builtin.copy_ #[t,tx] ty #[.slice (some (mkA b0 (q0+off * e.sz))) len (pl.cap - off),cx]).run P w=.ok (goInt (min es.length len:Nat)) (w.setCells b0 (q0+off * e.sz) (news.take (min es.length len * e.sz))):=by
           simp [Builtin.copy_,run_underlying hu,s1.len,yV he,hmin,yi,hst,goInt]
          rw [hrun]
          refine ⟨_,_,rfl,?_,.sc _ rfl⟩
          refine h.store hl hrow' hφ had q3 ⟨row.sz,row.es.take off++(es.take len++(row.es.drop off).drop (min es.length len)),min row.fl fn,false⟩ rfl (Nat.lt_of_le_of_lt (Nat.min_le_right _ _) s6) rfl ?_ ?_ ?_ (q0+off * e.sz) (news.take (min es.length len * e.sz)) ?_
          ·intro y hy
           rcases List.mem_append.1 hy with hy | hy
           ·exact hok.wide y (List.mem_of_mem_take hy)
           ·rcases List.mem_append.1 hy with hy | hy
            ·rw [q2];exact s3 y (List.mem_of_mem_take hy)
            ·exact hok.wide y (List.mem_of_mem_drop (List.mem_of_mem_drop hy))
          ·have:=hok.len
           simp only [List.length_append,List.length_take,List.length_drop]
           omega
          ·intro y hy
           rcases List.mem_append.1 hy with hy | hy
           ·exact (hok.kind y (List.mem_of_mem_take hy)).le (Nat.min_le_left _ _)
           ·rcases List.mem_append.1 hy with hy | hy
            ·exact (s4 y (List.mem_of_mem_take hy)).le (Nat.min_le_right _ _)
            ·exact (hok.kind y (List.mem_of_mem_drop (List.mem_of_mem_drop hy))).le (Nat.min_le_left _ _)
          ·intro a' b' c hc
           rw [hnl,q2]
           have hoff:(row.es.take off).length=off:=by simp;omega
           have htk:(es.take len).length=min es.length len:=by simp [Nat.min_comm]
           have inb:∀{l:List (List AV)} {k:Nat},(∀x∈l,x.length=e.sz)→(l[k]?).bind (·[b']?)=some c→b'<e.sz:=by
            intro l k hw hh
            cases hx:l[k]? with
            | none=>rw [hx] at hh;cases hh
            | some x=>
             rw [hx] at hh
             rw [←hw x (List.mem_of_getElem? hx)]
             rcases Nat.lt_or_ge b' x.length with hy | hy
             ·exact hy
             ·rw [Option.bind_some,List.getElem?_eq_none hy] at hh;cases hh
           have hwrow:∀x∈row.es,x.length=e.sz:=fun x hx=>by rw [hok.wide x hx,q2]
           rw [List.getElem?_append,hoff] at hc
           split at hc
           ·rename_i hlt
            rw [List.getElem?_take,if_pos hlt] at hc
            have hb:=inb hwrow hc
            have hm:=Nat.mul_le_mul_right e.sz (show a'+1≤off from hlt)
            rw [Nat.succ_mul] at hm
            rw [if_neg (by omega)]
            have:=hok.cells b0 q0 had _ _ _ hc
            rwa [q2] at this
           ·rename_i hge
            rw [List.getElem?_append,htk] at hc
            split at hc
            ·rename_i hlt
             rw [List.getElem?_take,if_pos (by omega)] at hc
             have hb:=inb s3 hc
             have hm:=Nat.mul_le_mul_right e.sz (show a' - off+1≤min es.length len from hlt)
             rw [Nat.succ_mul] at hm
             have e1:a' * e.sz=off * e.sz+(a' - off) * e.sz:=by rw [←Nat.add_mul];congr 1;omega
             rw [if_pos (by omega)]
             obtain ⟨v,hv,hr⟩:=s2 _ _ _ hc
             refine ⟨v,?_,hr⟩
             rw [List.getElem?_take,if_pos (by omega),←hv]
             congr 1
             omega
            ·rename_i hge2
             rw [List.getElem?_drop,List.getElem?_drop] at hc
             have hb:=inb hwrow hc
             have e1:off+(min es.length len+(a' - off - min es.length len))=a':=by omega
             rw [e1] at hc
             have hm:=Nat.mul_le_mul_right e.sz (show off+min es.length len≤a' by omega)
             rw [Nat.add_mul] at hm
             rw [if_neg (by omega)]
             have:=hok.cells b0 q0 had _ _ _ hc
             rwa [q2] at this
     ·cases ha5
    ·cases ha5
   ·cases ha4
  ·cases ha3
 ·cases ha2
theorem zcW (h:HRel rd φ O w0 σ w) (hfr:∀p,φ d G p=none) {t len:Nat} {v:AV} {ev:Operand→AV} {ρ:Operand→Value} (hev:∀x,VRel rd φ (ev x) (ρ x)) {parts:Array (Nat × Operand)} {σ':Sig}
  (ha:yZ P d G σ t len (parts.toList.map fun x=>(x.1,ev x.2))=some (v,σ')):After rd φ O w0 d G σ' v ((Instr.buildSlice t len (parts.map fun (i,x)=>(i,ρ x))).run P w):=by
 unfold yZ at ha
 obtain ⟨x,hx,ha1⟩:=Option.bind_eq_some_iff.1 ha
 cases ha1
 obtain ⟨arr,T,h1,h2,h3,h4⟩:=za7 (P:=P) (w:=w) hev hx
 rw [h4]
 have hn:=h.newRow hfr ⟨x.1,x.2,flL x.2,false⟩ rfl (zff _) len arr T (0,0) (.inr (Nat.le_refl _)) h2.2.1 (by simp [h1]) (by rw [h2.1,h1];exact Nat.le_refl _) zeb h2.2.2
 refine ⟨_,_,_,rfl,hn.1,?_,hn.2,fun r g p hh=>yC r g p hh⟩
 exact VRel.blk (rd:=rd) (φ:=zB φ d G fun p=>match p with | []=>some ⟨some (w.heap.size,0),len⟩ | _=>none) d G [] x.1 0 len ⟨some (w.heap.size,0),len⟩ (some (mkA w.heap.size 0)) (by simp [zB]) (.inr (by simp)) (by simp)
end
end Go.Proofs.YtpjpkmhaffmbmaaGreat.E
end
section
namespace Go.Proofs.YtpjpkmhaffmbmaaGreat.E
open Go Go.RowKit
set_option linter.unusedVariables false
set_option linter.unusedSimpArgs false
section
variable {P:Program} {rd:RD} {φ:Phi} {O:Nat→Prop} {w0 w:World} {σ:Sig} {d G:Nat}
theorem zhv:∀{cs:List AV} {vs:List Value} {l:List Nat},zcT cs=some l→znl vs=some l→PW rd φ cs vs
 | [],[],_,_,_=>PW.nil
 | [],v::vs,l,h,k=>by
  simp only [zcT,Option.some.injEq] at h
  subst h
  simp only [znl] at k
  split at k
  ·rename_i a b h1 h2
   obtain ⟨x,y,rfl,_⟩:=qR h1
   simp at k
  ·cases k
 | .sc u::cs,[],l,h,k=>by
  simp only [znl,Option.some.injEq] at k
  subst k
  simp only [zcT] at h
  split at h
  ·rename_i a b h1 h2
   obtain ⟨x,y,rfl,_⟩:=qR h1
   simp at h
  ·cases h
 | .sc u::cs,v::vs,l,h,k=>by
  simp only [zcT] at h
  simp only [znl] at k
  split at h
  ·rename_i a b h1 h2
   split at k
   ·rename_i a' b' k1 k2
    cases h
    simp only [Option.some.injEq] at k
    obtain ⟨x,y,rfl,_⟩:=qR h1
    obtain ⟨x',y',rfl,_⟩:=qR k1
    obtain ⟨e1,e2⟩:=List.append_inj k rfl
    subst e2
    rw [e1] at k1
    have:=zhw h1 k1
    subst this
    refine PW.cons (.sc u ?_) (zhv h2 k2)
    cases u<;>simp_all [zhx,zlI]
   ·cases k
  ·cases h
 | .dead::_,_,_,h,_ | .nilS::_,_,_,h,_ | .blk ..::_,_,_,h,_ | .ptr ..::_,_,_,h,_ | .ro ..::_,_,_,h,_ | .rp _::_,_,_,h,_ | .agg _::_,_,_,h,_ | .tup _::_,_,_,h,_ | .it _::_,_,_,h,_ | .mr ..::_,_,_,h,_=>by simp [zcT] at h
theorem CodE.rel {v:Value} {a:AV} (h:CodE v a):VRel rd φ a v:=by
 obtain ⟨c,h1,h2⟩:=h
 cases a<;>simp only [zcU,reduceCtorEq] at h1
 ·rename_i u
  obtain ⟨x,y,rfl,hx⟩:=qR h1
  have hv:zhx v=some [x,y]:=by
   cases v<;>simp only [zrO] at h2<;>first | exact h2 | skip
   obtain ⟨z,hz,e⟩:=Option.map_eq_some_iff.1 h2
   simp only [List.cons.injEq] at e
   omega
  have:=zhw h1 hv
  subst this
  refine .sc u ?_
  cases u<;>simp_all [zhx,zlI]
 ·rename_i cs
  obtain ⟨l,hl,rfl⟩:=Option.map_eq_some_iff.1 h1
  have one:∀{u:Value},zhx u=some (10::l)→False:=fun hu=>by
   obtain ⟨x,y,e,hx⟩:=qR hu
   simp only [List.cons.injEq] at e
   omega
  cases v<;>simp only [zrO] at h2<;>first | exact (one h2).elim | skip
  obtain ⟨z,hz,e⟩:=Option.map_eq_some_iff.1 h2
  simp only [List.cons.injEq,true_and] at e
  subst e
  exact PW.agg (zhv hl hz)
theorem zkM:∀{cs:List AV} {vs:List Value} {l:List Nat},PW rd φ cs vs→zcT cs=some l→znl vs=some l
 | [],vs,l,h,k=>by
  have:vs=[]:=List.eq_nil_of_length_eq_zero h.1.symm
  subst this
  exact k
 | .sc u::cs,vs,l,h,k=>by
  obtain ⟨v,us,rfl,h1,h2⟩:=h.uncons
  have:=zY h1
  subst this
  simp only [zcT] at k
  split at k
  ·rename_i a b k1 k2
   simp only [znl,k1,zkM h2 k2]
   exact k
  ·cases k
 | .dead::_,_,_,_,h | .nilS::_,_,_,_,h | .blk ..::_,_,_,_,h | .ptr ..::_,_,_,_,h | .ro ..::_,_,_,_,h | .rp _::_,_,_,_,h | .agg _::_,_,_,_,h | .tup _::_,_,_,_,h | .it _::_,_,_,_,h | .mr ..::_,_,_,_,h=>by simp [zcT] at h
theorem CodE.of {v:Value} {a:AV} {c:List Nat} (h:VRel rd φ a v) (k:zcU a=some c):CodE v a:=by
 refine ⟨c,k,?_⟩
 cases a<;>simp only [zcU,reduceCtorEq] at k
 ·rename_i u
  rw [zY h]
  cases u<;>simp_all [zhx,zrO]
 ·rename_i cs
  obtain ⟨l,hl,rfl⟩:=Option.map_eq_some_iff.1 k
  obtain ⟨arr,rfl,hp⟩:=PW.of_agg h
  simp only [zrO,zkM hp hl,Option.map_some]
def zgi (P:Program) (K:Nat):AV→AV→Option Bool
 | .agg xs,.agg ys=>(zbq P K).bind fun ks=>eqA ks xs ys
 | _,_=>none
def zad (P:Program) (K:Nat) (k:AV):MC→Option (Option AV)
 | []=>some none
 | e::C=>match zgi P K k e.1 with
  | some true=>some (some e.2)
  | some false=>zad P K k C
  | none=>none
def zcR (P:Program) (K:Nat) (k:AV):Bool:=(zgi P K k k).isSome
theorem zct {t:TypeId} {ks:List TK} (h:zbq P t=some ks):∃fs,P.underlying t=some (.struct fs):=by
 unfold zbq at h
 split at h
 ·rename_i fs hu;exact ⟨fs,hu⟩
 ·cases h
theorem zci {K:Nat} {a b:AV} {va vb:Value} {r:Bool} (h:zgi P K a b=some r) (ha:VRel rd φ a va) (hb:VRel rd φ b vb) (w:World):(Op.equal K va vb).run P w=.ok r w:=by
 unfold zgi at h
 split at h
 ·obtain ⟨ks,hk,he⟩:=Option.bind_eq_some_iff.1 h
  obtain ⟨xa,rfl,pa⟩:=PW.of_agg ha
  obtain ⟨xb,rfl,pb⟩:=PW.of_agg hb
  simpa using (zaH hk (zae pa pb he) w).1
 ·cases h
def ChkD (P:Program) (d:Nat) (t:TypeId) (ks:List TK):Prop:=∀(D:Nat),d≤D→∀(em:Bool) (w:World) (xs:List Value) (r:Bool),eqK ks xs xs=some r→(Instr.checkKey em D t (mkV P t xs)).run P w=.ok () w
theorem zdC {d D:Nat} (IH:∀t ks,zbf P d t=some ks→ChkD P d t ks) (hd:d≤D) (em:Bool):∀(fs:List Field) (off:Nat) (ks:List TK),zim (zbf P d) P off fs=some ks→∀(w:World) (pre xs:List Value) (r:Bool),pre.length=off→eqK ks xs xs=some r→
  (do for f in fs do if f.name≠ "_" then Instr.checkKey em D f.type (←part f.type (pre++xs).toArray f.offset):Sem Unit).run P w=.ok () w
 | [],off,ks,h,w,pre,xs,r,h1,he=>by simp
 | f::fs,off,ks,h,w,pre,xs,r,h1,he=>by
  simp only [zim] at h
  split at h
  ·rename_i k1 hk1
   split at h
   ·rename_i hc
    obtain ⟨hn,ho,hcs⟩:=hc
    obtain ⟨k2,hk2,rfl⟩:=Option.map_eq_some_iff.1 h
    have hlen:=(zee he).1
    rw [List.length_append] at hlen
    have ex:xs=xs.take k1.length++xs.drop k1.length:=(List.take_append_drop _ _).symm
    have lx:(xs.take k1.length).length=k1.length:=by rw [List.length_take];omega
    rw [ex] at he
    obtain ⟨b,c,e1,e2,rfl⟩:=zaI lx lx he
    have p1:=zf7 (P:=P) (w:=w) hk1 hcs (pre:=pre) (xs:=xs.take k1.length) (post:=xs.drop k1.length) lx
    have q:=IH _ _ hk1 D hd em w _ b e1
    rw [List.append_assoc,←ex,h1] at p1
    have rc:=zdC IH hd em fs (off+k1.length) k2 hk2 w (pre++xs.take k1.length) (xs.drop k1.length) c (by rw [List.length_append,h1,lx]) e2
    rw [List.append_assoc,←ex] at rc
    rw [List.forIn_cons,ho]
    simp only [Sem.run_bind,hn,ne_eq,not_false_eq_true,if_true,Result.andThen_ok,p1,q,Sem.run_pure] at rc ⊢
    exact rc
   ·cases h
  ·cases h
theorem zdD:∀(d:Nat) (t:TypeId) (ks:List TK),zbf P d t=some ks→ChkD P d t ks
 | 0,t,ks,h=>by cases h
 | d+1,t,ks,h=>by
  intro D hD em w xs r he
  obtain ⟨D',rfl⟩:∃D',D=D'+1:=⟨D - 1,by omega⟩
  unfold zbf at h
  unfold mkV
  cases hu:P.underlying t with
  | none=>rw [hu] at h;cases h
  | some dsc=>
   rw [hu] at h
   have plain:(∃k,ks=[k])→(∀n e,dsc≠.array n e)→(∀fs,dsc≠.struct fs)→(∀m,dsc≠.interface m)→(Instr.checkKey em (D'+1) t (xs.headD undef)).run P w=.ok () w:=by
    rintro ⟨k,rfl⟩ n1 n2 n3
    cases dsc<;>first
     | exact absurd rfl (n1 _ _)
     | exact absurd rfl (n2 _)
     | exact absurd rfl (n3 _)
     | simp [Instr.checkKey,run_underlying hu]
   cases dsc<;>simp only at h<;>first
    | (cases h;done)
    | (cases h;exact plain ⟨_,rfl⟩ (by intros;simp) (by intros;simp) (by intros;simp))
    | skip
   rename_i fs
   split at h
   ·rename_i hp
    rw [Instr.checkKey]
    simp only [Sem.run_bind,run_underlying hu,Result.andThen_ok]
    rw [←Array.forIn_toList]
    have key:=zdC (zdD d) (D:=D') (by omega) em fs.toList 0 ks h w [] xs r rfl he
    simp only [Sem.run_bind,Sem.run_pure,ne_eq,List.nil_append] at key ⊢
    exact key
   ·cases h
theorem zcu {K:Nat} {a:AV} {va:Value} (h:zcR P K a=true) (ha:VRel rd φ a va) (em:Bool) (w:World):(Instr.checkKey em 10000 K va).run P w=.ok () w:=by
 obtain ⟨r,hr⟩:=Option.isSome_iff_exists.1 h
 cases a with
 | agg xs=>
  obtain ⟨ks,hk,he⟩:=Option.bind_eq_some_iff.1 hr
  obtain ⟨xa,rfl,pa⟩:=PW.of_agg ha
  have hv:=zae pa pa he
  obtain ⟨fs,hu⟩:=zct hk
  unfold zbq at hk
  rw [hu] at hk
  simp only at hk
  split at hk
  ·have:=zdD 8 K ks hk 10000 (by omega) em w xa.toList r hv
   unfold mkV at this
   rw [hu] at this
   simpa using this
  ·cases hk
 | _=>cases hr
theorem zk6 {K:Nat} {k:AV} {vk:Value} (hk:VRel rd φ k vk) (w:World):∀{es:List MapEntry} {C:MC},MR es C→∀{r:Option AV},zad P K k C=some r→∀i,∃x,(Instr.findAsking K vk es i).run P w=.ok x w∧
  match r with
  | none=>x=none
  | some a=>∃j e,x=some (i+j,e.val)∧es[j]?=some e∧VRel rd φ a e.val:=by
 intro es C h
 induction h with
 | nil=>
  intro r hr i
  simp only [zad,Option.some.injEq] at hr
  subst hr
  exact ⟨none,by simp [Instr.findAsking],rfl⟩
 | @cons e x l C h1 h2 t ih=>
  intro r hr i
  simp only [zad] at hr
  split at hr
  ·rename_i hq
   cases hr
   have:=zci hq hk (h1.rel (rd:=rd) (φ:=φ)) w
   exact ⟨some (i,e.val),by simp [Instr.findAsking,this],0,e,rfl,rfl,h2.rel⟩
  ·rename_i hq
   have hq:=zci hq hk (h1.rel (rd:=rd) (φ:=φ)) w
   obtain ⟨y,k1,k2⟩:=ih hr (i+1)
   refine ⟨y,by simp [Instr.findAsking,hq,k1],?_⟩
   cases r with
   | none=>exact k2
   | some a=>
    obtain ⟨j,e',rfl,k3,k4⟩:=k2
    exact ⟨j+1,e',by rw [Nat.add_assoc,Nat.add_comm 1 j],by simpa using k3,k4⟩
  ·cases hr
theorem zdy {K:Nat} {k:AV} {vk:Value} (hk:VRel rd φ k vk) (hok:zcR P K k=true) (w:World) {es:List MapEntry} {C:MC} (h:MR es C) {r:Option AV} (hr:zad P K k C=some r):∃x,(Instr.findKey K vk es).run P w=.ok x w∧
  match r with
  | none=>x=none
  | some a=>∃j e,x=some (j,e.val)∧es[j]?=some e∧VRel rd φ a e.val:=by
 have hw:(match P.underlying K with | some (.array _ _) | some (.struct _)=>true | _=>false)=true:=by
  obtain ⟨r,hr⟩:=Option.isSome_iff_exists.1 hok
  unfold zgi at hr
  split at hr
  ·obtain ⟨ks,hk,he⟩:=Option.bind_eq_some_iff.1 hr
   obtain ⟨fs,hu⟩:=zct hk
   rw [hu]
  ·cases hr
 rw [run_findKey_eq w hw]
 obtain ⟨x,h1,h2⟩:=zk6 hk w h hr 0
 refine ⟨x,h1,?_⟩
 cases r with
 | none=>exact h2
 | some a=>
  obtain ⟨j,e,rfl,k3,k4⟩:=h2
  exact ⟨j,e,by rw [Nat.zero_add],k3,k4⟩
abbrev mpR (C:MC):Row:=⟨0,[],mfl C,false⟩
theorem HRel.newMap (h:HRel rd φ O w0 σ w) (hfr:∀p,φ d G p=none):
  HRel rd (zB φ d G fun p=>match p with | []=>some ⟨some (w.heap.size,0),0⟩ | _=>none) O w0 (yD σ d (G,one (mpR []))) (w.alloc (.map #[] 0))∧
  (∀r g p pl,φ r g p=some pl→zB φ d G (fun p=>match p with | []=>some ⟨some (w.heap.size,0),0⟩ | _=>none) r g p=some pl):=by
 have hext:∀r g p pl,φ r g p=some pl→zB φ d G (fun p=>match p with | []=>some ⟨some (w.heap.size,0),0⟩ | _=>none) r g p=some pl:=by
  intro r g p pl hp
  unfold zB
  rw [if_neg (by rintro ⟨rfl,rfl⟩;rw [hfr] at hp;cases hp)]
  exact hp
 have hlt:∀{r g p row pl b q},zo σ r g p=some row→φ r g p=some pl→pl.ad=some (b,q)→b<w.heap.size:=fun h1 h2 h3=>(h.own _ _ _ _ _ _ _ h1 h2 h3).2
 have hcase:∀{r g p row'},zo (yD σ d (G,one (mpR []))) r g p=some row'→(d=r∧G=g∧[]=p∧mpR []=row')∨(zo σ r g p=some row'∧r≠d):=by
  intro r g p row' hr
  rw [yo] at hr
  by_cases hd:r=d
  ·rw [if_pos hd] at hr
   by_cases hg:G=g
   ·rw [if_pos hg] at hr
    obtain ⟨h1,h2⟩:=wH hr
    exact .inl ⟨hd.symm,hg,h1.symm,h2.symm⟩
   ·rw [if_neg hg] at hr;cases hr
  ·rw [if_neg hd] at hr
   exact .inr ⟨hr,hd⟩
 have hphi:zB φ d G (fun p=>match p with | []=>some ⟨some (w.heap.size,0),0⟩ | _=>none) d G []=some ⟨some (w.heap.size,0),0⟩:=by simp [zB]
 have hold:∀{r g p},r≠d→zB φ d G (fun p=>match p with | []=>some ⟨some (w.heap.size,0),0⟩ | _=>none) r g p=φ r g p:=by
  intro r g p hr
  unfold zB
  rw [if_neg (fun hh=>hr hh.1)]
 refine ⟨⟨?_,?_,?_,?_,?_,?_,?_,h.os,h.tape,h.output⟩,hext⟩
 ·intro r g p row' hr
  rcases hcase hr with ⟨rfl,rfl,rfl,rfl⟩ | ⟨hr,hd⟩
  ·refine ⟨_,hphi,by simp,by simp,by simp,by simp,by intro b q hb k hk;simp at hk,by intro b q hb i j c hc;simp at hc,fun ha=>(by cases ha),fun C e=>⟨rfl,w.heap.size,rfl,?_⟩⟩
   refine MapAt.enc (C:=[]) ⟨#[],0,?_,.nil⟩ e
   show (w.heap.push _)[w.heap.size]?=_
   rw [Array.getElem?_push_size]
  ·obtain ⟨pl,h1,h2⟩:=h.rows r g p row' hr
   refine ⟨pl,by rw [hold hd];exact h1,(h2.of_same (fun b q had k=>⟨yf (hlt hr h1 had),yX (hlt hr h1 had)⟩) fun b q had es ck e=>by rw [Below.heap_alloc _ _ _ (hlt hr h1 had)];exact e).mono (fun _ _ _ h=>h) hext⟩
 ·intro r g p row' r' g' p' row'' pl pl' b q q' h1 h2 h3 h4 h5 h6
  rcases hcase h1 with ⟨rfl,rfl,rfl,rfl⟩ | ⟨h1,hd⟩<;>rcases hcase h2 with ⟨rfl,rfl,rfl,rfl⟩ | ⟨h2,hd'⟩
  ·exact ⟨rfl,rfl⟩
  ·rw [hphi] at h3
   cases h3
   cases h5
   rw [hold hd'] at h4
   exact absurd (hlt h2 h4 h6) (Nat.lt_irrefl _)
  ·rw [hphi] at h4
   cases h4
   cases h6
   rw [hold hd] at h3
   exact absurd (hlt h1 h3 h5) (Nat.lt_irrefl _)
  ·rw [hold hd] at h3
   rw [hold hd'] at h4
   exact h.sep _ _ _ _ _ _ _ _ _ _ _ _ _ h1 h2 h3 h4 h5 h6
 ·intro b o v hv
  have:=h.rdok b o v hv
  rw [yf (ql (by rw [this];rfl))]
  exact this
 ·intro r g p row' pl b q h1 h2 h3 k hor
  rcases hcase h1 with ⟨rfl,rfl,rfl,rfl⟩ | ⟨h1,hd⟩
  ·rw [hphi] at h2
   cases h2
   cases h3
   cases hk:rd w.heap.size k with
   | none=>rfl
   | some v=>
    have:=ql (w:=w) (b:=w.heap.size) (k:=k) (by rw [h.rdok _ _ _ hk];rfl)
    exact absurd this (Nat.lt_irrefl _)
  ·rw [hold hd] at h2
   exact h.rdsep _ _ _ _ _ _ _ h1 h2 h3 k hor
 ·intro r g p row' pl b q h1 h2 h3
  rw [World.size_alloc]
  rcases hcase h1 with ⟨rfl,rfl,rfl,rfl⟩ | ⟨h1,hd⟩
  ·rw [hphi] at h2
   cases h2
   cases h3
   exact ⟨.inr h.size,Nat.lt_succ_self _⟩
  ·rw [hold hd] at h2
   obtain ⟨ha,hb⟩:=h.own _ _ _ _ _ _ _ h1 h2 h3
   exact ⟨ha,by omega⟩
 ·intro b hb hO
  rw [Below.heap_alloc _ _ _ (Nat.lt_of_lt_of_le hb h.size)]
  exact h.frame b hb hO
 ·rw [World.size_alloc];exact Nat.le_succ_of_le h.size
theorem HRel.setMap (h:HRel rd φ O w0 σ w) {r g:Nat} {p:List Nat} {f:jQ} {C C':MC} (hl:zz σ r=some (g,f)) (hf:f p=some (mpR C)) {pl:Pl} {b:Nat} (hφ:φ r g p=some pl) (had:pl.ad=some (b,0)) {es:Array MapEntry} {ck:Nat} (hC:MR es.toList C') (hb0:∃es0 ck0,w.heap[b]?=some (.map es0 ck0)):
  HRel rd φ O w0 (yD σ r (g,jg f p (mpR C'))) {w with heap:=w.heap.setIfInBounds b (.map es ck)}:=by
 have hat:zo σ r g p=some (mpR C):=by unfold zo;rw [hl];simp [hf]
 obtain ⟨es0,ck0,hb0⟩:=hb0
 have hblt:b<w.heap.size:=(Array.getElem?_eq_some_iff.1 hb0).1
 have hne:∀{b':Nat},b'≠b→(w.heap.setIfInBounds b (.map es ck))[b']?=w.heap[b']?:=fun hb=>by rw [Array.getElem?_setIfInBounds_ne (Ne.symm hb)]
 have hcase:=fun {r2 g2 p2 row2} (hr:zo (yD σ r (g,jg f p (mpR C'))) r2 g2 p2=some row2)=>xH hl hr
 have hsome:∀{r2 g2 p2 row2},zo (yD σ r (g,jg f p (mpR C'))) r2 g2 p2=some row2→∃x,zo σ r2 g2 p2=some x:=by
  intro r2 g2 p2 row2 hr
  rcases hcase hr with ⟨rfl,rfl,rfl,rfl⟩ | ⟨h1,_⟩
  ·exact ⟨_,hat⟩
  ·exact ⟨_,h1⟩
 have cs:∀{b' k:Nat},b'≠b→World.cell? {w with heap:=w.heap.setIfInBounds b (.map es ck)} (mkA b' k)=w.cell? (mkA b' k):=fun hb=>by
  unfold World.cell?
  rw [show (mkA _ _).block=_ from rfl,hne hb]
 have fs:∀{b' k:Nat},b'≠b→World.frozen? {w with heap:=w.heap.setIfInBounds b (.map es ck)} (mkA b' k)=w.frozen? (mkA b' k):=fun hb=>by
  unfold World.frozen?
  rw [show (mkA _ _).block=_ from rfl,hne hb]
 refine ⟨?_,?_,?_,?_,?_,?_,?_,h.os,h.tape,h.output⟩
 ·intro r2 g2 p2 row2 hr
  rcases hcase hr with ⟨rfl,rfl,rfl,rfl⟩ | ⟨hr,hn⟩
  ·obtain ⟨pl0,hp0,hok⟩:=h.rows _ _ _ _ hat
   rw [hφ] at hp0
   cases hp0
   refine ⟨pl,hφ,by simp,by simp,by simp,hok.nil,by intro b q hb k hk;simp at hk,by intro b q hb i j c hc;simp at hc,fun ha=>(by cases ha),fun D e=>⟨rfl,b,had,?_⟩⟩
   refine MapAt.enc (C:=C') ⟨es,ck,?_,hC⟩ e
   show (w.heap.setIfInBounds b _)[b]?=_
   rw [Array.getElem?_setIfInBounds,if_pos rfl,if_pos hblt]
  ·obtain ⟨pl2,h1,h2⟩:=h.rows r2 g2 p2 row2 hr
   have hb:∀b2 q2,pl2.ad=some (b2,q2)→b2≠b:=fun b2 q2 had2 e=>by
    subst e
    exact hn (h.sep _ _ _ _ _ _ _ _ _ _ _ _ _ hr hat h1 hφ had2 had)
   exact ⟨pl2,h1,h2.of_same (fun b2 q2 had2 k=>⟨cs (hb _ _ had2),fs (hb _ _ had2)⟩) fun b2 q2 had2 es ck e=>by
    show (w.heap.setIfInBounds b _)[b2]?=_
    rw [hne (hb _ _ had2)];exact e⟩
 ·intro r1 g1 p1 row1 r2 g2 p2 row2 pl1 pl2 b1 q1 q2 h1 h2 h3 h4 h5 h6
  obtain ⟨x1,e1⟩:=hsome h1
  obtain ⟨x2,e2⟩:=hsome h2
  exact h.sep _ _ _ _ _ _ _ _ _ _ _ _ _ e1 e2 h3 h4 h5 h6
 ·intro b2 o2 v hv
  rw [cs]
  ·exact h.rdok _ _ _ hv
  ·rintro rfl
   have:=h.rdsep _ _ _ _ _ _ _ hat hφ had o2 (.inl rfl)
   rw [this] at hv
   cases hv
 ·intro r2 g2 p2 row2 pl2 b2 q2 h1 h2 h3 k hor
  rcases hcase h1 with ⟨rfl,rfl,rfl,rfl⟩ | ⟨h1,_⟩
  ·exact h.rdsep _ _ _ _ _ _ _ hat h2 h3 k (.inl rfl)
  ·exact h.rdsep _ _ _ _ _ _ _ h1 h2 h3 k hor
 ·intro r2 g2 p2 row2 pl2 b2 q2 h1 h2 h3
  rw [show ({w with heap:=w.heap.setIfInBounds b (.map es ck)}:World).heap.size=w.heap.size by simp]
  obtain ⟨x1,e1⟩:=hsome h1
  exact h.own _ _ _ _ _ _ _ e1 h2 h3
 ·intro k hk hO
  show (w.heap.setIfInBounds b _)[k]?=_
  rw [hne]
  ·exact h.frame k hk hO
  ·rintro rfl
   rcases (h.own _ _ _ _ _ _ _ hat hφ had).1 with hh | hh
   ·exact hO hh
   ·omega
 ·show w0.heap.size≤(w.heap.setIfInBounds b _).size
  rw [Array.size_setIfInBounds];exact h.size
def zdZ (P:Program) (t:Nat):Option (Nat × Nat):=match P.underlying t with
 | some (.map k e)=>some (k,e)
 | _=>none
theorem zdi {t K E:Nat} (h:zdZ P t=some (K,E)):P.underlying t=some (.map K E):=by
 unfold zdZ at h
 split at h
 ·rename_i k e hu;cases h;exact hu
 ·cases h
def luV (zv:Value) (ok:Bool):Option AV→AV
 | some a=>match ok with
  | true=>.tup [a,.sc (.bool true)]
  | false=>a
 | none=>match ok with
  | true=>.tup [znF zv,.sc (.bool false)]
  | false=>znF zv
def zOf (P:Program) (E:Nat):Option Value:=(P.info? E).bind fun i=>i.zero
def CanK (P:Program) (d G:Nat) (e:Operand→AV) (σ:Sig) (op:Op) (v:AV) (σ':Sig) (b:Bool):Prop:=
 (b=true∧∃t,op=.makeMap t none∧v=.mr d G []∧σ'=yD σ d (G,one (mpR [])))∨
 (b=false∧∃t x k ok K E r g p f C res zv,op=.lookup t x k ok∧zdZ P t=some (K,E)∧zOf P E=some zv∧e x=.mr r g p∧zz σ r=some (g,f)∧f p=some (mpR C)∧zcR P K (e k)=true∧zad P K (e k) C=some res∧v=luV zv ok res∧σ'=σ)∨
 (b=false∧∃t m k x K E r g p f C ck cx,op=.mapUpdate t m k x∧zdZ P t=some (K,E)∧e m=.mr r g p∧zz σ r=some (g,f)∧f p=some (mpR C)∧zcR P K (e k)=true∧zad P K (e k) C=some none∧zcU (e k)=some ck∧zcU (e x)=some cx∧v=.dead∧σ'=yD σ r (g,jg f p (mpR (C++[(e k,e x)]))))
theorem MR.snoc {l:List MapEntry} {C:MC} (h:MR l C) {e:MapEntry} {x:AV × AV} (h1:CodE e.key x.1) (h2:CodE e.val x.2):MR (l++[e]) (C++[x]):=by
 induction h with
 | nil=>exact .cons h1 h2 .nil
 | cons a b _ ih=>exact .cons a b ih
theorem zis (h:HRel rd φ O w0 σ w) (hfr:∀p,φ d G p=none) {ev:Operand→AV} {ρ:Operand→Value} (hev:∀x,VRel rd φ (ev x) (ρ x)) {o:Oper} {v:AV} {σ':Sig} {b:Bool}
  (ha:CanK P d G ev σ o.op v σ' b):zcI rd φ O w0 d G b σ' v ((execOp ρ o).run P w):=by
 rcases ha with ⟨rfl,t,hop,rfl,rfl⟩ | ⟨rfl,t,x,k,ok,K,E,r,g,p,f,C,res,zv,hop,hT,hE,hx,hl,hf,hk,hfd,rfl,rfl⟩ | ⟨rfl,t,m,k,x,K,E,r,g,p,f,C,ck,cx,hop,hT,hx,hl,hf,hk,hfd,hck,hcx,rfl,rfl⟩
 ·obtain ⟨n1,n2⟩:=h.newMap hfr
  refine ⟨.value (.map (some w.heap.size)),.map (some w.heap.size),_,rd,_,?_,.inl rfl,.refl,n1,.mr d G [] ⟨some (w.heap.size,0),0⟩ w.heap.size (by simp [zB]) rfl,n2,fun r g p hh=>(yC r g p hh).imp id fun h=>⟨rfl,h⟩⟩
  unfold execOp
  rw [hop]
  simp only [Option.map_none,Sem.run_bind,run_makeMap,Result.andThen_ok,Sem.run_pure]
 ·have hu:=zdi hT
  obtain ⟨pl,hφ,hok⟩:=h.rows r g p (mpR C) (by unfold zo;rw [hl];simp [hf])
  obtain ⟨-,b,had,es,ck,hb,hM⟩:=hok.mp C rfl
  have hxv:=hev x
  rw [hx] at hxv
  have hm:ρ x=.map (some b):=by
   cases hr:ρ x with
   | map a=>
    rw [hr] at hxv
    cases hxv with
    | mr _ _ _ pl' b' h1 h2=>rw [hφ] at h1;cases h1;rw [had] at h2;cases h2;rfl
   | _=>rw [hr] at hxv;cases hxv
  obtain ⟨y,hy1,hy2⟩:=zdy (hev k) hk w hM hfd
  have hc:=zcu hk (hev k) es.isEmpty w
  obtain ⟨ii,hi1,hi2⟩:=Option.bind_eq_some_iff.1 hE
  have hz:(zeroValue E).run P w=.ok zv w:=by simp [zeroValue,typeInfo,hi1,hi2]
  have hrun:∃cv,(Instr.lookup t (ρ x) (ρ k) ok).run P w=.ok cv w∧VRel rd φ (luV zv ok res) cv:=by
   rw [hm]
   unfold Instr.lookup
   simp only [Sem.run_bind,run_underlying hu,Result.andThen_ok,MapKept.run_getObj_map hb,Sem.run_pure,hc,hy1]
   cases res with
   | none=>
    subst hy2
    simp only [Sem.run_bind,hz,Result.andThen_ok,Sem.run_pure]
    cases ok with
    | true=>exact ⟨_,rfl,PW.tup (PW.cons (zen zv) (PW.cons (.sc _ rfl) PW.nil))⟩
    | false=>exact ⟨_,rfl,zen zv⟩
   | some a=>
    obtain ⟨j,en,rfl,-,hv⟩:=hy2
    simp only [Sem.run_bind,Result.andThen_ok,Sem.run_pure]
    cases ok with
    | true=>exact ⟨_,rfl,PW.tup (PW.cons hv (PW.cons (.sc _ rfl) PW.nil))⟩
    | false=>exact ⟨_,rfl,hv⟩
  obtain ⟨cv,hrun,hv⟩:=hrun
  unfold execOp
  rw [hop]
  exact (After0.same h hrun hv).next
 ·have hu:=zdi hT
  obtain ⟨pl,hφ,hok⟩:=h.rows r g p (mpR C) (by unfold zo;rw [hl];simp [hf])
  obtain ⟨-,b,had,es,clk,hb,hM⟩:=hok.mp C rfl
  have hxv:=hev m
  rw [hx] at hxv
  have hm:ρ m=.map (some b):=by
   cases hr:ρ m with
   | map a=>
    rw [hr] at hxv
    cases hxv with
    | mr _ _ _ pl' b' h1 h2=>rw [hφ] at h1;cases h1;rw [had] at h2;cases h2;rfl
   | _=>rw [hr] at hxv;cases hxv
  obtain ⟨y,hy1,hy2⟩:=zdy (hev k) hk w hM hfd
  subst hy2
  have hc:=zcu hk (hev k) false w
  have hrun:(Instr.mapUpdate t (ρ m) (ρ k) (ρ x)).run P w=.ok () {w with heap:=w.heap.setIfInBounds b (.map (es.push {key:=ρ k,val:=ρ x,born:=clk}) (clk+1))}:=by
   rw [hm]
   unfold Instr.mapUpdate
   simp only [Sem.run_bind,run_underlying hu,Result.andThen_ok,MapKept.run_getObj_map hb,Sem.run_pure,hc,hy1]
   exact MapKept.run_setObj_map _ hb
  have hn:=h.setMap hl hf hφ had (es:=es.push {key:=ρ k,val:=ρ x,born:=clk}) (ck:=clk+1) (C':=C++[(ev k,ev x)]) (by rw [Array.toList_push];exact hM.snoc (.of (hev k) hck) (.of (hev x) hcx)) ⟨_,_,hb⟩
  refine ⟨.skip,undef,_,rd,φ,?_,.inr ⟨rfl,rfl⟩,.refl,hn,.dead _,fun _ _ _ _ h=>h,fun _ _ _ h=>.inl h⟩
  unfold execOp
  rw [hop]
  simp only [Sem.run_bind,hrun,Result.andThen_ok,Sem.run_pure]
end
end Go.Proofs.YtpjpkmhaffmbmaaGreat.E
end
section
namespace Go.Proofs.YtpjpkmhaffmbmaaGreat.E
open Go Go.RowKit
set_option linter.unusedVariables false
def jX (P:Program) (d G:Nat) (ev:Operand→AV) (σ:Sig):Op→Option (AV × Sig)
 | .buildSlice t len parts=>yZ P d G σ t len (parts.toList.map fun x=>(x.1,ev x.2))
 | .convert s t x=>match tk P s with
  | some .string=>zpA P d G σ t (ev x)
  | _=>none
 | .call c=>match c.callee,c.args.toList,c.argTypes.toList with
  | .builtin .append,[x,y],[t,tx]=>qA P d G σ t tx (ev x) (ev y)
  | .builtin .copy,[x,y],[t,tx]=>zaO P σ t tx (ev x) (ev y)
  | _,_,_=>none
 | _=>none
section
variable {P:Program} {rd:RD} {φ:Phi} {O:Nat→Prop} {w0 w:World} {σ:Sig} {d G:Nat}
theorem zej (w:World) (e:TypeId) (s:ByteArray):Lib.bytesWorld w e s=w.drew.alloc (.cells (Lib.bytesCells w e s) e ((Lib.bytesCells w e s).size,(Lib.bytesCells w e s).size+1)):=by
 have hh:(Lib.bytesWorld w e s).heap=(w.drew.alloc (.cells (Lib.bytesCells w e s) e ((Lib.bytesCells w e s).size,(Lib.bytesCells w e s).size+1))).heap:=by
  apply Array.ext_getElem?
  intro i
  rcases Nat.lt_trichotomy i w.heap.size with h | h | h
  ·rw [Lib.bytesWorld_at_old w e s i h]
   have:=Below.heap_alloc w.drew (.cells (Lib.bytesCells w e s) e ((Lib.bytesCells w e s).size,(Lib.bytesCells w e s).size+1)) i h
   rw [this];rfl
  ·subst h
   rw [Lib.bytesWorld_at_new]
   show _=(w.heap.push _)[w.heap.size]?
   rw [Array.getElem?_push_size]
  ·rw [Array.getElem?_eq_none (by rw [Lib.bytesWorld_size];omega),Array.getElem?_eq_none (by rw [World.size_alloc];show w.heap.size+1≤i;omega)]
 have hext:∀a b:World,a.heap=b.heap→a.tape=b.tape→a.drawn=b.drawn→a.os=b.os→a.output=b.output→a=b:=by
  rintro ⟨⟩ ⟨⟩ h1 h2 h3 h4 h5
  simp_all
 exact hext _ _ hh rfl rfl rfl rfl
theorem zjo (h:HRel rd φ O w0 σ w) (hfr:∀p,φ d G p=none) {s t:Nat} {x v:AV} {cx:Value} (hs:tk P s=some .string) (hx:VRel rd φ x cx) {σ':Sig} (ha:zpA P d G σ t x=some (v,σ')):
  After rd φ O w0 d G σ' v ((convert s t cx).run P w):=by
 unfold zpA at ha
 obtain ⟨i,hi,ha1⟩:=Option.bind_eq_some_iff.1 ha
 split at ha1
 ·rename_i b hk hel
  cases ha1
  cases zY hx
  have hu:P.underlying t=some (.slice i.el):=by
   obtain ⟨i',hi',hk'⟩:=zcJ hk
   rw [hi] at hi'
   cases hi'
   exact yg hi hk'
  have he:P.underlying i.el=some (.int .u8):=by
   obtain ⟨e,he,hk⟩:=zcJ hel
   obtain ⟨dsc,h1,h2,_⟩:=yO he
   rw [hk] at h2
   cases dsc<;>simp [xe] at h2
   rw [h1,h2]
  rw [Lib.run_convert_string_bytes w s t i.el b (ji hs) hu he,zej]
  have hge:=grownCap_ge w b.size 0 i.el
  have hl:(b.data.toList.map zy).length=b.size:=by rw [List.length_map,Array.length_toList];rfl
  have hsz:(Lib.bytesCells w i.el b).size=grownCap w b.size 0 i.el:=by
   have:b.data.size=b.size:=rfl
   simp [Lib.bytesCells,this];omega
  have hn:=h.drew.newRow hfr ⟨1,b.data.toList.map zy,2,false⟩ rfl (by show (2:Nat)<3;decide) (grownCap w b.size 0 i.el) (Lib.bytesCells w i.el b) i.el ((Lib.bytesCells w i.el b).size,(Lib.bytesCells w i.el b).size+1) (.inl (Nat.le_refl _))
   (fun e he=>by obtain ⟨x,_,rfl⟩:=List.mem_map.1 he;rfl) (by rw [hl];exact hge) (by rw [hsz,Nat.mul_one];exact Nat.le_refl _)
   (fun e he=>by obtain ⟨x,_,rfl⟩:=List.mem_map.1 he;exact KOK.ofC (zy x))
   (fun a c u hc=>by
    simp only [List.getElem?_map] at hc
    cases hb:b.data.toList[a]? with
    | none=>rw [hb] at hc;cases hc
    | some y=>
     rw [hb] at hc
     cases c with
     | zero=>
      simp only [Option.map_some,Option.bind_some,zy,List.getElem?_cons_zero,Option.some.injEq] at hc
      subst hc
      have hlt:a<b.data.size:=by
       rcases Nat.lt_or_ge a b.data.size with hx | hx
       ·exact hx
       ·rw [List.getElem?_eq_none (by simpa using hx)] at hb;cases hb
      refine ⟨.int .u8 y.toNat,?_,.sc _ rfl⟩
      have hb':b.data[a]?=some y:=by rw [←hb];simp
      simp only [Lib.bytesCells,Nat.mul_one,Nat.add_zero]
      rw [Array.getElem?_append_left (by simpa using hlt),Array.getElem?_map,hb']
      rfl
     | succ c=>simp [zy] at hc)
  refine ⟨_,_,_,rfl,hn.1,?_,hn.2,fun r g p hh=>yC r g p hh⟩
  have:=VRel.blk (rd:=rd) (φ:=zB φ d G fun p=>match p with | []=>some ⟨some (w.heap.size,0),grownCap w b.size 0 i.el⟩ | _=>none) d G [] 1 0 b.data.toList.length ⟨some (w.heap.size,0),grownCap w b.size 0 i.el⟩ (some (mkA w.heap.size 0)) (by simp [zB]) (.inr (by simp)) (by rw [Array.length_toList];simpa using hge)
  have e1:b.data.toList.length=b.size:=by rw [Array.length_toList];rfl
  rw [e1] at this ⊢
  exact this
 ·cases ha1
theorem zfx (h:HRel rd φ O w0 σ w) (hfr:∀p,φ d G p=none) {ev:Operand→AV} {ρ:Operand→Value} (hev:∀x,VRel rd φ (ev x) (ρ x)) {o:Oper} {v:AV} {σ':Sig}
  (ha:jX P d G ev σ o.op=some (v,σ')):zcI rd φ O w0 d G true σ' v ((execOp ρ o).run P w):=by
 unfold execOp
 cases hop:o.op with
 | buildSlice t len parts=>
  rw [hop] at ha
  exact (zcW h hfr hev ha).next
 | convert s t x=>
  rw [hop] at ha
  simp only [jX] at ha
  split at ha
  ·rename_i hs
   exact (zjo h hfr hs (hev x) ha).next
  ·cases ha
 | call c=>
  rw [hop] at ha
  simp only [jX] at ha
  split at ha
  ·rename_i x y t tx hcal hargs hts
   have h1:c.args=#[x,y]:=by rw [←Array.toList_inj,hargs]
   have h2:c.argTypes=#[t,tx]:=by rw [←Array.toList_inj,hts]
   have key:=(zfv (ty:=o.type) h hfr (hev x) (hev y) ha).next
   have e1:Array.map ρ #[x,y]=#[ρ x,ρ y]:=by simp
   simp only [resolve,hcal,h1,h2,e1]
   exact key
  ·rename_i x y t tx hcal hargs hts
   have h1:c.args=#[x,y]:=by rw [←Array.toList_inj,hargs]
   have h2:c.argTypes=#[t,tx]:=by rw [←Array.toList_inj,hts]
   have key:=(ziq (ty:=o.type) h (hev x) (hev y) ha).next (d:=d) (G:=G) (b:=true)
   have e1:Array.map ρ #[x,y]=#[ρ x,ρ y]:=by simp
   simp only [resolve,hcal,h1,h2,e1]
   exact key
  ·cases ha
 | _=>rw [hop] at ha;cases ha
end
def CanC (P:Program) (n d G:Nat) (σ:Sig) (args:List AV) (v:AV) (σ':Sig):Prop:=
 ∃σ1 as res rf,qx σ args=some (σ1,as)∧CallR P n as res rf∧zjr rf=true∧v=nm d G res∧σ'=zfF σ1 d G rf
def CanL (P:Program) (n d G:Nat) (σ:Sig) (args:List AV) (v:AV) (σ':Sig):Prop:=
 ∃σ1 as res rf,qx σ args=some (σ1,as)∧CallR P n as res rf∧(zc9 res=true∧zav rf=true)∧v=nm d G res∧σ'=zfF σ d G rf
def CanM (P:Program) (n d G:Nat) (σ:Sig) (args:List AV) (v:AV) (σ':Sig):Prop:=
 ∃ms L σ1 as σin res σout,L=zgB false σ 1 30 1000000 [] (zjS ms args)∧(je L=true∧zrd L=true)∧zcP (lkN L) σ ms args=some (σ1,as)∧zeN σ1 (lkN L) L=some σin∧zW P n σin as res σout∧
  zfl σout=true∧zmX (bkN L d G) (zo1 σ1 L) σout=some σ'∧v=zpM (bkN L d G) res
def CanN (P:Program) (n d G:Nat) (σ:Sig) (args:List AV) (v:AV) (σ':Sig):Prop:=
 ∃ms L σ1 as σin res σout,L=zgB false σ 1 30 1000000 [] (zjS ms args)∧(je L=true∧zrd L=true)∧zcP (lkN L) σ ms args=some (σ1,as)∧zeN σ1 (lkN L) L=some σin∧zeN σ (lkN L) L=some σin∧zW P n σin as res σout∧
  (zc9 res=true∧zik σout)∧zfl σout=true∧zmX (bkN L d G) (zo1 σ L) σout=some σ'∧v=zpM (bkN L d G) res
def fnOf:Value→Option Nat
 | .func (.func n) first captured=>match first.toList,captured.toList with
  | [.agg a],[]=>match a.toList with
   | []=>some n
   | _=>none
  | _,_=>none
 | _=>none
theorem zoX {n:Nat}:fnOf (.func (.func n) #[.agg #[]] #[])=some n:=rfl
def zcD (P:Program) (t:Nat):Option AV:=(ti P t).bind fun i=>match i.ag,i.sz with
 | true,0=>some (.agg [])
 | _,_=>none
def ziE (f:Nat):AV→Option AV
 | .agg []=>some (.sc (.func (.func f) #[.agg #[]] #[]))
 | _=>none
def zqk (P:Program) (e:Operand→AV):Op→Option AV
 | .load t (.global g)=>zcD P t
 | .makeFunc (.func f) first captured=>match first.toList,captured.toList with
  | [x],[]=>ziE f (e x)
  | _,_=>none
 | _=>none
def fnV:AV→Option Nat
 | .sc v=>fnOf v
 | _=>none
def CanO (P:Program) (d:Nat) (op:Op) (e:Operand→AV) (σ:Sig) (G:Nat) (v:AV) (σ':Sig) (b:Bool):Prop:=
 (xR P d G e σ op=some (v,σ')∧b=zek op)∨(jX P d G e σ op=some (v,σ')∧b=true)∨
 (b=true∧∃c n,op=.call c∧c.callee=.value (.func n)∧
  (CanC P n d G σ (c.args.toList.map e) v σ'∨CanL P n d G σ (c.args.toList.map e) v σ'∨CanM P n d G σ (c.args.toList.map e) v σ'∨CanN P n d G σ (c.args.toList.map e) v σ'))∨
 (zqk P e op=some v∧σ'=σ∧b=false)∨
 (b=true∧∃c n x,op=.call c∧c.callee=.value x∧fnV (e x)=some n∧CanL P n d G σ (.agg []::c.args.toList.map e) v σ')∨
 CanK P d G e σ op v σ' b
def Can (P:Program) (o:Oper) (e:Operand→AV) (σ:Sig) (G:Nat) (v:AV) (σ':Sig) (b:Bool):Prop:=CanO P (o.dst.getD 0) o.op e σ G v σ' b
def zbz (P:Program) (o:Oper) (s:St) (K:St→Prop):Prop:=∃v σ' b,Can P o (ev s) s.σ s.G v σ' b∧put s o.dst v σ' b K
def yn (P:Program) (ops:Array Oper) (o:Oper) (s:St) (K:St→Prop):Prop:=
 match o.guard with
 | none=>zbz P o s K
 | some (j,want)=>match xt ops j with
  | none=>False
  | some t=>match zz s.tm t with
   | some (.sc (.bool b))=>Br b (Br want (zbz P o s K) (put s o.dst (.tup []) s.σ false K)) (Br want (put s o.dst (.tup []) s.σ false K) (zbz P o s K))
   | some (.tup [])=>put s o.dst (.tup []) s.σ false K
   | _=>False
def zc4 (P:Program) (ops:Array Oper):List Oper→St→(St→Prop)→Prop
 | [],s,Q=>Q s
 | o::os,s,Q=>yn P ops o s fun s'=>zc4 P ops os s' Q
section
variable {P:Program} {rd:RD} {φ:Phi} {O:Nat→Prop} {w0 w:World} {s:St} {a:Act}
theorem zmr {o:Oper} {c:Call} {n:Nat} (hop:o.op=.call c) (hcal:c.callee=.value (.func n)) (hfn:zls P n):(execOp a.eval o).run P w=.ok (.enter n (c.args.map a.eval)) w:=by
 obtain ⟨fn,hf1,hf2,hf3⟩:=hfn
 unfold execOp
 rw [hop]
 have hf2':¬fn.name= "runtime.NumGoroutine" :=by simpa using hf2
 have hf3':¬fn.body=none:=fun e=>by rw [e] at hf3;cases hf3
 simp [resolve,hcal,Act.eval,Deferred.ofValue,invoke,callFunc,hf1,hf2',hf3']
theorem zmo {v:Value} {n:Nat} (h:fnOf v=some n):v=.func (.func n) #[.agg #[]] #[]:=by
 unfold fnOf at h
 split at h
 ·rename_i m first captured
  split at h
  ·rename_i a h1 h2
   split at h
   ·rename_i h3
    cases h
    have e1:first=#[.agg a]:=by rw [←Array.toList_inj,h1]
    have e2:captured=#[]:=by rw [←Array.toList_inj,h2]
    have e3:a=#[]:=by rw [←Array.toList_inj,h3]
    rw [e1,e2,e3]
   ·cases h
  ·cases h
 ·cases h
theorem zoW {c:AV} {v:Value} {n:Nat} (hv:VRel rd φ c v) (h:fnV c=some n):v=.func (.func n) #[.agg #[]] #[]:=by
 unfold fnV at h
 split at h
 ·rw [zY hv];exact zmo h
 ·cases h
theorem zlA {v:Value} (hv:VRel rd φ (.agg []) v):v=.agg #[]:=by
 obtain ⟨arr,rfl,hp⟩:=PW.of_agg hv
 have:arr.toList=[]:=List.eq_nil_of_length_eq_zero hp.1.symm
 rw [show arr=#[] by rw [←Array.toList_inj,this]]
theorem ziC {ρ:Operand→Value} {d G:Nat} {o:Oper} {v:AV} {e:Operand→AV} {σ:Sig} (h:HRel rd φ O w0 σ w) (hg:∀g,ρ (.global g)=.pointer (some ⟨g,0,none⟩)) (hev:∀x,VRel rd φ (e x) (ρ x)) (ha:zqk P e o.op=some v):
  zcI rd φ O w0 d G false σ v ((execOp ρ o).run P w):=by
 unfold execOp
 unfold zqk at ha
 split at ha
 ·rename_i t g hop
  rw [hop]
  obtain ⟨i,hi,ha⟩:=Option.bind_eq_some_iff.1 ha
  split at ha
  ·rename_i h1 h2
   cases ha
   refine After0.next ?_
   rw [hg]
   obtain ⟨cv,hrun,hv⟩:=zch (P:=P) (rd:=rd) (φ:=φ) (w:=w) hi (cs:=[]) (b:=g) (q:=0) (fun j c hc=>by simp at hc) (o:=0) (v:=.agg []) (by simp [ldC,h1,h2])
   exact .same h hrun hv
  ·cases ha
 ·rename_i f first captured hop
  rw [hop]
  split at ha
  ·rename_i x h1 h2
   have e1:first=#[x]:=by rw [←Array.toList_inj,h1]
   have e2:captured=#[]:=by rw [←Array.toList_inj,h2]
   unfold ziE at ha
   split at ha
   ·rename_i hx
    cases ha
    have hxv:=hev x
    rw [hx] at hxv
    have hxv:=zlA hxv
    refine After0.next ?_
    refine .same h (cv:=.func (.func f) #[.agg #[]] #[]) ?_ (.sc _ rfl)
    simp [Instr.makeFunc,e1,e2,hxv]
   ·cases ha
  ·cases ha
 ·cases ha
theorem zms {o:Oper} {c:Call} {n:Nat} {x:Operand} (hop:o.op=.call c) (hcal:c.callee=.value x) (hx:a.eval x=.func (.func n) #[.agg #[]] #[]) (hfn:zls P n):(execOp a.eval o).run P w=.ok (.enter n (#[Value.agg #[]]++c.args.map a.eval)) w:=by
 obtain ⟨fn,hf1,hf2,hf3⟩:=hfn
 unfold execOp
 rw [hop]
 have hf2':¬fn.name= "runtime.NumGoroutine" :=by simpa using hf2
 have hf3':¬fn.body=none:=fun e=>by rw [e] at hf3;cases hf3
 simp [resolve,hcal,hx,Deferred.ofValue,invoke,callFunc,hf1,hf2',hf3']
theorem wb {rd0:zcX} (hx0:ExtE O w0 rd0 rd φ) {o:Oper} {K:St→Prop} {Q:Exit→Act→World→Prop} {next:Act→World→Prop} (h:Rel rd φ O w0 s a w)
  (hv:zbz P o s K) (hn:∀s' a' w',K s'→zan rd0 O w0 s' a' w'→next a' w'):o.wp P a w next Q:=by
 have hfr:∀p,φ (o.dst.getD 0) s.G p=none:=fun p=>by
  cases hp:φ (o.dst.getD 0) s.G p with
  | none=>rfl
  | some x=>exact absurd (h.gen _ s.G p (by rw [hp];simp)) (Nat.lt_irrefl _)
 obtain ⟨v,σ',b,hc,hk⟩:=hv
 have plain:∀{b:Bool},put s o.dst v σ' b K→zcI rd φ O w0 (o.dst.getD 0) s.G b σ' v ((execOp a.eval o).run P w)→o.wp P a w next Q:=by
  rintro b hk ⟨nx,cv,w',rd',φ',h1,h2,hx,h3,h4,h5,h6⟩
  obtain ⟨s',hs,hrel⟩:=h.put hk hx.1 h3 h4 h5 h6
  unfold Oper.wp
  rw [h1]
  rcases h2 with rfl | ⟨rfl,rfl⟩
  ·exact hn _ _ _ hs ⟨rd',φ',hx0.step hx h5,hrel⟩
  ·exact hn _ _ _ hs ⟨rd',φ',hx0.step hx h5,hrel⟩
 rcases hc with ⟨ha,rfl⟩ | ⟨ha,rfl⟩ | ⟨rfl,c,n,hop,hcal,hc⟩ | ⟨ha,rfl,rfl⟩ | ⟨rfl,c,n,x,hop,hcal,hfv,hc⟩ | hcm
 ·exact plain hk (zgR h.heap hfr (fun x=>h.ev x) ha)
 ·exact plain hk (zfx h.heap hfr (fun x=>h.ev x) ha)
 ·have hpw:PW rd φ (c.args.toList.map (ev s)) (c.args.map a.eval).toList:=by
   refine ⟨by simp,fun j x hj=>?_⟩
   rw [List.getElem?_map] at hj
   obtain ⟨y,hy,rfl⟩:=Option.map_eq_some_iff.1 hj
   exact ⟨a.eval y,by simp [hy],h.ev y⟩
  have fin:zls P n∧Calls P n (c.args.map a.eval) w (fun e w'=>∃v s',e=.returned v∧K s'∧zan rd0 O w0 s' (a.put o.dst v) w')→o.wp P a w next Q:=by
   rintro ⟨hfn,hcall⟩
   unfold Oper.wp
   rw [zmr hop hcal hfn]
   show Calls P n _ w _
   refine hcall.mono ?_
   rintro e w' ⟨v,s',rfl,hk,hrel⟩
   exact hn _ _ _ hk hrel
  rcases hc with ⟨σ1,as,res,rf,h1,h2,h3,rfl,rfl⟩ | ⟨σ1,as,res,rf,h1,h2,h3,rfl,rfl⟩ | ⟨ms,L,σ1,as,σin,res,σout,rfl,h2,h3,h4,h5,h6,h7,rfl⟩ | ⟨ms,L,σ1,as,σin,res,σout,rfl,h2,h3,h4,h5,h6,h7,h8,h9,rfl⟩
  ·exact fin (zey hx0 h hpw (zE h1 ⟨res,rf,h2,h3,hk⟩))
  ·exact fin (zaQ (d:=o.dst) hx0 h hpw (zE h1 ⟨res,rf,h2,h3,hk⟩))
  ·exact fin (zex (ms:=ms) (d:=o.dst) hx0 h hpw ⟨h2,zE h3 (zE h4 ⟨res,σout,h5,h6,zE h7 hk⟩)⟩)
  ·exact fin (zdM (ms:=ms) (d:=o.dst) hx0 h hpw ⟨h2,zE h3 (zE h4 ⟨h5,res,σout,h6,h7,h8,zE h9 hk⟩)⟩)
 ·exact plain hk (ziC h.heap (fun _=>rfl) (fun x=>h.ev x) ha)
 ·have hpw:PW rd φ (AV.agg []::c.args.toList.map (ev s)) (#[Value.agg #[]]++c.args.map a.eval).toList:=by
   rw [Array.toList_append]
   refine PW.cons (PW.agg (arr:=#[]) PW.nil) ⟨by simp,fun j x hj=>?_⟩
   rw [List.getElem?_map] at hj
   obtain ⟨y,hy,rfl⟩:=Option.map_eq_some_iff.1 hj
   exact ⟨a.eval y,by simp [hy],h.ev y⟩
  have fin:zls P n∧Calls P n (#[Value.agg #[]]++c.args.map a.eval) w (fun e w'=>∃v s',e=.returned v∧K s'∧zan rd0 O w0 s' (a.put o.dst v) w')→o.wp P a w next Q:=by
   rintro ⟨hfn,hcall⟩
   unfold Oper.wp
   rw [zms hop hcal (zoW (h.ev x) hfv) hfn]
   show Calls P n _ w _
   refine hcall.mono ?_
   rintro e w' ⟨v,s',rfl,hk,hrel⟩
   exact hn _ _ _ hk hrel
  obtain ⟨σ1,as,res,rf,h1,h2,h3,rfl,rfl⟩:=hc
  exact fin (zaQ (d:=o.dst) hx0 h hpw (zE h1 ⟨res,rf,h2,h3,hk⟩))
 ·exact plain hk (zis h.heap hfr (fun x=>h.ev x) hcm)
theorem wa {rd0:zcX} (hx0:ExtE O w0 rd0 rd φ) {ops:Array Oper} {i:Nat} {o:Oper} (ho:ops[i]?=some o) {K:St→Prop} {Q:Exit→Act→World→Prop} {next:Act→World→Prop} (h:Rel rd φ O w0 s a w)
  (hv:yn P ops o s K) (hn:∀s' a' w',K s'→zan rd0 O w0 s' a' w'→next a' w'):
  if Region.wanted o (yielded ops a.tmps) then o.wp P a w next Q∨(o.asks P a w∧LetsOut Q) else next (a.put o.dst undef) w:=by
 have skip:∀{s:St},Rel rd φ O w0 s a w→put s o.dst (.tup []) s.σ false K→next (a.put o.dst undef) w:=by
  intro s h hk
  obtain ⟨s',hs,hrel⟩:=h.put hk (fun _ _ _ h=>h) h.heap (PW.tup (arr:=#[]) PW.nil) (fun _ _ _ _ h=>h) (fun _ _ _ h=>.inl h)
  exact hn _ _ _ hs ⟨rd,φ,hx0,hrel⟩
 unfold yn at hv
 split at hv
 ·rename_i hg
  have hw:Region.wanted o (yielded ops a.tmps)=true:=by simp [Region.wanted,hg]
  rw [if_pos hw]
  exact .inl (wb hx0 h hv hn)
 ·rename_i j want hg
  split at hv
  ·cases hv
  ·rename_i t hslot
   have hslot':(ops[j]?).bind (·.dst)=some t:=by
    unfold xt at hslot
    split at hslot
    ·rename_i hx;rw [hx];exact hslot
    ·cases hslot
   split at hv
   ·rename_i b hl
    obtain ⟨h1,_⟩:=h.known hl
    have hw:Region.wanted o (yielded ops a.tmps)=(b==want):=by
     simp [Region.wanted,hg,yielded,hslot',h1]
    cases b with
    | true=>
     rw [qW] at hv
     cases want with
     | true=>rw [if_pos (by rw [hw];rfl)];exact .inl (wb hx0 h hv hn)
     | false=>rw [if_neg (by rw [hw];decide)];exact skip h hv
    | false=>
     rw [xG] at hv
     cases want with
     | false=>rw [if_pos (by rw [hw];rfl)];exact .inl (wb hx0 h hv hn)
     | true=>rw [if_neg (by rw [hw];decide)];exact skip h hv
   ·rename_i hl
    have hv0:=h.tm t _ hl
    have hw:Region.wanted o (yielded ops a.tmps)=false:=by
     obtain ⟨arr,e,_⟩:=PW.of_tup hv0
     have e2:∀b:Bool,a.tmps[t]?≠some (.bool b):=by
      intro b hb
      rw [Array.getD_eq_getD_getElem?,hb] at e
      cases e
     have e3:yielded ops a.tmps j=none:=by
      unfold yielded
      rw [hslot']
      split
      ·rename_i b hb
       exact absurd hb (e2 b)
      ·rfl
     simp [Region.wanted,hg,e3]
    rw [if_neg (by rw [hw];decide)]
    exact skip h hv
   ·cases hv
theorem zaP {rd:zcX} {ops:Array Oper} {K:St→Prop} {Q:Exit→Act→World→Prop} (hn:∀s' a' w',K s'→zan rd O w0 s' a' w'→Q .normal a' w'):
  ∀(l:List Nat) (os:List Oper),l.map (ops[·]?)=os.map some→∀s a w,zan rd O w0 s a w→zc4 P ops os s K→wpOps P ops Q l a w
 | [],[],_,s,a,w,h,hv=>hn _ _ _ hv h
 | [],_::_,hl,_,_,_,_,_=>by cases hl
 | _::_,[],hl,_,_,_,_,_=>by cases hl
 | i::l,o::os,hl,s,a,w,⟨rd',φ,hx,h⟩,hv=>by
  simp only [List.map_cons,List.cons.injEq] at hl
  simp only [wpOps,hl.1]
  exact wa hx hl.1 h hv fun s' a' w' hk hr=>zaP hn l os hl.2 s' a' w' hr hk
theorem zbN {s:St} {d:Option Nat} {v:AV} {σ:Sig} {b:Bool} {K1 K2:St→Prop} (hk:∀s,K1 s→K2 s) (h:put s d v σ b K1):put s d v σ b K2:=by
 unfold put at h ⊢
 cases d with
 | none=>exact hk _ h
 | some d=>
  simp only at h ⊢
  split at h
  ·exact hk _ h
  ·cases h
theorem zhO {o:Oper} {s:St} {K1 K2:St→Prop} (hk:∀s,K1 s→K2 s) (h:zbz P o s K1):zbz P o s K2:=by
 obtain ⟨v,σ',b,h1,h2⟩:=h
 exact ⟨v,σ',b,h1,zbN hk h2⟩
theorem qD {ops:Array Oper} {o:Oper} {s s':St} {K K':St→Prop} (hl:∀j w t,o.guard=some (j,w)→xt ops j=some t→zz s.tm t=zz s'.tm t) (h1:zbz P o s K→zbz P o s' K') (h2:put s o.dst (.tup []) s.σ false K→put s' o.dst (.tup []) s'.σ false K')
  (h:yn P ops o s K):yn P ops o s' K':=by
 unfold yn at h ⊢
 cases hg:o.guard with
 | none=>rw [hg] at h;exact h1 h
 | some jw=>
  obtain ⟨j,want⟩:=jw
  rw [hg] at h
  simp only at h ⊢
  cases hs:xt ops j with
  | none=>rw [hs] at h;cases h
  | some t=>
   rw [hs] at h
   simp only at h ⊢
   rw [←hl j want t hg hs]
   split at h
   ·rename_i b hb
    cases b<;>cases want<;>simp only [qW,xG] at h ⊢<;>first | exact h1 h | exact h2 h
   ·exact h2 h
   ·cases h
theorem xc {ops:Array Oper} {o:Oper} {s:St} {K1 K2:St→Prop} (hk:∀s,K1 s→K2 s) (h:yn P ops o s K1):yn P ops o s K2:=
 qD (fun _ _ _ _ _=>rfl) (zhO hk) (zbN hk) h
def Eqv (s s':St):Prop:=s.n=s'.n∧s.σ=s'.σ∧s.G=s'.G∧∀t,zz s.tm t=zz s'.tm t
theorem Eqv.refl (s:St):Eqv s s:=⟨rfl,rfl,rfl,fun _=>rfl⟩
theorem Eqv.symm {s s':St} (h:Eqv s s'):Eqv s' s:=⟨h.1.symm,h.2.1.symm,h.2.2.1.symm,fun t=>(h.2.2.2 t).symm⟩
theorem Eqv.trans {s s' s'':St} (h:Eqv s s') (k:Eqv s' s''):Eqv s s'':=⟨h.1.trans k.1,h.2.1.trans k.2.1,h.2.2.1.trans k.2.2.1,fun t=>(h.2.2.2 t).trans (k.2.2.2 t)⟩
theorem Eqv.ev {s s':St} (h:Eqv s s'):ev s=ev s':=by
 funext x
 cases x with
 | tmp t=>simp only [E.ev,h.2.2.2 t]
 | _=>rfl
def ziI (K:St→Prop) (s:St):Prop:=∃t,Eqv t s∧K t
theorem zez {K:St→Prop} {s:St} (h:ziI (ziI K) s):ziI K s:=by
 obtain ⟨t,e,u,e2,hk⟩:=h
 exact ⟨u,e2.trans e,hk⟩
theorem zf4 {s s':St} {d:Option Nat} {v:AV} {σ:Sig} {b:Bool} {K:St→Prop} (h:Eqv s s') (hk:put s d v σ b K):put s' d v σ b (ziI K):=by
 obtain ⟨n,tm,σ0,G⟩:=s
 obtain ⟨n',tm',σ1,G'⟩:=s'
 obtain ⟨h1,h2,h3,h4⟩:=h
 simp only at h1 h2 h3 h4
 subst h1;subst h2;subst h3
 unfold put at hk ⊢
 cases d with
 | none=>exact ⟨⟨n,tm,σ,bmp b G⟩,⟨rfl,rfl,rfl,h4⟩,hk⟩
 | some d=>
  simp only at hk ⊢
  split at hk
  ·exact ⟨⟨n,(d,v)::tm,σ,bmp b G⟩,⟨rfl,rfl,rfl,fun t=>by simp only [zA,h4]⟩,hk⟩
  ·cases hk
theorem zi1 {o:Oper} {s s':St} {K:St→Prop} (h:Eqv s s') (hk:zbz P o s K):zbz P o s' (ziI K):=by
 obtain ⟨v,σ',b,h1,h2⟩:=hk
 rw [h.ev,h.2.1,h.2.2.1] at h1
 exact ⟨v,σ',b,h1,zf4 h h2⟩
theorem zfN {ops:Array Oper} {o:Oper} {s s':St} {K:St→Prop} (h:Eqv s s') (hk:yn P ops o s K):yn P ops o s' (ziI K):=
 qD (fun _ _ t _ _=>h.2.2.2 t) (zi1 h) (fun hp=>by rw [←h.2.1];exact zf4 h hp) hk
def zlg (y:Oper) (s s':St):Prop:=∃cy σ' G',s'=⟨s.n,cy++s.tm,σ',G'⟩∧((cy=[]∧y.dst=none)∨∃t u,y.dst=some t∧cy=[(t,u)])
theorem zeR {y:Oper} {s:St} {v:AV} {σ:Sig} {b:Bool} {K:St→Prop} (h:put s y.dst v σ b K):put s y.dst v σ b fun s'=>K s'∧zlg y s s':=by
 unfold put at h ⊢
 cases hd:y.dst with
 | none=>rw [hd] at h;exact ⟨h,[],σ,_,rfl,.inl ⟨rfl,hd⟩⟩
 | some d=>
  rw [hd] at h
  simp only at h ⊢
  split at h
  ·exact ⟨h,[(d,v)],σ,_,rfl,.inr ⟨d,v,hd,rfl⟩⟩
  ·cases h
theorem wD {ops:Array Oper} {y:Oper} {s:St} {K:St→Prop} (h:yn P ops y s K):yn P ops y s fun s'=>K s'∧zlg y s s':=
 qD (fun _ _ _ _ _=>rfl) (fun ⟨v,σ',b,h1,h2⟩=>⟨v,σ',b,h1,zeR h2⟩) zeR h
end
def xk:Op→Bool
 | .move _ | .assign _ | .pick .. | .load .. | .fieldAddr .. | .extract .. | .nilCheck _ | .binOp .. | .unOp .. | .convert .. | .indexAddr .. | .slice .. | .index .. | .field .. | .build .. | .buildSlice ..=>true
 | .call c=>match c.callee with
  | .builtin .len | .builtin .min | .builtin .max=>true
  | _=>false
 | _=>false
def zkC:Op→Bool
 | .load .. | .indexAddr .. | .convert ..=>false
 | o=>xk o
def qq (P:Program) (σ:Sig) (ev:Operand→AV) (op:Op):Option AV:=(xR P 0 0 ev σ op).map (·.1)
theorem zdJ {P:Program} {d G:Nat} {ev:Operand→AV} {σ:Sig} {op:Op} (h:xk op=true):xR P d G ev σ op=(qq P σ ev op).map fun v=>(v,σ):=by
 unfold qq
 cases op<;>simp [xk] at h<;>simp [xR,Option.map_map,Function.comp_def]
 rename_i c
 split at h
 ·rename_i hc
  rw [hc]
  split<;>first | rfl | simp [Option.map_map,Function.comp_def]
 ·rename_i hc
  rw [hc]
  split<;>first | rfl | simp [Option.map_map,Function.comp_def]
 ·rename_i hc
  rw [hc]
  split<;>first | rfl | simp [Option.map_map,Function.comp_def]
 ·cases h
theorem zhY {P:Program} {σ σ':Sig} {ev:Operand→AV} {op:Op} (h:zkC op=true):qq P σ ev op=qq P σ' ev op:=by
 unfold qq
 cases op<;>simp [zkC,xk] at h<;>simp [xR,Option.map_map,Function.comp_def]
 rename_i c
 split at h
 ·rename_i hc
  rw [hc]
  split<;>first | rfl | simp [Option.map_map,Function.comp_def]
 ·rename_i hc
  rw [hc]
  split<;>first | rfl | simp [Option.map_map,Function.comp_def]
 ·rename_i hc
  rw [hc]
  split<;>first | rfl | simp [Option.map_map,Function.comp_def]
 ·cases h
theorem zbO {op:Op} (h:xk op=true):zek op=false:=by cases op<;>first | rfl | cases h
theorem wq {e e':Operand→AV} {ps:Array (Nat × Operand)} (h:∀x∈ps,e x.2=e' x.2):(ps.toList.map fun x=>(x.1,e x.2))=ps.toList.map fun x=>(x.1,e' x.2):=
 List.map_congr_left fun x hx=>by rw [h x (by simpa using hx)]
theorem zcF {P:Program} {d G:Nat} {e e':Operand→AV} {σ:Sig} {op:Op} (h:∀x∈op.operands,e x=e' x):xR P d G e σ op=xR P d G e' σ op:=by
 cases op
 case call c=>
  simp only [Op.operands] at h
  simp only [xR]
  have hx:∀x∈c.args.toList,e x=e' x:=fun x hx=>h x (by simp [Call.operands];exact .inr (by simpa using hx))
  split
  ·rename_i x t h1 h2 h3
   rw [hx x (by rw [h2];simp)]
  ·rename_i x y h1 h2
   rw [hx x (by rw [h2];simp),hx y (by rw [h2];simp)]
  ·rename_i x y h1 h2
   rw [hx x (by rw [h2];simp),hx y (by rw [h2];simp)]
  ·rfl
 case slice t x lo hi mx=>
  simp only [Op.operands] at h
  simp only [xR]
  have h1:e x=e' x:=h x (by simp)
  have h2:lo.map e=lo.map e':=by cases lo with | none=>rfl | some y=>simp [h y (by simp)]
  have h3:hi.map e=hi.map e':=by cases hi with | none=>rfl | some y=>simp [h y (by simp)]
  have h4:mx.map e=mx.map e':=by cases mx with | none=>rfl | some y=>simp [h y (by simp)]
  rw [h1,h2,h3,h4]
 case build t ps=>
  simp only [xR]
  rw [wq fun x hx=>h x.2 (by simp only [Op.operands];exact List.mem_toArray.2 (List.mem_map.2 ⟨x,by simpa using hx,rfl⟩))]
 case buildSlice t n ps=>
  simp only [xR]
  rw [wq fun x hx=>h x.2 (by simp only [Op.operands];exact List.mem_toArray.2 (List.mem_map.2 ⟨x,by simpa using hx,rfl⟩))]
 all_goals (simp only [Op.operands] at h;simp only [xR])
 all_goals (first | rfl | (simp_all;done))
theorem zfy {P:Program} {d G:Nat} {e e':Operand→AV} {σ:Sig} {op:Op} (h:∀x∈op.operands,e x=e' x):jX P d G e σ op=jX P d G e' σ op:=by
 cases op<;>try rfl
 case buildSlice t n ps=>
  simp only [jX]
  rw [wq fun x hx=>h x.2 (by simp only [Op.operands];exact List.mem_toArray.2 (List.mem_map.2 ⟨x,by simpa using hx,rfl⟩))]
 case convert s t x=>
  simp only [jX,h x (by simp [Op.operands])]
 case call c=>
  simp only [Op.operands] at h
  simp only [jX]
  have hx:∀x∈c.args.toList,e x=e' x:=fun x hx=>h x (by simp [Call.operands];exact .inr (by simpa using hx))
  split
  ·rename_i x y t tx h1 h2 h3
   rw [hx x (by rw [h2];simp),hx y (by rw [h2];simp)]
  ·rename_i x y t tx h1 h2 h3
   rw [hx x (by rw [h2];simp),hx y (by rw [h2];simp)]
  ·rfl
theorem ziD {P:Program} {e e':Operand→AV} {op:Op} (h:∀x∈op.operands,e x=e' x):zqk P e op=zqk P e' op:=by
 cases op<;>try rfl
 case load t x=>cases x<;>rfl
 case makeFunc f first captured=>
  cases f<;>try rfl
  simp only [zqk]
  split
  ·rename_i x h1 h2
   rw [h x (by simp only [Op.operands];rw [Array.mem_append];exact .inl (by rw [←Array.mem_toList_iff,h1];simp))]
  ·rfl
theorem ziH {P:Program} {d G:Nat} {e e':Operand→AV} {σ σ':Sig} {op:Op} {v:AV} {b:Bool} (h:∀x∈op.operands,e x=e' x) (hc:CanK P d G e σ op v σ' b):CanK P d G e' σ op v σ' b:=by
 rcases hc with h1 | ⟨rfl,t,x,k,ok,K,E,r,g,p,f,C,res,zv,rfl,hT,hE,hx,hl,hf,hk,hfd,rfl,rfl⟩ | ⟨rfl,t,m,k,x,K,E,r,g,p,f,C,ck,cx,rfl,hT,hx,hl,hf,hk,hfd,hck,hcx,rfl,rfl⟩
 ·exact .inl h1
 ·rw [h x (by simp [Op.operands])] at hx
  rw [h k (by simp [Op.operands])] at hk hfd
  exact .inr (.inl ⟨rfl,t,x,k,ok,K,E,r,g,p,f,C,res,zv,rfl,hT,hE,hx,hl,hf,hk,hfd,rfl,rfl⟩)
 ·rw [h m (by simp [Op.operands])] at hx
  rw [h k (by simp [Op.operands])] at hk hfd hck ⊢
  rw [h x (by simp [Op.operands])] at hcx ⊢
  exact .inr (.inr ⟨rfl,t,m,k,x,K,E,r,g,p,f,C,ck,cx,rfl,hT,hx,hl,hf,hk,hfd,hck,hcx,rfl,rfl⟩)
theorem zln {P:Program} {o:Oper} {e e':Operand→AV} {σ σ':Sig} {G:Nat} {v:AV} {b:Bool} (h:∀x∈o.op.operands,e x=e' x) (hc:Can P o e σ G v σ' b):Can P o e' σ G v σ' b:=by
 rcases hc with ⟨h1,h2⟩ | ⟨h1,h2⟩ | ⟨hb,c,n,hop,hcal,h1⟩ | ⟨h1,h2⟩ | ⟨hb,c,n,x,hop,hcal,hfv,h1⟩ | hcm
 ·exact .inl ⟨by rw [←zcF h];exact h1,h2⟩
 ·exact .inr (.inl ⟨by rw [←zfy h];exact h1,h2⟩)
 ·have:c.args.toList.map e=c.args.toList.map e':=List.map_congr_left fun x hx=>h x (by rw [hop];simp [Op.operands,Call.operands];exact .inr (by simpa using hx))
  rw [this] at h1
  exact .inr (.inr (.inl ⟨hb,c,n,hop,hcal,h1⟩))
 ·exact .inr (.inr (.inr (.inl ⟨by rw [←ziD h];exact h1,h2⟩)))
 ·have:c.args.toList.map e=c.args.toList.map e':=List.map_congr_left fun x hx=>h x (by rw [hop];simp [Op.operands,Call.operands];exact .inr (by simpa using hx))
  rw [this] at h1
  exact .inr (.inr (.inr (.inr (.inl ⟨hb,c,n,x,hop,hcal,by rw [←h x (by rw [hop];simp [Op.operands,Call.operands,hcal])];exact hfv,h1⟩))))
 ·exact .inr (.inr (.inr (.inr (.inr (ziH h hcm)))))
def zar (P:Program) (ops:Array Oper) (σ:Sig) (e:Operand→AV) (o:Oper):Option AV:=match o.guard with
 | none=>qq P σ e o.op
 | some (j,want)=>match xt ops j with
  | none=>none
  | some t=>match e (.tmp t) with
   | .sc (.bool b)=>match b==want with
    | true=>qq P σ e o.op
    | false=>some (.tup [])
   | .tup []=>some (.tup [])
   | _=>none
def zc3 (P:Program) (ops:Array Oper) (o:Oper) (s:St) (K:St→Prop):Prop:=zu (zar P ops s.σ (ev s) o) fun v=>put s o.dst v s.σ false K
theorem zbx {P:Program} {ops:Array Oper} {o:Oper} {s:St} {K1 K2:St→Prop} (hk:∀s,K1 s→K2 s) (h:zc3 P ops o s K1):zc3 P ops o s K2:=by
 obtain ⟨v,hv,h1⟩:=zq h
 exact zE hv (zbN hk h1)
theorem zfO {P:Program} {ops:Array Oper} {o:Oper} {s:St} {K:St→Prop} (h:xk o.op=true) (hv:zc3 P ops o s K):yn P ops o s K:=by
 have plain:∀{v},qq P s.σ (ev s) o.op=some v→put s o.dst v s.σ false K→zbz P o s K:=fun h1 h2=>
  ⟨_,_,_,.inl ⟨by rw [zdJ h,h1];rfl,rfl⟩,by rw [zbO h];exact h2⟩
 obtain ⟨v,h1,h2⟩:=zq hv
 unfold zar at h1
 unfold yn
 cases hg:o.guard with
 | none=>rw [hg] at h1;exact plain h1 h2
 | some jw=>
  obtain ⟨j,want⟩:=jw
  rw [hg] at h1
  simp only at h1 ⊢
  cases hs:xt ops j with
  | none=>rw [hs] at h1;cases h1
  | some t=>
   rw [hs] at h1
   simp only [ev] at h1 ⊢
   cases hl:zz s.tm t with
   | none=>rw [hl] at h1;cases h1
   | some u=>
    rw [hl] at h1
    cases u with
    | sc u=>
     cases u with
     | bool b=>
      cases b<;>cases want<;>simp only [qW,xG] at h1 ⊢<;>first | exact plain h1 h2 | (cases h1;exact h2)
     | _=>cases h1
    | tup vs=>
     cases vs with
     | nil=>cases h1;exact h2
     | cons=>cases h1
    | _=>cases h1
theorem qG {P:Program} {ops:Array Oper} {σ σ':Sig} {e e':Operand→AV} {o:Oper} (hσ:qq P σ e o.op=qq P σ' e o.op) (ht:∀t∈o.looksAt ops,e (.tmp t)=e' (.tmp t)) (hn:∀x,(∀t,x≠.tmp t)→e x=e' x):zar P ops σ e o=zar P ops σ' e' o:=by
 have hop:qq P σ e o.op=qq P σ' e' o.op:=by
  rw [hσ]
  unfold qq
  rw [zcF fun x hx=>?_]
  by_cases hx2:∃t,x=.tmp t
  ·obtain ⟨t,rfl⟩:=hx2
   exact ht t (List.mem_append_left _ (List.mem_filterMap.2 ⟨.tmp t,by simpa using hx,rfl⟩))
  ·exact hn x fun t e=>hx2 ⟨t,e⟩
 unfold zar
 split
 ·exact hop
 ·rename_i j want hg
  cases hs:xt ops j with
  | none=>rfl
  | some t=>
   have:e (.tmp t)=e' (.tmp t):=ht t (by
    have hs':(ops[j]?).bind (·.dst)=some t:=by
     unfold xt at hs
     split at hs
     ·rename_i hx;rw [hx];exact hs
     ·cases hs
    simp [Oper.looksAt,hg,hs'])
   simp only [this,hop]
end Go.Proofs.YtpjpkmhaffmbmaaGreat.E
end
section
namespace Go.Proofs.YtpjpkmhaffmbmaaGreat.E
open Go Go.RowKit
set_option linter.unusedVariables false
inductive DT where
 | nil
 | pu (i:Nat) (t:DT)
 | ef (i:Nat) (rc:List Nat) (t:DT)
 | or (a b:DT)
def yl:DT→List Nat
 | .nil=>[]
 | .pu i t=>i::yl t
 | .ef i _ t=>i::yl t
 | .or a _=>yl a
def yS:DT→List (Nat × Option (List Nat))
 | .nil=>[]
 | .pu i t=>(i,none)::yS t
 | .ef i rc t=>(i,some rc)::yS t
 | .or a b=>yS a++yS b
def xf:DT→List Nat
 | .nil=>[]
 | .pu i _=>[i]
 | .ef i _ _=>[i]
 | .or a b=>xf a++xf b
def Same (P:Program) (ops:Array Oper) (rc:List Nat) (s:St) (σ':Sig):Prop:=∀k∈rc,∀x,ops[k]?=some x→zar P ops σ' (ev s) x=zar P ops s.σ (ev s) x
def vcT (P:Program) (ops:Array Oper):DT→St→(St→Prop)→Prop
 | .nil,s,K=>K s
 | .pu i t,s,K=>match ops[i]? with
  | none=>False
  | some o=>xk o.op=true∧zc3 P ops o s fun s'=>vcT P ops t s' K
 | .ef i rc t,s,K=>match ops[i]? with
  | none=>False
  | some o=>yn P ops o s fun s'=>Same P ops rc s s'.σ∧vcT P ops t s' K
 | .or a b,s,K=>vcT P ops a s K∧vcT P ops b s K
section
variable {P:Program} {ops:Array Oper}
theorem xC:∀{t:DT} {s:St} {K1 K2:St→Prop},(∀s,K1 s→K2 s)→vcT P ops t s K1→vcT P ops t s K2
 | .nil,s,K1,K2,hk,h=>hk _ h
 | .pu i t,s,K1,K2,hk,h=>by
  unfold vcT at h ⊢
  split at h
  ·cases h
  ·exact ⟨h.1,zbx (fun s' hs=>xC hk hs) h.2⟩
 | .ef i rc t,s,K1,K2,hk,h=>by
  unfold vcT at h ⊢
  split at h
  ·cases h
  ·exact xc (fun s' hs=>⟨hs.1,xC hk hs.2⟩) h
 | .or a b,s,K1,K2,hk,h=>⟨xC hk h.1,xC hk h.2⟩
theorem zhN {o:Oper} {s s':St} {K:St→Prop} (h:Eqv s s') (hk:zc3 P ops o s K):zc3 P ops o s' (ziI K):=by
 obtain ⟨v,h1,h2⟩:=zq hk
 rw [h.ev,h.2.1] at h1
 refine zE h1 ?_
 rw [←h.2.1]
 exact zf4 h h2
theorem zbw:∀{t:DT} {s s':St} {K:St→Prop},Eqv s s'→vcT P ops t s K→vcT P ops t s' (ziI K)
 | .nil,s,s',K,e,h=>⟨s,e,h⟩
 | .pu i t,s,s',K,e,h=>by
  unfold vcT at h ⊢
  split at h
  ·cases h
  ·refine ⟨h.1,zbx (fun s2 hs=>?_) (zhN e h.2)⟩
   obtain ⟨u,e2,hu⟩:=hs
   exact zbw e2 hu
 | .ef i rc t,s,s',K,e,h=>by
  unfold vcT at h ⊢
  split at h
  ·cases h
  ·refine xc (fun s2 hs=>?_) (zfN e h)
   obtain ⟨u,e2,h1,hu⟩:=hs
   refine ⟨fun k hk x hx=>?_,zbw e2 hu⟩
   have:=h1 k hk x hx
   rwa [e.ev,e.2.1,e2.2.1] at this
 | .or a b,s,s',K,e,h=>⟨zbw e h.1,zbw e h.2⟩
def InsK (n d:Nat) (v:AV) (tm:List (Nat × AV)) (K:St→Prop) (s2:St):Prop:=∃cy σ' G',s2=⟨n,cy++tm,σ',G'⟩∧K ⟨n,cy++(d,v)::tm,σ',G'⟩
theorem zkH {n d G:Nat} {v:AV} {tm:List (Nat × AV)} {σ:Sig} {x:Operand} (hx:x≠.tmp d):ev ⟨n,(d,v)::tm,σ,G⟩ x=ev ⟨n,tm,σ,G⟩ x:=by
 cases x with
 | tmp t=>
  simp only [ev,zA]
  rw [if_neg (fun e=>hx (by rw [e]))]
 | _=>rfl
theorem zjG {n d G:Nat} {v u:AV} {tm:List (Nat × AV)} {σ0 σ:Sig} {dst:Option Nat} {b:Bool} {K:St→Prop} (h:put ⟨n,(d,v)::tm,σ0,G⟩ dst u σ b K):put ⟨n,tm,σ0,G⟩ dst u σ b (InsK n d v tm K):=by
 unfold put at h ⊢
 cases dst with
 | none=>exact ⟨[],σ,_,rfl,h⟩
 | some t=>
  simp only at h ⊢
  split at h
  ·exact ⟨[(t,u)],σ,_,rfl,h⟩
  ·cases h
theorem zfM {y:Oper} {n d G:Nat} {v:AV} {tm:List (Nat × AV)} {σ:Sig} {K:St→Prop} (hd:d ∉ y.looksAt ops) (h:yn P ops y ⟨n,(d,v)::tm,σ,G⟩ K):yn P ops y ⟨n,tm,σ,G⟩ (InsK n d v tm K):=by
 have hy:∀x∈y.op.operands,x≠.tmp d:=by
  rintro x hx rfl
  exact hd (List.mem_append_left _ (List.mem_filterMap.2 ⟨.tmp d,by simpa using hx,rfl⟩))
 refine qD (fun j w t hg ht=>?_) (fun hv=>?_) zjG h
 ·have hne:d≠t:=by
   rintro rfl
   have hs':(ops[j]?).bind (·.dst)=some d:=by
    unfold xt at ht
    split at ht
    ·rename_i hx;rw [hx];exact ht
    ·cases ht
   exact hd (by simp [Oper.looksAt,hg,hs'])
  simp only [zA,if_neg hne]
 ·obtain ⟨u,σ',b,h1,h2⟩:=hv
  exact ⟨u,σ',b,zln (fun x hx=>zkH (hy x hx)) h1,zjG h2⟩
inductive Fr (ops:Array Oper) (j:Nat) (o:Oper):Option (List Nat)→List Nat→DT→DT→Prop
 | pu {t}:Fr ops j o none [] (.pu j t) t
 | ef {rc t}:Fr ops j o (some rc) [] (.ef j rc t) t
 | over {i x k D t t'} (hi:ops[i]?=some x) (hap:x.apart ops o=true) (hself:∀d,x.dst=some d→d ∉ x.looksAt ops) (hD:∀d∈D,d ∉ x.looksAt ops)
   (hfree:zkC x.op=true∨k=none∨∃rc,k=some rc∧i∈rc) (h:Fr ops j o k D t t'):Fr ops j o k (x.dst.toList++D) (.pu i t) (.pu i t')
 | left {k D a b t'} (h:Fr ops j o k D a t'):Fr ops j o k D (.or a b) t'
 | right {k D a b t'} (h:Fr ops j o k D b t'):Fr ops j o k D (.or a b) t'
def Ag (P:Program) (ops:Array Oper) (k:Option (List Nat)) (D:List Nat) (s:St) (σ':Sig):Prop:=match k with
 | none=>σ'=s.σ
 | some rc=>∀i∈rc,∀x,ops[i]?=some x→(∀d∈D,d ∉ x.looksAt ops)→∀e:Operand→AV,(∀t∈x.looksAt ops,e (.tmp t)=ev s (.tmp t))→(∀y,(∀t,y≠.tmp t)→e y=ev s y)→zar P ops σ' e x=zar P ops s.σ e x
theorem zlQ {s:St} {d:Option Nat} {v:AV} {K:St→Prop} (h:put s d v s.σ false K):put s d v s.σ false fun s'=>s'.σ=s.σ∧K s':=by
 unfold put at h ⊢
 cases d with
 | none=>exact ⟨rfl,h⟩
 | some d=>
  simp only at h ⊢
  split at h
  ·exact ⟨trivial,h⟩
  ·cases h
theorem zgv {j:Nat} {o:Oper} (ho:ops[j]?=some o) {k:Option (List Nat)} {D:List Nat} {t t':DT} (hf:Fr ops j o k D t t'):∀{s:St} {K:St→Prop},vcT P ops t s K→yn P ops o s fun s'=>Ag P ops k D s s'.σ∧vcT P ops t' s' (ziI K):=by
 have up:∀{t:DT} {s:St} {K:St→Prop},vcT P ops t s K→vcT P ops t s (ziI K):=fun h=>xC (fun s hk=>⟨s,.refl s,hk⟩) h
 induction hf with
 | pu=>
  intro s K h
  unfold vcT at h
  rw [ho] at h
  refine zfO h.1 ?_
  obtain ⟨v,h1,h2⟩:=zq h.2
  exact zE h1 (zbN (fun s' hs=>⟨hs.1,up hs.2⟩) (zlQ h2))
 | ef=>
  intro s K h
  unfold vcT at h
  rw [ho] at h
  refine xc (fun s' hs=>⟨fun i hi x hx hD e he hn=>?_,up hs.2⟩) h
  have h1:=hs.1 i hi x hx
  rw [qG (e:=e) (e':=ev s) rfl he hn,qG (e:=e) (e':=ev s) rfl he hn]
  exact h1
 | @over i x k D t t' hi hap hself hD hfree hf ih=>
  intro s K h
  unfold vcT at h
  rw [hi] at h
  obtain ⟨hp,h⟩:=h
  obtain ⟨a1,a2,a3⟩:=Oper.apart_spec hap
  obtain ⟨v,hv,h1⟩:=zq h
  obtain ⟨n,tm,σ,G⟩:=s
  have tells:∀{s1:St} {σ':Sig} {e:Operand→AV},s1.σ=σ→(∀t∈x.looksAt ops,ev s1 (.tmp t)=ev ⟨n,tm,σ,G⟩ (.tmp t))→Ag P ops k D s1 σ'→(∀t∈x.looksAt ops,e (.tmp t)=ev ⟨n,tm,σ,G⟩ (.tmp t))→(∀y,(∀t,y≠.tmp t)→e y=ev ⟨n,tm,σ,G⟩ y)→zar P ops σ' e x=some v:=by
   intro s1 σ' e hσ hs1 hag he hn
   have h2:zar P ops σ e x=some v:=by rw [←hv];exact qG rfl he hn
   rcases hfree with hfr | rfl | ⟨rc,rfl,hrc⟩
   ·rw [←h2]
    refine qG (zhY hfr) (fun _ _=>rfl) (fun _ _=>rfl)
   ·simp only [Ag] at hag
    rw [hag,hσ];exact h2
   ·have:=hag i hrc x hi hD e (fun t ht=>by rw [he t ht,hs1 t ht]) (fun y hy=>by
     rw [hn y hy]
     cases y with
     | tmp t=>exact absurd rfl (hy t)
     | _=>rfl)
    rw [this,hσ];exact h2
  unfold put at h1
  cases hdx:x.dst with
  | none=>
   rw [hdx] at h1
   have h1:vcT P ops t ⟨n,tm,σ,G⟩ K:=h1
   refine xc ?_ (wD (ih h1))
   rintro s2 ⟨⟨hag,hk⟩,cy,σ',G',rfl,hcy⟩
   refine ⟨by simpa using hag,?_⟩
   unfold vcT
   rw [hi]
   refine ⟨hp,zE (tells (s1:=⟨n,tm,σ,G⟩) rfl (fun _ _=>rfl) hag (fun t ht=>?_) (fun y hy=>?_)) ?_⟩
   ·rcases hcy with ⟨rfl,_⟩ | ⟨t',u,hy,rfl⟩
    ·rfl
    ·simp only [ev,List.cons_append,List.nil_append,zA]
     rw [if_neg]
     rintro rfl
     exact a3 _ hy ht
   ·cases y with
    | tmp t=>exact absurd rfl (hy t)
    | _=>rfl
   ·unfold put
    rw [hdx]
    exact hk
  | some d=>
   rw [hdx] at h1
   simp only at h1
   split at h1
   ·rename_i hb
    have h1:vcT P ops t ⟨n,(d,v)::tm,σ,G⟩ K:=h1
    have hs1:∀t∈x.looksAt ops,ev ⟨n,(d,v)::tm,σ,G⟩ (.tmp t)=ev ⟨n,tm,σ,G⟩ (.tmp t):=fun t ht=>zkH (fun e=>by cases e;exact hself d hdx ht)
    refine xc ?_ (wD (zfM (a1 d hdx) (ih h1)))
    rintro s2 ⟨⟨cy,σ',G',rfl,hag,hk⟩,hs⟩
    obtain ⟨cy2,σ2,G2,e,hcy⟩:=hs
    simp only [St.mk.injEq,true_and] at e
    obtain ⟨e1,rfl,rfl⟩:=e
    have e1:=List.append_cancel_right e1
    subst e1
    refine ⟨?_,?_⟩
    ·cases k with
     | none=>exact hag
     | some rc=>
      intro i' hi' x' hx' hD' e he hn
      refine hag i' hi' x' hx' (fun d' hd'=>hD' d' (by simp [hd'])) e (fun t ht=>?_) (fun y hy=>?_)
      ·rw [he t ht]
       exact (zkH (fun e=>by cases e;exact hD' d (by simp) ht)).symm
      ·rw [hn y hy]
       cases y with
       | tmp t=>exact absurd rfl (hy t)
       | _=>rfl
    ·unfold vcT
     rw [hi]
     refine ⟨hp,zE (tells (s1:=⟨n,(d,v)::tm,σ,G⟩) rfl hs1 hag (fun t ht=>?_) (fun y hy=>?_)) ?_⟩
     ·rcases hcy with ⟨rfl,_⟩ | ⟨t',u,hy,rfl⟩
      ·rfl
      ·simp only [ev,List.cons_append,List.nil_append,zA]
       rw [if_neg]
       rintro rfl
       exact a3 _ hy ht
     ·cases y with
      | tmp t=>exact absurd rfl (hy t)
      | _=>rfl
     ·unfold put
      rw [hdx]
      simp only [hb]
      refine xC (fun _ h=>zez h) (zbw (s:=⟨n,cy++(d,v)::tm,σ',G'⟩) ⟨rfl,rfl,rfl,fun t=>?_⟩ hk)
      rcases hcy with ⟨rfl,_⟩ | ⟨t',u,hyd,rfl⟩
      ·rfl
      ·have hne:t'≠d:=fun e=>a2 d hdx (by rw [hyd,e])
       simp only [List.cons_append,List.nil_append,zA]
       by_cases h1:t'=t
       ·subst h1
        have h2:¬d=t':=fun e=>hne e.symm
        simp [h2]
       ·simp [h1]
   ·cases h1
 | left hf ih=>intro s K h;exact ih h.1
 | right hf ih=>intro s K h;exact ih h.2
def zfJ (o:Oper):List Nat:=(o.after.toList.filter fun e=>Region.binds .any e).map (·.on)
def zfI (o:Oper) (k:Nat):Prop:=∃e∈o.after,Region.binds .any e=true∧e.on=k
theorem waitL_iff {o:Oper} {k:Nat}:k∈zfJ o↔zfI o k:=by
 unfold zfJ zfI
 simp only [List.mem_map,List.mem_filter,Array.mem_toList_iff]
 constructor
 ·rintro ⟨e,⟨h1,h2⟩,h3⟩;exact ⟨e,h1,h2,h3⟩
 ·rintro ⟨e,h1,h2,h3⟩;exact ⟨e,⟨h1,h2⟩,h3⟩
structure Static (ops:Array Oper) (A:Nat→List Nat):Prop where
 less:∀i o k,ops[i]?=some o→zfI o k→k<i
 anc:∀i k,k∈A i→∃o j,ops[i]?=some o∧zfI o j∧(j=k∨k∈A j)
def znP (ops:Array Oper) (L:Array Bool):Prop:=∀j o k,L.getD j false=true→ops[j]?=some o→zfI o k→L.getD k false=true
theorem ziB {A:Nat→List Nat} (hs:Static ops A) {L:Array Bool} (hc:znP ops L):∀(i:Nat),(∀o k,ops[i]?=some o→zfI o k→L.getD k false=true)→∀k∈A i,L.getD k false=true:=by
 intro i
 induction i using Nat.strongRecOn with
 | _ i ih=>
  intro hp k hk
  obtain ⟨o,j,ho,hw,hj⟩:=hs.anc i k hk
  have hL:=hp o j ho hw
  rcases hj with rfl | hj
  ·exact hL
  ·exact ih j (hs.less i o j ho hw) (fun o' k' ho' hw'=>hc j o' k' hL ho' hw') k hj
theorem ready_iff {L:Array Bool} {i:Nat}:i∈Region.ready .any ops L↔L.getD i true=false∧∃o,ops[i]?=some o∧∀k,zfI o k→L.getD k false=true:=by
 rw [mem_ready]
 constructor
 ·rintro ⟨h1,o,ho,h⟩
  refine ⟨h1,o,ho,?_⟩
  rintro k ⟨e,he,hb,rfl⟩
  exact h e he hb
 ·rintro ⟨h1,o,ho,h⟩
  exact ⟨h1,o,ho,fun e he hb=>h e.on ⟨e,he,hb,rfl⟩⟩
theorem Eqv.rel {s s':St} (e:Eqv s s') {rd:zcX} {O:Nat→Prop} {w0:World} {a:Act} {w:World} (h:zan rd O w0 s a w):zan rd O w0 s' a w:=by
 obtain ⟨rd',φ,hx,h1,h2,h3,h4,h5⟩:=h
 exact ⟨rd',φ,hx,e.2.1▸h1,fun t v hl=>h2 t v ((e.2.2.2 t).trans hl),by rw [h3,e.1],h4,fun r g p hp=>e.2.2.1▸h5 r g p hp⟩
theorem zoO {L:Array Bool} {k:Nat} (hk:k<L.size) (h:L.getD k false≠true):L.getD k true=false:=by
 simp only [Array.getD_eq_getD_getElem?,Array.getElem?_eq_getElem hk,Option.getD_some] at h ⊢
 simpa using h
structure PuOK (ops:Array Oper) (A:Nat→List Nat) (i:Nat) (t:DT):Prop where
 ex:∃x,ops[i]?=some x
 self:∀x,ops[i]?=some x→∀d,x.dst=some d→d ∉ x.looksAt ops
 look:∀x,ops[i]?=some x→∀j∈yl t,∀o,ops[j]?=some o→∀d,o.dst=some d→d ∉ x.looksAt ops∨∀m∈yl t,m=j∨m∈A j
 topo:∀m∈yl t,m ∉ A i
 nodes:∀x,ops[i]?=some x→∀n∈yS t,∀o,ops[n.1]?=some o→i∈A n.1∨(x.apart ops o=true∧(zkC x.op=true∨n.2=none∨∃rc,n.2=some rc∧i∈rc))
def okT (ops:Array Oper) (A:Nat→List Nat):Bool→DT→Prop
 | _,.nil=>True
 | false,.pu i t=>i ∉ yl t∧PuOK ops A i t∧okT ops A false t
 | true,.pu _ _=>False
 | false,.ef i rc t=>i ∉ yl t∧(∀j∈yl t,i∈A j)∧okT ops A false t
 | true,.ef i rc t=>i ∉ yl t∧okT ops A false t
 | f,.or a b=>okT ops A true a∧okT ops A true b∧((∀i,i∈yl a↔i∈yl b)∧(yl a).length=(yl b).length)∧(f=false→∀j∈yl a,∃h,(h∈xf a∨h∈xf b)∧(h=j∨h∈A j))
theorem jH {A:Nat→List Nat}:∀{t:DT} {f:Bool},okT ops A f t→∀h∈xf t,h∈yl t
 | .nil,_,_,h,hh=>by simp [xf] at hh
 | .pu i t,_,_,h,hh=>by simp [xf] at hh;simp [yl,hh]
 | .ef i rc t,_,_,h,hh=>by simp [xf] at hh;simp [yl,hh]
 | .or a b,f,ok,h,hh=>by
  have ok':okT ops A true a∧okT ops A true b∧(∀i,i∈yl a↔i∈yl b):=by cases f<;>exact ⟨ok.1,ok.2.1,ok.2.2.1.1⟩
  simp only [xf,List.mem_append] at hh
  simp only [yl]
  rcases hh with hh | hh
  ·exact jH ok'.1 h hh
  ·exact (ok'.2.2 h).2 (jH ok'.2.1 h hh)
structure Took (ops:Array Oper) (A:Nat→List Nat) (j:Nat) (o:Oper) (t:DT) (k:Option (List Nat)) (D:List Nat) (t':DT):Prop where
 fr:Fr ops j o k D t t'
 ok:okT ops A false t'
 set:∀i,i∈yl t'↔i∈yl t∧i≠j
 node:(j,k)∈yS t
 nodes:∀n∈yS t',n∈yS t
 len:(yl t').length<(yl t).length
 slots:∀d∈D,∃i∈yl t,(i≠j∧j ∉ A i)∧∃x,ops[i]?=some x∧x.dst=some d
theorem zbB {A:Nat→List Nat} {j:Nat} {o:Oper} (ho:ops[j]?=some o):∀{t:DT},okT ops A true t→j∈xf t→∃k D t',Took ops A j o t k D t'
 | .nil,_,h=>by simp [xf] at h
 | .pu i t,ok,_=>ok.elim
 | .ef i rc t,ok,h=>by
  simp only [xf,List.mem_singleton] at h
  subst h
  exact ⟨some rc,[],t,.ef,ok.2,fun i=>by simp only [yl,List.mem_cons];exact ⟨fun h=>⟨.inr h,fun e=>ok.1 (e▸h)⟩,fun h=>h.1.resolve_left h.2⟩,by simp [yS],fun n hn=>by simp [yS,hn],by simp [yl],by simp⟩
 | .or a b,ok,h=>by
  simp only [xf,List.mem_append] at h
  rcases h with h | h
  ·obtain ⟨k,D,t',h1⟩:=zbB ho ok.1 h
   exact ⟨k,D,t',.left h1.fr,h1.ok,h1.set,by simp [yS,h1.node],fun n hn=>by simp [yS,h1.nodes n hn],h1.len,h1.slots⟩
  ·obtain ⟨k,D,t',h1⟩:=zbB ho ok.2.1 h
   refine ⟨k,D,t',.right h1.fr,h1.ok,fun i=>?_,by simp [yS,h1.node],fun n hn=>by simp [yS,h1.nodes n hn],by rw [show yl (.or a b)=yl a from rfl,ok.2.2.1.2];exact h1.len,fun d hd=>?_⟩
   ·rw [h1.set,show yl (.or a b)=yl a from rfl,ok.2.2.1.1]
   ·obtain ⟨i,hi,x⟩:=h1.slots d hd
    exact ⟨i,(ok.2.2.1.1 i).2 hi,x⟩
theorem took {A:Nat→List Nat} {j:Nat} {o:Oper} (ho:ops[j]?=some o):∀{t:DT},okT ops A false t→j∈yl t→(∀k∈A j,k ∉ yl t)→∃k D t',Took ops A j o t k D t'
 | .nil,_,h,_=>by simp [yl] at h
 | .pu i t,ok,h,hA=>by
  obtain ⟨ok1,ok2,ok3⟩:=ok
  by_cases hij:i=j
  ·subst hij
   exact ⟨none,[],t,.pu,ok3,fun i'=>by simp only [yl,List.mem_cons];exact ⟨fun h=>⟨.inr h,fun e=>ok1 (e▸h)⟩,fun h=>h.1.resolve_left h.2⟩,by simp [yS],fun n hn=>by simp [yS,hn],by simp [yl],by simp⟩
  ·have hj:j∈yl t:=by
    simp only [yl,List.mem_cons] at h
    exact h.resolve_left fun e=>hij e.symm
   obtain ⟨k,D,t',h1⟩:=took ho ok3 hj (fun k hk hin=>hA k hk (by simp [yl,hin]))
   obtain ⟨x,hx⟩:=ok2.ex
   have hn:=(ok2.nodes x hx (j,k) h1.node o ho).resolve_left fun hin=>hA i hin (by simp [yl])
   refine ⟨k,x.dst.toList++D,.pu i t',.over hx hn.1 (ok2.self x hx) (fun d hd=>?_) hn.2 h1.fr,⟨fun hin=>ok1 ((h1.set i).1 hin).1,⟨⟨x,hx⟩,ok2.self,fun y hy j' hj' o' ho' d hd=>(ok2.look y hy j' ((h1.set j').1 hj').1 o' ho' d hd).imp id fun hall m hm=>hall m ((h1.set m).1 hm).1,fun m hm=>ok2.topo m ((h1.set m).1 hm).1,fun y hy n hn=>ok2.nodes y hy n (h1.nodes n hn)⟩,h1.ok⟩,fun i'=>?_,by simp [yS,h1.node],fun n hn=>?_,by simpa [yl] using h1.len,fun d hd=>?_⟩
   ·obtain ⟨i',hi',⟨hne,hnA⟩,y,hy,hd'⟩:=h1.slots d hd
    rcases ok2.look x hx i' hi' y hy d hd' with hlk | hall
    ·exact hlk
    ·rcases hall j hj with rfl | hin
     ·exact absurd rfl hne
     ·exact absurd hin hnA
   ·simp only [yl,List.mem_cons,h1.set]
    constructor
    ·rintro (rfl | h)
     ·exact ⟨.inl rfl,hij⟩
     ·exact ⟨.inr h.1,h.2⟩
    ·rintro ⟨rfl | h,h2⟩
     ·exact .inl rfl
     ·exact .inr ⟨h,h2⟩
   ·simp only [yS,List.mem_cons] at hn ⊢
    exact hn.imp id (h1.nodes n)
   ·rcases List.mem_append.1 hd with hd | hd
    ·exact ⟨i,by simp [yl],⟨hij,ok2.topo j hj⟩,x,hx,by simpa using hd⟩
    ·obtain ⟨i',hi',y⟩:=h1.slots d hd
     exact ⟨i',by simp [yl,hi'],y⟩
 | .ef i rc t,ok,h,hA=>by
  obtain ⟨ok1,ok2,ok3⟩:=ok
  by_cases hij:i=j
  ·subst hij
   exact ⟨some rc,[],t,.ef,ok3,fun i'=>by simp only [yl,List.mem_cons];exact ⟨fun h=>⟨.inr h,fun e=>ok1 (e▸h)⟩,fun h=>h.1.resolve_left h.2⟩,by simp [yS],fun n hn=>by simp [yS,hn],by simp [yl],by simp⟩
  ·have hj:j∈yl t:=by
    simp only [yl,List.mem_cons] at h
    exact h.resolve_left fun e=>hij e.symm
   exact absurd (by simp [yl]) (hA i (ok2 j hj))
 | .or a b,ok,h,hA=>by
  obtain ⟨ok1,ok2,ok3,ok4⟩:=ok
  obtain ⟨h0,hh,hj⟩:=ok4 rfl j h
  have hin:h0∈yl (.or a b):=hh.elim (fun h=>jH ok1 h0 h) (fun h=>(ok3.1 h0).2 (jH ok2 h0 h))
  rcases hj with rfl | hj
  ·exact zbB (t:=.or a b) ho ⟨ok1,ok2,ok3,fun h=>by cases h⟩ (by simpa [xf] using hh)
  ·exact absurd hin (hA h0 hj)
theorem znU {rd:zcX} {O:Nat→Prop} {w0:World} {K:St→Prop} {Q:Exit→Act→World→Prop} {A:Nat→List Nat} (hs:Static ops A) (hn:∀s a w,K s→zan rd O w0 s a w→Q .normal a w):
  ∀(fuel:Nat) (L:Array Bool) (t:DT) (s:St) (a:Act) (w:World),okT ops A false t→(∀i,i∈yl t↔i<ops.size∧L.getD i true=false)→(yl t).length≤fuel→znP ops L→
   zan rd O w0 s a w→vcT P ops t s (ziI K)→wpAny P .any ops Q fuel L a w:=by
 intro fuel
 have fin:∀{t:DT} {s:St} {a:Act} {w:World},yl t=[]→zan rd O w0 s a w→vcT P ops t s (ziI K)→Q .normal a w:=by
  intro t
  induction t with
  | nil=>
   intro s a w _ hr hv
   obtain ⟨t,e,hk⟩:=hv
   exact hn t a w hk (e.symm.rel hr)
  | pu i t=>intro s a w h;cases h
  | ef i rc t=>intro s a w h;cases h
  | or a b iha=>intro s a w h hr hv;exact iha h hr hv.1
 induction fuel with
 | zero=>
  intro L t s a w hok hR hl hc hr hv
  have h0:yl t=[]:=List.eq_nil_of_length_eq_zero (by omega)
  refine ⟨?_,fin h0 hr hv⟩
  apply List.eq_nil_iff_forall_not_mem.2
  intro i hi
  obtain ⟨h1,o,ho,_⟩:=ready_iff.1 hi
  have hlt:i<ops.size:=(Array.getElem?_eq_some_iff.1 ho).1
  have:=(hR i).2 ⟨hlt,h1⟩
  rw [h0] at this
  simp at this
 | succ fuel ih=>
  intro L t s a w hok hR hl hc hr hv
  refine ⟨fun h0=>?_,fun i hi=>?_⟩
  ·cases hR0:yl t with
   | nil=>exact fin hR0 hr hv
   | cons r R=>
    exfalso
    have noone:∀n,n ∉ yl t:=by
     intro n
     induction n using Nat.strongRecOn with
     | _ n ihn=>
      intro hin
      obtain ⟨hr1,hr2⟩:=(hR n).1 hin
      have hsz:n<L.size:=by
       rcases Nat.lt_or_ge n L.size with hx | hx
       ·exact hx
       ·simp [Array.getElem?_eq_none hx] at hr2
      have:n∈Region.ready .any ops L:=by
       refine ready_iff.2 ⟨hr2,ops[n],by simp [hr1],fun k hk=>?_⟩
       have hkr:=hs.less n ops[n] k (by simp [hr1]) hk
       rcases Classical.em (L.getD k false=true) with hx | hx
       ·exact hx
       ·exact absurd ((hR k).2 ⟨by omega,zoO (by omega) hx⟩) (ihn k hkr)
      rw [h0] at this
      simp at this
    exact noone r (by rw [hR0];simp)
  ·obtain ⟨h1,o,ho,hw⟩:=ready_iff.1 hi
   have hlt:i<ops.size:=(Array.getElem?_eq_some_iff.1 ho).1
   have hiR:=(hR i).2 ⟨hlt,h1⟩
   have hisz:i<L.size:=by
    rcases Nat.lt_or_ge i L.size with hx | hx
    ·exact hx
    ·simp [Array.getElem?_eq_none hx] at h1
   obtain ⟨k,D,t',htk⟩:=took (A:=A) ho hok hiR (fun k hk hin=>by
    have h3:=ziB hs hc i (fun o' k' ho' hw'=>by rw [ho] at ho';cases ho';exact hw k' hw') k hk
    have h4:=((hR k).1 hin).2
    have hksz:k<L.size:=by
     rcases Nat.lt_or_ge k L.size with hx | hx
     ·exact hx
     ·simp [Array.getElem?_eq_none hx] at h4
    simp only [Array.getD_eq_getD_getElem?,Array.getElem?_eq_getElem hksz,Option.getD_some] at h3 h4
    rw [h3] at h4
    cases h4)
   have hstep:=zgv ho htk.fr hv
   obtain ⟨rd',φ,hx,hrel⟩:=hr
   unfold wpOp
   simp only [ho]
   refine wa hx ho hrel hstep fun s' a' w' hk hr'=>?_
   refine ih (L.setIfInBounds i true) t' s' a' w' htk.ok ?_ ?_ ?_ hr' (xC (fun _ h=>zez h) hk.2)
   ·intro j
    rw [htk.set]
    constructor
    ·rintro ⟨hj,hne⟩
     have h2:=(hR j).1 hj
     exact ⟨h2.1,by rw [getD_set_ne true (fun e=>hne e.symm)];exact h2.2⟩
    ·rintro ⟨h2,h3⟩
     have hji:j≠i:=by
      rintro rfl
      simp [hisz] at h3
     rw [getD_set_ne true (fun e=>hji e.symm)] at h3
     exact ⟨(hR j).2 ⟨h2,h3⟩,hji⟩
   ·have:=htk.len
    omega
   ·intro j o' k hj ho' hw'
    by_cases hji:i=j
    ·subst hji
     rw [ho] at ho'
     cases ho'
     exact getD_set_true (hw k hw')
    ·rw [getD_set_ne false hji] at hj
     exact getD_set_true (hc j o' k hj ho' hw')
end
end Go.Proofs.YtpjpkmhaffmbmaaGreat.E
end
section
namespace Go.Proofs.YtpjpkmhaffmbmaaGreat.E
open Go Go.RowKit
set_option linter.unusedVariables false
def Weak (s s':St):Prop:=∀(rd:zcX) (O:Nat→Prop) (w0:World) (a:Act) (w:World),zan rd O w0 s a w→zan rd O w0 s' a w
theorem Weak.rel {s s':St} (hw:Weak s s') {rd:zcX} {O:Nat→Prop} {w0 w:World} {a:Act} (h:zan rd O w0 s a w):zan rd O w0 s' a w:=hw _ _ _ _ _ h
theorem Weak.refl (s:St):Weak s s:=fun _ _ _ _ _ h=>h
theorem Weak.trans {s s' s'':St} (h:Weak s s') (k:Weak s' s''):Weak s s'':=fun _ _ _ _ _ x=>k _ _ _ _ _ (h _ _ _ _ _ x)
theorem Weak.forget {n G:Nat} {tm tm':List (Nat × AV)} {σ σ':Sig} (e2:∀t v,zz tm' t=some v→zz tm t=some v) (e3:∀r x,zz σ' r=some x→zz σ r=some x):Weak ⟨n,tm,σ,G⟩ ⟨n,tm',σ',G⟩:=by
 intro rd O w0 a w ⟨rd',φ,hx,h⟩
 have hat:∀{r g p row},zo σ' r g p=some row→zo σ r g p=some row:=by
  intro r g p row hr
  unfold zo at hr ⊢
  cases hl:zz σ' r with
  | none=>rw [hl] at hr;cases hr
  | some x=>rw [hl] at hr;rw [e3 _ _ hl];exact hr
 exact ⟨rd',φ,hx,⟨fun r g p row hr=>h.heap.rows _ _ _ _ (hat hr),fun r g p row r' g' p' row' pl pl' b q q' h1 h2=>h.heap.sep _ _ _ _ _ _ _ _ _ _ _ _ _ (hat h1) (hat h2),h.heap.rdok,
  fun r g p row pl b q h1=>h.heap.rdsep _ _ _ _ _ _ _ (hat h1),fun r g p row pl b q h1=>h.heap.own _ _ _ _ _ _ _ (hat h1),h.heap.frame,h.heap.size,h.heap.os,h.heap.tape,h.heap.output⟩,
  fun t v hl=>h.tm _ _ (e2 _ _ hl),h.size,h.defers,h.gen⟩
def yI (Q:Exit→St→Prop) (K:St→Prop):Exit→St→Prop
 | .normal,s=>K s
 | .exit id,s=>Q (.exit id) s
 | .goto l,s=>Q (.goto l) s
 | .ret,s=>Q .ret s
 | .panic c,s=>Q (.panic c) s
 | .outgrown,s=>Q .outgrown s
def yH (id:Nat) (Q:Exit→St→Prop):Exit→St→Prop
 | .normal,s=>Q .normal s
 | .exit id',s=>match id'==id with
  | true=>Q .normal s
  | false=>Q (.exit id') s
 | .goto l,s=>Q (.goto l) s
 | .ret,s=>Q .ret s
 | .panic c,s=>Q (.panic c) s
 | .outgrown,s=>Q .outgrown s
def GoodC (P:Program) (c:Code) (s:St) (Q:Exit→St→Prop):Prop:=∀(rd:zcX) (O:Nat→Prop) (w0:World) (a:Act) (w:World),zan rd O w0 s a w→c.wp P (zao rd O w0 Q) a w
def vc (P:Program):Code→St→(Exit→St→Prop)→Prop
 | .skip,s,Q=>Q .normal s
 | .ret,s,Q=>Q .ret s
 | .exit id,s,Q=>Q (.exit id) s
 | .seq a b,s,Q=>vc P a s (yI Q fun s'=>∃s'',Weak s' s''∧vc P b s'' Q)∨GoodC P (.seq a b) s Q
 | .cond c x y,s,Q=>match ev s c with
  | .sc (.bool b)=>Br b (vc P x s Q) (vc P y s Q)
  | _=>False
 | .block id c,s,Q=>vc P c s (yH id Q)
 | .loop c,s,Q=>∃(I:Nat→St→Prop) (n:Nat) (s1:St),Weak s s1∧I n s1∧∀m s2,I m s2→vc P c s2 (yI Q fun s3=>∃m' s4,m'<m∧Weak s3 s4∧I m' s4)
 | .region _ ops draw,s,Q=>match draw with
  | false=>zc4 P ops ops.toList s (Q .normal)
  | true=>P.follows .mixedOrders=true∧∃(t:DT) (A:Nat→List Nat),Static ops A∧okT ops A false t∧(∀i,i∈yl t↔i<ops.size)∧(yl t).length≤ops.size∧vcT P ops t s (Q .normal)
 | _,_,_=>False
theorem zbt {P:Program} {Q:Exit→Act→World→Prop} {c:Code} (I:Nat→Act→World→Prop)
  (round:∀n a w,I n a w→c.wp P (Exit.then (fun a' w'=>∃m,m<n∧I m a' w') Q) a w) (n:Nat) (a:Act) (w:World) (h:I n a w):(Code.loop c).wp P Q a w:=by
 intro b k cs
 have key:∀n a w,I n a w→∃e a' w',Q e a' w'∧Arrives P (lone (b.at a (.code c::.inLoop c::k)) cs w) b k cs e a' w':=by
  intro n
  induction n using Nat.strongRecOn with
  | _ n ih=>
   intro a w hI
   obtain ⟨e,a1,w1,hq,harr⟩:=round n a w hI b (.inLoop c::k) cs
   cases e with
   | normal=>
    obtain ⟨m,hm,hI1⟩:=hq
    obtain ⟨e2,a2,w2,hq2,harr2⟩:=ih m hm a1 w1 hI1
    exact ⟨e2,a2,w2,hq2,.of_steps (Steps.trans harr (.one step_inLoop)) harr2⟩
   | _=>exact ⟨_,a1,w1,hq,.pass (x:=.inLoop c) rfl (fun _ _=>.inl (by simp)) harr⟩
 obtain ⟨e,a',w',hq,harr⟩:=key n a w h
 exact ⟨e,a',w',hq,.of_steps (.one step_loop) harr⟩
theorem zeQ (ops:Array Oper):(List.range ops.size).map (ops[·]?)=ops.toList.map some:=by
 apply List.ext_getElem?
 intro i
 rw [List.getElem?_map,List.getElem?_map]
 rcases Nat.lt_or_ge i ops.size with h | h
 ·rw [List.getElem?_range h]
  simp [h]
 ·rw [List.getElem?_eq_none (by simpa using h),List.getElem?_eq_none (by simpa using h)]
  rfl
theorem xB {P:Program} {rd:zcX} {O:Nat→Prop} {w0:World}:∀(c:Code) (s:St) (Q:Exit→St→Prop),vc P c s Q→∀a w,zan rd O w0 s a w→c.wp P (zao rd O w0 Q) a w
 | .skip,s,Q,hv,a,w,h=>wp_skip ⟨s,hv,h⟩
 | .ret,s,Q,hv,a,w,h=>wp_ret ⟨s,hv,h⟩
 | .exit id,s,Q,hv,a,w,h=>wp_exit ⟨s,hv,h⟩
 | .seq x y,s,Q,hv,a,w,h=>by
  rcases hv with hv | hv
  case inr=>exact hv _ _ _ _ _ h
  refine wp_seq (wp_mono (xB x s _ hv a w h) ?_)
  rintro e a' w' ⟨s',hk,hr⟩
  cases e with
  | normal=>
   obtain ⟨s'',hw,hk⟩:=hk
   exact xB y s'' Q hk a' w' (hw.rel hr)
  | _=>exact ⟨s',hk,hr⟩
 | .cond c x y,s,Q,hv,a,w,h=>by
  simp only [vc] at hv
  split at hv
  ·rename_i b hb
   obtain ⟨rd',φ,hx,hrel⟩:=h
   have hev:=hrel.ev c
   rw [hb] at hev
   have hev:=zY hev
   cases b with
   | true=>exact wp_cond_true hev (xB x s Q hv a w ⟨rd',φ,hx,hrel⟩)
   | false=>exact wp_cond_false hev (xB y s Q hv a w ⟨rd',φ,hx,hrel⟩)
  ·cases hv
 | .block id c,s,Q,hv,a,w,h=>by
  refine wp_block (wp_mono (xB c s _ hv a w h) ?_)
  rintro e a' w' ⟨s',hk,hr⟩
  cases e with
  | exit id'=>
   simp only [yH] at hk
   simp only [Exit.inBlock]
   by_cases hid:id'=id
   ·rw [if_pos hid]
    have:(id'==id)=true:=by simp [hid]
    rw [this] at hk
    exact ⟨s',hk,hr⟩
   ·rw [if_neg hid]
    have:(id'==id)=false:=by simp [hid]
    rw [this] at hk
    exact ⟨s',hk,hr⟩
  | _=>exact ⟨s',hk,hr⟩
 | .loop c,s,Q,hv,a,w,h=>by
  obtain ⟨I,n,s1,hw,hI,hround⟩:=hv
  refine zbt (fun n a w=>∃s,I n s∧zan rd O w0 s a w) ?_ n a w ⟨s1,hI,hw.rel h⟩
  rintro m a2 w2 ⟨s2,h2,hr2⟩
  refine wp_mono (xB c s2 _ (hround m s2 h2) a2 w2 hr2) ?_
  rintro e a' w' ⟨s3,hk,hr⟩
  cases e with
  | normal=>
   obtain ⟨m',s4,hlt,hweak,hI4⟩:=hk
   exact ⟨m',hlt,s4,hI4,hweak.rel hr⟩
  | _=>exact ⟨s3,hk,hr⟩
 | .region id ops draw,s,Q,hv,a,w,h=>by
  simp only [vc] at hv
  cases draw with
  | false=>exact wp_region (zaP (fun s' a' w' hk hr=>⟨s',hk,hr⟩) _ _ (zeQ ops) s a w h hv)
  | true=>
   obtain ⟨hm,t,A,h1,h2,h3,h4,h5⟩:=hv
   refine wp_region_any hm (znU h1 (fun s a w hk hr=>⟨s,hk,hr⟩) ops.size _ t s a _ h2 (fun i=>?_) h4 ?_ ?_ (xC (fun s hk=>⟨s,.refl s,hk⟩) h5))
   ·rw [h3]
    constructor
    ·intro hi
     exact ⟨hi,by simp [hi]⟩
    ·exact fun hi=>hi.1
   ·intro j o k hj
    exfalso
    simp only [Array.getD_eq_getD_getElem?,Array.getElem?_replicate] at hj
    split at hj<;>simp at hj
   ·obtain ⟨rd',φ,hx,hr⟩:=h
    exact ⟨rd',φ,hx,hr.heap.drew,hr.tm,hr.size,hr.defers,hr.gen⟩
 | .rangeFunc ..,s,Q,hv,a,w,h=>by cases hv
 | .scope _,s,Q,hv,a,w,h=>by cases hv
 | .label _,s,Q,hv,a,w,h=>by cases hv
 | .goto _,s,Q,hv,a,w,h=>by cases hv
 | .refuse _,s,Q,hv,a,w,h=>by cases hv
def addN (σ:Sig) (tm:List (Nat × AV)):List Nat→Asc→Asc
 | [],acc=>acc
 | t::ks,acc=>addN σ tm ks (zgB true σ 10000 20 t acc (zqM (match zz tm t with
  | some v=>v
  | none=>.dead)))
def zj2 (N:NF):List (Nat × AV)→List (Nat × AV)
 | []=>[]
 | (t,v)::l=>(t,zoq N v)::zj2 N l
def zrP (s:St) (ks:List (Nat × AV)) (L:Asc):Bool→Option Sig→St
 | true,some σ'=>⟨s.n,zj2 (lkN L) ks,σ',1⟩
 | _,_=>⟨s.n,[],[],s.G⟩
def znR (L:Asc):Bool:=L.all fun x=>Nat.beq x.2.2 0
def canN (s:St) (ks:List Nat):Asc:=addN s.σ s.tm ks (zgB true s.σ 1 20 900000 (zfT s.σ) (zlJ s.σ (zfT s.σ)))
def canL (s:St) (ks:List (Nat × AV)) (L:Asc):St:=zrP s ks L (je L&&(znR L&&zeC L)) (zeN s.σ (lkN L) L)
def zn8 (φ:Phi) (L:Asc):Phi:=fun r g p=>match lkB L r g with
 | some x=>φ x.1 x.2 p
 | none=>match Nat.beq g 0&&Nat.ble 1000000 r with
  | true=>φ r g p
  | false=>none
theorem zdT {φ:Phi} {L:Asc}:∀r g p pl,zda φ L r g p=some pl→zn8 φ L r g p=some pl:=by
 intro r g p pl h
 unfold zda at h
 unfold zn8
 split at h
 ·rename_i x hx
  first | exact h | (rw [hx];exact h)
 ·cases h
theorem zeV {φ:Phi} {L:Asc} (hs:zeC L=true):∀r p pl,φ r 0 p=some pl→1000000≤r→zn8 φ L r 0 p=some pl:=by
 intro r p pl h hr
 unfold zn8
 split
 ·rename_i x hx
  have h1:=List.all_eq_true.1 hs _ (zcg hx)
  simp only [Nat.ble_eq_true_of_le hr,Bool.and_eq_true] at h1
  have e1:=Nat.eq_of_beq_eq_true h1.1
  have e2:=Nat.eq_of_beq_eq_true h1.2
  rw [e1,e2]
  exact h
 ·have:(Nat.beq 0 0&&Nat.ble 1000000 r)=true:=by rw [Nat.ble_eq_true_of_le hr];rfl
  rw [this]
  exact h
theorem HRel.phi {rd:RD} {φ φ':Phi} {O:Nat→Prop} {w0 w:World} {σ:Sig} (h:HRel rd φ O w0 σ w) (hs:∀r g p pl,φ r g p=some pl→φ' r g p=some pl):HRel rd φ' O w0 σ w:=by
 have same:∀{r g p row pl},zo σ r g p=some row→φ' r g p=some pl→φ r g p=some pl:=by
  intro r g p row pl hr hp
  obtain ⟨pl',h1,_⟩:=h.rows _ _ _ _ hr
  rw [hs _ _ _ _ h1] at hp
  cases hp
  exact h1
 exact ⟨fun r g p row hr=>by obtain ⟨pl,h1,h2⟩:=h.rows _ _ _ _ hr;exact ⟨pl,hs _ _ _ _ h1,h2.mono (fun _ _ _ h=>h) hs⟩,
  fun r g p row r' g' p' row' pl pl' b q q' h1 h2 h3 h4=>h.sep _ _ _ _ _ _ _ _ _ _ _ _ _ h1 h2 (same h1 h3) (same h2 h4),h.rdok,fun r g p row pl b q h1 h2=>h.rdsep _ _ _ _ _ _ _ h1 (same h1 h2),
  fun r g p row pl b q h1 h2=>h.own _ _ _ _ _ _ _ h1 (same h1 h2),h.frame,h.size,h.os,h.tape,h.output⟩
theorem zce {N:NF}:∀{l:List (Nat × AV)} {t:Nat} {v:AV},zz (zj2 N l) t=some v→∃u,zz l t=some u∧v=zoq N u
 | [],_,_,h=>by cases h
 | (k,u)::l,t,v,h=>by
  simp only [zj2,zA] at h ⊢
  split at h
  ·rename_i hk;rw [if_pos hk];cases h;exact ⟨u,rfl,rfl⟩
  ·rename_i hk;rw [if_neg hk];exact zce h
theorem Weak.canL {s:St} {ks:List (Nat × AV)} (hks:∀t v,zz ks t=some v→∀(rd:RD) (φ:Phi) (O:Nat→Prop) (w0:World) (a:Act) (w:World),Rel rd φ O w0 s a w→VRel rd φ v (a.tmps.getD t undef)) (L:Asc):Weak s (E.canL s ks L):=by
 intro rd O w0 a w ⟨rd',φ,hx,h⟩
 have none':zan rd O w0 ⟨s.n,[],[],s.G⟩ a w:=by
  have hno:∀{r g p row},zo ([]:Sig) r g p=some row→False:=by
   intro r g p row hr
   simp [zo,zz] at hr
  exact ⟨rd',φ,hx,⟨fun r g p row hr=>(hno hr).elim,fun r g p row r' g' p' row' pl pl' b q q' hr=>(hno hr).elim,h.heap.rdok,fun r g p row pl b q hr=>(hno hr).elim,fun r g p row pl b q hr=>(hno hr).elim,h.heap.frame,h.heap.size,h.heap.os,h.heap.tape,h.heap.output⟩,
   fun t v hl=>by simp [zz] at hl,h.size,h.defers,h.gen⟩
 unfold E.canL
 cases hd:je L&&(znR L&&zeC L) with
 | false=>
  unfold zrP
  exact none'
 | true=>
  cases hr:zeN s.σ (lkN L) L with
  | none=>
   unfold zrP
   exact none'
  | some σ'=>
   simp only [Bool.and_eq_true] at hd
   unfold zrP
   refine ⟨rd',zn8 φ L,⟨hx.1,fun r p pl e hr=>zeV hd.2.2 r p pl (hx.2 r p pl e hr) hr⟩,(h.heap.renL hd.1 hr).phi zdT,fun t v hl=>?_,h.size,h.defers,fun r g p hp=>?_⟩
   ·obtain ⟨u,hu,rfl⟩:=zce hl
    exact (zbk (xd hd.1) (hks t u hu _ _ _ _ _ _ h)).mono (fun _ _ _ h=>h) zdT
   ·unfold zn8 at hp
    split at hp
    ·rename_i x hx
     have:=List.all_eq_true.1 hd.2.1 _ (zcg hx)
     have:=Nat.eq_of_beq_eq_true this
     simp only at this
     show g<1
     omega
    ·split at hp
     ·rename_i hg
      simp only [Bool.and_eq_true] at hg
      have:=Nat.eq_of_beq_eq_true hg.1
      show g<1
      omega
     ·exact absurd rfl hp
def jW (P:Program) (s:St):List ResultVar→Option (List AV)
 | []=>some []
 | .tmp t::l=>match jW P s l with
  | some vs=>some (ev s (.tmp t)::vs)
  | none=>none
 | .cell t ty::l=>match wB P s.σ ty (ev s (.tmp t)) with
  | some v=>match jW P s l with
   | some vs=>some (v::vs)
   | none=>none
  | none=>none
def xx:List AV→AV
 | [v]=>v
 | vs=>.tup vs
def zc8 (tmps:Array Value):ResultVar→Sem Value
 | .tmp t=>pure (tmps.getD t undef)
 | .cell a t=>do loadVar t (←asAddr (tmps.getD a undef))
theorem jz {P:Program} {rd:RD} {φ:Phi} {O:Nat→Prop} {w0 w:World} {s:St} {a:Act} (h:Rel rd φ O w0 s a w):∀{l:List ResultVar} {vs:List AV},jW P s l=some vs→
  ∃us,PW rd φ vs us∧(l.mapM (zc8 a.tmps)).run P w=Result.ok us w
 | [],vs,he=>by cases he;exact ⟨[],PW.nil,by simp⟩
 | .tmp t::l,vs,he=>by
  simp only [jW] at he
  split at he
  ·rename_i vs' hl
   cases he
   obtain ⟨us,h1,h2⟩:=jz h hl
   have hv:=h.ev (.tmp t)
   refine ⟨a.tmps.getD t undef::us,⟨by simp [h1.1],fun j c hc=>?_⟩,?_⟩
   ·cases j with
    | zero=>cases hc;exact ⟨_,rfl,hv⟩
    | succ j=>simpa using h1.2 j c (by simpa using hc)
   ·simp only [List.mapM_cons,Sem.run_bind,zc8,Sem.run_pure,Result.andThen_ok,h2]
  ·cases he
 | .cell t ty::l,vs,he=>by
  simp only [jW] at he
  split at he
  ·rename_i v hv
   split at he
   ·rename_i vs' hl
    cases he
    obtain ⟨us,h1,h2⟩:=jz h hl
    have hx:=h.ev (.tmp t)
    obtain ⟨cv,e1,e2⟩:=zhl h.heap hx hv
    have e3:(zc8 a.tmps (.cell t ty)).run P w=.ok cv w:=by
     rw [show a.eval (.tmp t)=a.tmps.getD t undef from rfl] at e1
     cases hp:a.tmps.getD t undef with
     | pointer A=>
      rw [hp] at e1
      cases A with
      | none=>simp [Instr.loadAt,Instr.sureAddr] at e1
      | some A=>
       simp only [Instr.loadAt,Instr.sureAddr,Sem.run_bind,Sem.run_pure,Result.andThen_ok] at e1
       simp only [zc8,hp,asAddr,Sem.run_bind,Sem.run_pure,Result.andThen_ok,e1]
     | _=>rw [hp] at e1;simp [Instr.loadAt,Instr.sureAddr] at e1
    refine ⟨cv::us,⟨by simp [h1.1],fun j c hc=>?_⟩,?_⟩
    ·cases j with
     | zero=>cases hc;exact ⟨_,rfl,e2⟩
     | succ j=>simpa using h1.2 j c (by simpa using hc)
    ·simp only [List.mapM_cons,Sem.run_bind,e3,Result.andThen_ok,h2,Sem.run_pure]
   ·cases he
  ·cases he
theorem wF {P:Program} {rd:RD} {φ:Phi} {O:Nat→Prop} {w0 w:World} {s:St} {a:Act} (h:Rel rd φ O w0 s a w) {fn:Func} {vs:List AV} (he:jW P s fn.results.toList=some vs):
  ∃v,(results fn a.tmps).run P w=.ok v w∧VRel rd φ (xx vs) v:=by
 obtain ⟨us,h1,h2⟩:=jz h he
 have h3:(fn.results.mapM (zc8 a.tmps)).run P w=.ok us.toArray w:=by
  rw [Array.mapM_eq_mapM_toList]
  simp [h2]
 have h4:results fn a.tmps=(do
  let vs ←fn.results.mapM (zc8 a.tmps)
  pure (if h:vs.size=1 then vs[0] else .tuple vs)):=rfl
 rw [h4,Sem.run_bind,h3]
 refine ⟨_,rfl,?_⟩
 split
 ·rename_i hs
  have hs':us.length=1:=by simpa using hs
  match us,vs,h1,hs' with
  | [u],[x],h1,_=>
   obtain ⟨v',hv',hr⟩:=h1.2 0 x rfl
   cases hv'
   exact hr
  | [u],[],h1,_=>exact absurd h1.1 (by simp)
  | [u],_::_::_,h1,_=>exact absurd h1.1 (by simp)
 ·rename_i hs
  have hs':us.length≠1:=by simpa using hs
  have hp:xx vs=.tup vs:=by
   match vs,h1 with
   | [],_=>rfl
   | [x],h1=>exact absurd (h1.1.symm.trans rfl) hs'
   | _::_::_,_=>rfl
  rw [hp]
  exact PW.tup h1
end Go.Proofs.YtpjpkmhaffmbmaaGreat.E
end
section
namespace Go.Proofs.YtpjpkmhaffmbmaaGreat.E
open Go Go.RowKit
open Go.ChangeMaps (setBlock)
set_option linter.unusedVariables false
section
variable {P:Program} {rd:RD} {φ:Phi} {O:Nat→Prop} {w0 w:World} {σ:Sig}
theorem zfo {w w':World} {b k:Nat} (h:w'.heap[b]?=w.heap[b]?):w'.cell? (mkA b k)=w.cell? (mkA b k):=by
 unfold World.cell?
 rw [show (mkA b k).block=b from rfl,h]
theorem zgu {w w':World} {b k:Nat} (h:w'.heap[b]?=w.heap[b]?):w'.frozen? (mkA b k)=w.frozen? (mkA b k):=by
 unfold World.frozen?
 rw [show (mkA b k).block=b from rfl,h]
theorem HRel.newObj (h:HRel rd φ O w0 σ w) (o:Obj):HRel rd φ O w0 σ (w.alloc o):=by
 have hlt:∀{r g p row pl b q},zo σ r g p=some row→φ r g p=some pl→pl.ad=some (b,q)→b<w.heap.size:=fun h1 h2 h3=>(h.own _ _ _ _ _ _ _ h1 h2 h3).2
 have hs:(w.alloc o).heap.size=w.heap.size+1:=World.size_alloc ..
 refine ⟨?_,h.sep,?_,h.rdsep,?_,?_,?_,h.os,h.tape,h.output⟩
 ·intro r g p row hr
  obtain ⟨pl,h1,h2⟩:=h.rows _ _ _ _ hr
  exact ⟨pl,h1,h2.of_same (fun b q had k=>⟨yf (hlt hr h1 had),yX (hlt hr h1 had)⟩) fun b q had es ck e=>by rw [Below.heap_alloc _ _ _ (hlt hr h1 had)];exact e⟩
 ·intro b o' v e
  have:=h.rdok b o' v e
  rw [yf (ql (by rw [this];rfl))]
  exact this
 ·intro r g p row pl b q h1 h2 h3
  obtain ⟨ha,hb⟩:=h.own _ _ _ _ _ _ _ h1 h2 h3
  exact ⟨ha,by rw [hs];omega⟩
 ·intro b hb hO
  have:=h.size
  rw [←h.frame b hb hO]
  show (w.heap.push o)[b]?=_
  rw [Array.getElem?_push,if_neg (by omega)]
 ·have:=h.size
  rw [hs];omega
theorem HRel.setObj (h:HRel rd φ O w0 σ w) {r:Nat} (o:Obj) (hno:¬zV φ σ r) (hrd:∀k,rd r k=none) (hr:w0.heap.size≤r):HRel rd φ O w0 σ (setBlock w r o):=by
 have hs:(setBlock w r o).heap.size=w.heap.size:=by simp [setBlock]
 have hne:∀{b:Nat},b≠r→(setBlock w r o).heap[b]?=w.heap[b]?:=fun hb=>by
  show (w.heap.setIfInBounds r o)[_]?=_
  rw [Array.getElem?_setIfInBounds_ne (Ne.symm hb)]
 have hb:∀{r' g p row pl b q},zo σ r' g p=some row→φ r' g p=some pl→pl.ad=some (b,q)→b≠r:=fun h1 h2 h3 e=>hno ⟨_,_,_,_,_,_,h1,h2,e▸h3⟩
 refine ⟨?_,h.sep,?_,h.rdsep,?_,?_,?_,h.os,h.tape,h.output⟩
 ·intro r' g p row hr'
  obtain ⟨pl,h1,h2⟩:=h.rows _ _ _ _ hr'
  exact ⟨pl,h1,h2.of_same (fun b q had k=>⟨zfo (hne (hb hr' h1 had)),zgu (hne (hb hr' h1 had))⟩) fun b q had es ck e=>by rw [hne (hb hr' h1 had)];exact e⟩
 ·intro b o' v e
  rw [zfo (hne (fun e'=>by rw [e',hrd] at e;cases e))]
  exact h.rdok b o' v e
 ·intro r' g p row pl b q h1 h2 h3
  obtain ⟨ha,hb⟩:=h.own _ _ _ _ _ _ _ h1 h2 h3
  exact ⟨ha,by rw [hs];omega⟩
 ·intro b hb' hO
  rw [hne (by omega)]
  exact h.frame b hb' hO
 ·rw [hs];exact h.size
theorem zqr {E:zcX} {w1 w2:World} {s':St} {a':Act} (hx:ExtE O w0 E rd φ) (h:HRel rd φ O w0 σ w1) (k:zan (rd,φ) (zV φ σ) w1 s' a' w2):
  ∃rd2 φ2,ExtE O w0 E rd2 φ2∧Rel rd2 φ2 O w0 s' a' w2∧(∀b o,b<w1.heap.size→¬zV φ σ b→rd2 b o=rd b o)∧(∀b,zV φ2 s'.σ b→zV φ σ b∨w1.heap.size≤b)∧(∀b,b<w1.heap.size→¬zV φ σ b→w2.heap[b]?=w1.heap[b]?):=by
 obtain ⟨rd2,φ2,hx2,k⟩:=k
 have hown:∀b,zV φ σ b→O b∨w0.heap.size≤b:=fun b ⟨r,g,p,row,pl,q,h1,h2,h3⟩=>(h.own _ _ _ _ _ _ _ h1 h2 h3).1
 have hs:=h.size
 refine ⟨rd2,φ2,⟨hx.1.trans ⟨hx2.1.1,fun b o hb hO=>hx2.1.2 b o (by omega) (fun hh=>(hown b hh).elim hO (by omega))⟩,fun r p pl e hr=>hx2.2 r p pl (hx.2 r p pl e hr) hr⟩,⟨⟨k.heap.rows,k.heap.sep,k.heap.rdok,k.heap.rdsep,?_,?_,?_,?_,?_,?_⟩,k.tm,k.size,k.defers,k.gen⟩,hx2.1.2,?_,k.heap.frame⟩
 ·intro r g p row pl b q h1 h2 h3
  obtain ⟨ha,hb⟩:=k.heap.own _ _ _ _ _ _ _ h1 h2 h3
  refine ⟨ha.elim (hown b) (fun hh=>.inr (by omega)),hb⟩
 ·intro b hb hO
  rw [k.heap.frame b (by omega) (fun hh=>(hown b hh).elim hO (by omega))]
  exact h.frame b hb hO
 ·have:=k.heap.size;omega
 ·rw [k.heap.os,h.os]
 ·rw [k.heap.tape,h.tape]
 ·rw [k.heap.output,h.output]
 ·rintro b ⟨r,g,p,row,pl,q,h1,h2,h3⟩
  exact (k.heap.own _ _ _ _ _ _ _ h1 h2 h3).1
theorem zby {E:zcX} {ops:Array Oper} {K:St→Prop} {Q:Exit→Act→World→Prop} {l2:List Nat} (hn:∀s' a' w',K s'→zan E O w0 s' a' w'→wpOps P ops Q l2 a' w'):
  ∀(l:List Nat) (os:List Oper),l.map (ops[·]?)=os.map some→∀s a w,zan E O w0 s a w→zc4 P ops os s K→wpOps P ops Q (l++l2) a w
 | [],[],_,s,a,w,h,hv=>hn _ _ _ hv h
 | [],_::_,hl,_,_,_,_,_=>by cases hl
 | _::_,[],hl,_,_,_,_,_=>by cases hl
 | i::l,o::os,hl,s,a,w,⟨rd',φ,hx,h⟩,hv=>by
  simp only [List.map_cons,List.cons.injEq] at hl
  simp only [List.cons_append,wpOps,hl.1]
  exact wa hx hl.1 h hv fun s' a' w' hk hr=>zby hn l os hl.2 s' a' w' hr hk
end
def RngB (P:Program) (it tn tk id:Nat) (body:Code) (Q:Exit→St→Prop) (str:ByteArray) (r:Nat) (I:Nat→St→Prop) (pos:Nat) (s:St):Prop:=
 (zz s.tm it=some (.it r)∧tn<s.n∧tk<s.n)∧
 (pos<str.size→∃c,Utf8.decode str pos=(c,1)∧vc P body ⟨s.n,(tk,.sc (.bool true))::(tn,.tup [.sc (.bool true),.sc (.int .i64 pos),.sc (.int .i32 c)])::s.tm,s.σ,s.G⟩ (yI (yH id Q) fun s4=>∃s5,Weak s4 s5∧I (pos+1) s5))∧
 (¬pos<str.size→Q .normal ⟨s.n,(tk,.sc (.bool false))::(tn,.tup [.sc (.bool false)])::s.tm,s.σ,s.G⟩)
def RngV (P:Program) (it tn tk id:Nat) (x:Operand) (body:Code) (Q:Exit→St→Prop) (s:St):Prop:=
 ∃str,ev s x=.sc (.string str)∧it<s.n∧∀r,∃(I:Nat→St→Prop) (s2:St),Weak ⟨s.n,(it,.it r)::s.tm,s.σ,s.G⟩ s2∧I 0 s2∧∀pos s3,I pos s3→RngB P it tn tk id body Q str r I pos s3
theorem Rel.putI {rd:RD} {φ:Phi} {O:Nat→Prop} {w0 w w':World} {s:St} {a:Act} {d:Nat} {v:AV} {cv:Value} (h:Rel rd φ O w0 s a w) (hd:d<s.n) (hh:HRel rd φ O w0 s.σ w') (hv:VRel rd φ v cv):
  Rel rd φ O w0 ⟨s.n,(d,v)::s.tm,s.σ,s.G⟩ (a.put (some d) cv) w':=by
 obtain ⟨s',e,hr⟩:=h.put (dst:=some d) (v:=v) (σ:=s.σ) (b:=false) (K:=fun s'=>s'=⟨s.n,(d,v)::s.tm,s.σ,s.G⟩) (by
  unfold E.put
  simp only
  rw [show Nat.blt d s.n=true from Nat.ble_eq_true_of_le hd]
  rfl) (fun _ _ _ h=>h) hh hv (fun _ _ _ _ h=>h) (fun _ _ _ h=>.inl h)
 exact e▸hr
theorem zra {rd:RD} {φ:Phi} {r:Nat} {v:Value} (h:VRel rd φ (.it r) v):v=.pointer (some ⟨r,0,none⟩):=by
 cases h
 rfl
theorem Rel.based {rd:RD} {φ:Phi} {O:Nat→Prop} {w0 w:World} {s:St} {a:Act} (h:Rel rd φ O w0 s a w):zan (rd,φ) (zV φ s.σ) w s a w:=
 ⟨rd,φ,.refl,h.heap.rebase,h.tm,h.size,h.defers,h.gen⟩
theorem Rel.kept {E:zcX} {rd:RD} {φ:Phi} {O:Nat→Prop} {w0 w w':World} {s s':St} {a a':Act} {r:Nat} (h:Rel rd φ O w0 s a w) (hx:ExtE O w0 E rd φ) (hr:r<w.heap.size) (hno:¬zV φ s.σ r) (hrd:∀k,rd r k=none)
  (k:zan (rd,φ) (zV φ s.σ) w s' a' w'):∃rd2 φ2,ExtE O w0 E rd2 φ2∧Rel rd2 φ2 O w0 s' a' w'∧w'.heap[r]?=w.heap[r]?∧(∀k,rd2 r k=none)∧¬zV φ2 s'.σ r:=by
 obtain ⟨rd2,φ2,h1,h2,h3,h4,h5⟩:=zqr hx h.heap k
 exact ⟨rd2,φ2,h1,h2,h5 r hr hno,fun k=>by rw [h3 r k hr hno,hrd],fun hh=>(h4 r hh).elim hno (by omega)⟩
theorem zlK {P:Program} {i1 i2 id it tn tk:Nat} {ty:TypeId} {x:Operand} {ops1 ops2:Array Oper} {body:Code} {pre:List Oper} {oR oN oE:Oper} {Q:Exit→St→Prop} {s:St}
  (h1:ops1.toList=pre++[oR]) (hR:oR.op=.range ty x∧oR.dst=some it∧oR.guard=none) (h2:ops2.toList=[oN,oE])
  (hN:oN.op=.next (.tmp it) true∧oN.dst=some tn∧oN.guard=none) (hE:oE.op=.extract (.tmp tn) 0∧oE.dst=some tk∧oE.guard=none) (hty:P.underlying ty=some .string)
  (hv:zc4 P ops1 pre s (RngV P it tn tk id x body Q)):
  GoodC P (.seq (.region i1 ops1 false) (.block id (.loop (.seq (.region i2 ops2 false) (.seq (.cond (.tmp tk) .skip (.exit id)) body))))) s Q:=by
 intro E O w0 a w h
 refine wp_seq (wp_region ?_)
 have hmap:=zeQ ops1
 have hsz:ops1.size=pre.length+1:=by rw [←Array.length_toList,h1];simp
 rw [h1,hsz,List.range_succ,List.map_append,List.map_append] at hmap
 obtain ⟨hm1,hm2⟩:=List.append_inj hmap (by simp)
 rw [hsz,List.range_succ]
 refine zby ?_ _ _ hm1 s a w h hv
 rintro s1 a1 w1 ⟨str,hx,hit,hI⟩ ⟨rd1,φ1,hx1,hr1⟩
 have hk:ops1[pre.length]?=some oR:=by simpa using hm2
 simp only [wpOps,hk]
 have hev:=hr1.ev x
 rw [hx] at hev
 have hev:=zY hev
 rw [if_pos (by simp [Region.wanted,hR.2.2])]
 refine .inl ?_
 unfold Oper.wp
 have hrun:(execOp a1.eval oR).run P w1=.ok (.value (.pointer (some ⟨w1.heap.size,0,none⟩))) (w1.iter str 0):=by
  unfold execOp
  rw [hR.1]
  simp [hev,run_range_string w1 ty str hty]
 rw [hrun,Oper.upon_value,hR.2.1]
 have hh1:HRel rd1 φ1 O w0 s1.σ (w1.iter str 0):=hr1.heap.newObj _
 have hr2:=hr1.putI hit hh1 (.it w1.heap.size)
 obtain ⟨I,s2,hweak,hI0,hround⟩:=hI w1.heap.size
 have hno1:¬zV φ1 s1.σ w1.heap.size:=fun ⟨r',g,p,row,pl,q,k1,k2,k3⟩=>Nat.lt_irrefl _ (hr1.heap.own _ _ _ _ _ _ _ k1 k2 k3).2
 have hrd1:∀k,rd1 w1.heap.size k=none:=fun k=>by
  cases e:rd1 w1.heap.size k with
  | none=>rfl
  | some v=>exact absurd (ql (w:=w1) (b:=w1.heap.size) (k:=k) (by rw [hr1.heap.rdok _ _ _ e];rfl)) (Nat.lt_irrefl _)
 obtain ⟨rd2,φ2,hx2,hr3,hheap,hrd2,hno2⟩:=hr2.kept (r:=w1.heap.size) hx1 (by show w1.heap.size<(w1.alloc _).heap.size;rw [World.size_alloc];omega) hno1 hrd1 (hweak _ _ _ _ _ hr2.based)
 have hheap:(w1.iter str 0).heap[w1.heap.size]?=some (.stringIter str 0):=World.iter_heap _ _ _
 have hle:w0.heap.size≤w1.heap.size:=hr1.heap.size
 have hlt:w1.heap.size<(w1.iter str 0).heap.size:=by show w1.heap.size<(w1.alloc _).heap.size;rw [World.size_alloc];omega
 generalize w1.iter str 0=w2 at *
 generalize w1.heap.size=r at *
 show (Code.block id _).wp P _ _ _
 refine wp_block (zbt (fun m a w=>∃pos s3 rd' φ,m=str.size - pos∧I pos s3∧ExtE O w0 E rd' φ∧Rel rd' φ O w0 s3 a w∧w.heap[r]?=some (.stringIter str pos)∧(∀k,rd' r k=none)∧¬zV φ s3.σ r) ?_ (str.size - 0) _ _ ⟨0,s2,rd2,φ2,rfl,hI0,hx2,hr3,hheap,hrd2,hno2⟩)
 rintro m a3 w3 ⟨pos,s3,rd3,φ3,rfl,hIp,hx3,hr4,hit3,hrd3,hno3⟩
 obtain ⟨⟨hlk,htn,htk⟩,hgo,hend⟩:=hround pos s3 hIp
 have hptr:a3.tmps.getD it undef=.pointer (some ⟨r,0,none⟩):=by
  exact zra (hr4.tm _ _ hlk)
 have hrlt:r<w3.heap.size:=by
  rcases Nat.lt_or_ge r w3.heap.size with h | h
  ·exact h
  ·rw [Array.getElem?_eq_none h] at hit3;cases hit3
 refine wp_seq (wp_region ?_)
 have hsz2:ops2.size=2:=by rw [←Array.length_toList,h2];rfl
 have hk0:ops2[0]?=some oN:=by rw [←Array.getElem?_toList,h2];rfl
 have hk1:ops2[1]?=some oE:=by rw [←Array.getElem?_toList,h2];rfl
 rw [hsz2,show List.range 2=[0,1] from rfl]
 simp only [wpOps,hk0,hk1]
 rw [if_pos (by simp [Region.wanted,hN.2.2])]
 refine .inl ?_
 by_cases hp:pos<str.size
 ·obtain ⟨c,hdec,hbody⟩:=hgo hp
  unfold Oper.wp
  have hrun:(execOp a3.eval oN).run P w3=.ok (.value (.tuple #[.bool true,.int .i64 pos,.int .i32 c])) (setBlock w3 r (.stringIter str (pos+1))):=by
   unfold execOp
   rw [hN.1]
   simp [Act.eval,hptr,Instr.next,getObj,Go.setObj,Sem.run,hit3,hp,hdec,Result.andThen,setBlock,goInt]
  rw [hrun,Oper.upon_value,hN.2.1]
  have hh4:=hr4.heap.setObj (Obj.stringIter str (pos+1)) hno3 hrd3 hle
  have hr5:=hr4.putI (cv:=.tuple #[.bool true,.int .i64 pos,.int .i32 c]) htn hh4 (v:=.tup [.sc (.bool true),.sc (.int .i64 pos),.sc (.int .i32 c)]) (PW.tup (PW.cons (.sc _ rfl) (PW.cons (.sc _ rfl) (PW.cons (.sc _ rfl) PW.nil))))
  have hget:(a3.put (some tn) (.tuple #[.bool true,.int .i64 pos,.int .i32 c])).tmps.getD tn undef=.tuple #[.bool true,.int .i64 pos,.int .i32 c]:=by
   rw [zbo _ _ _ _ (by rw [hr4.size];exact htn),if_pos rfl]
  rw [if_pos (by simp [Region.wanted,hE.2.2])]
  refine .inl ?_
  have hrun2:∀w,(execOp (a3.put (some tn) (.tuple #[.bool true,.int .i64 pos,.int .i32 c])).eval oE).run P w=.ok (.value (.bool true)) w:=by
   intro w
   unfold execOp
   rw [hE.1]
   simp only [Act.eval]
   rw [hget]
   rfl
  rw [hrun2,Oper.upon_value,hE.2.1]
  have hr6:=hr5.putI (d:=tk) (cv:=.bool true) (v:=.sc (.bool true)) htk hr5.heap (.sc _ rfl)
  have hit4:(setBlock w3 r (.stringIter str (pos+1))).heap[r]?=some (.stringIter str (pos+1)):=by
   show (w3.heap.setIfInBounds r _)[r]?=_
   rw [Array.getElem?_setIfInBounds_self_of_lt hrlt]
  have hrlt4:r<(setBlock w3 r (.stringIter str (pos+1))).heap.size:=by simp [setBlock];exact hrlt
  generalize setBlock w3 r (.stringIter str (pos+1))=w4 at *
  have hev4:=zY (hr6.tm tk (.sc (.bool true)) (by simp [zz]))
  refine wp_seq (wp_cond_true hev4 (wp_skip ?_))
  refine wp_mono (xB (rd:=(rd3,φ3)) (O:=zV φ3 s3.σ) (w0:=w4) body _ _ hbody _ _ hr6.based) ?_
  rintro e a' w' ⟨s',hk,hre⟩
  cases e with
  | normal=>
   obtain ⟨s5,hw5,hI5⟩:=hk
   obtain ⟨rd5,φ5,k1,k2,k3,k4,k5⟩:=hr6.kept hx3 hrlt4 hno3 hrd3 (hw5.rel hre)
   exact ⟨str.size - (pos+1),by omega,pos+1,s5,rd5,φ5,rfl,hI5,k1,k2,k3.trans hit4,k4,k5⟩
  | exit id'=>
   obtain ⟨rd5,φ5,k1,k2,k3,k4,k5⟩:=hr6.kept hx3 hrlt4 hno3 hrd3 hre
   simp only [yI,yH] at hk
   simp only [Exit.then,Exit.inBlock]
   by_cases hid:id'=id
   ·rw [if_pos hid]
    have:(id'==id)=true:=by simp [hid]
    rw [this] at hk
    exact ⟨s',hk,rd5,φ5,k1,k2⟩
   ·rw [if_neg hid]
    have:(id'==id)=false:=by simp [hid]
    rw [this] at hk
    exact ⟨s',hk,rd5,φ5,k1,k2⟩
  | _=>
   obtain ⟨rd5,φ5,k1,k2,k3,k4,k5⟩:=hr6.kept hx3 hrlt4 hno3 hrd3 hre
   exact ⟨s',hk,rd5,φ5,k1,k2⟩
 ·have hq:=hend hp
  unfold Oper.wp
  have hrun:(execOp a3.eval oN).run P w3=.ok (.value (.tuple #[.bool false])) w3:=by
   unfold execOp
   rw [hN.1]
   simp [Act.eval,hptr,Instr.next,getObj,Sem.run,hit3,hp,Result.andThen]
  rw [hrun,Oper.upon_value,hN.2.1]
  have hr5:=hr4.putI (cv:=.tuple #[.bool false]) htn hr4.heap (v:=.tup [.sc (.bool false)]) (PW.tup (PW.cons (.sc _ rfl) PW.nil))
  have hget:(a3.put (some tn) (.tuple #[.bool false])).tmps.getD tn undef=.tuple #[.bool false]:=by
   rw [zbo _ _ _ _ (by rw [hr4.size];exact htn),if_pos rfl]
  rw [if_pos (by simp [Region.wanted,hE.2.2])]
  refine .inl ?_
  have hrun2:∀w,(execOp (a3.put (some tn) (.tuple #[.bool false])).eval oE).run P w=.ok (.value (.bool false)) w:=by
   intro w
   unfold execOp
   rw [hE.1]
   simp only [Act.eval]
   rw [hget]
   rfl
  rw [hrun2,Oper.upon_value,hE.2.1]
  have hr6:=hr5.putI (d:=tk) (cv:=.bool false) (v:=.sc (.bool false)) htk hr5.heap (.sc _ rfl)
  have hev4:=zY (hr6.tm tk (.sc (.bool false)) (by simp [zz]))
  refine wp_seq (wp_cond_false hev4 (wp_exit ?_))
  simp only [Exit.then,Exit.inBlock,if_true]
  exact ⟨_,hq,rd3,φ3,hx3,hr6⟩
end Go.Proofs.YtpjpkmhaffmbmaaGreat.E
end
section
namespace Go.Proofs.YtpjpkmhaffmbmaaGreat.E
open Go Go.RowKit
set_option linter.unusedVariables false
structure GE where
 r:Nat
 g:Nat
 p:List Nat
 q:List Nat
 row:Row
def zcn (σ:Sig) (q:List Nat):AV→Option (AV × List GE)
 | .blk r g p sz off len=>match zo σ r g p with
  | some row=>match Nat.beq off 0,Nat.beq len row.es.length,Nat.ble 1 row.fl with
   | true,true,true=>some (.blk 0 0 q sz 0 len,[⟨r,g,p,q,row⟩])
   | _,_,_=>none
  | none=>none
 | .ptr .. | .agg _ | .tup _ | .dead | .rp _ | .it _ | .mr ..=>none
 | v=>some (v,[])
def zcm (σ:Sig) (q:List Nat):Nat→List AV→Option (List AV × List GE)
 | _,[]=>some ([],[])
 | k,c::cs=>match zcn σ (q++[k]) c with
  | some (c',l)=>match zcm σ q (k+1) cs with
   | some (cs',l')=>some (c'::cs',l++l')
   | none=>none
  | none=>none
def zco (σ:Sig) (q:List Nat):AV→Option (AV × List GE)
 | .agg cs=>match zcm σ q 0 cs with
  | some (cs',l)=>some (.agg cs',l)
  | none=>none
 | v=>zcn σ q v
def zaF (σ:Sig):Nat→List AV→Option (List AV × List GE)
 | _,[]=>some ([],[])
 | k,c::cs=>match zco σ [k] c with
  | some (c',l)=>match zaF σ (k+1) cs with
   | some (cs',l')=>some (c'::cs',l++l')
   | none=>none
  | none=>none
def zkv (σ:Sig):List AV→Option (AV × List GE)
 | [v]=>zco σ [] v
 | vs=>match zaF σ 0 vs with
  | some (vs',l)=>some (.tup vs',l)
  | none=>none
def zgJ:List Nat→List Nat→Bool
 | [],[]=>true
 | a::l,b::m=>match a==b with
  | true=>zgJ l m
  | false=>false
 | _,_=>false
theorem zcA:∀l:List Nat,zgJ l l=true
 | []=>rfl
 | a::l=>by simp [zgJ,zcA l]
def jy (e:GE):List GE→Bool
 | []=>true
 | f::l=>match zgJ e.q f.q,(match e.r==f.r with | true=>zgJ e.p f.p | false=>false) with
  | false,false=>jy e l
  | _,_=>false
def xY:List GE→Bool
 | []=>true
 | e::l=>match jy e l with
  | true=>xY l
  | false=>false
section
variable {P:Program} {rd:RD} {φ:Phi} {O:Nat→Prop} {w0 w:World} {σ:Sig}
theorem qm {e:GE}:∀{l:List GE},jy e l=true→∀f∈l,e.q≠f.q∧¬(e.r=f.r∧e.p=f.p)
 | [],_,f,hf=>by simp at hf
 | x::l,h,f,hf=>by
  simp only [jy] at h
  split at h
  ·rename_i h1 h2
   rcases List.mem_cons.1 hf with rfl | hf
   ·refine ⟨fun e'=>?_,fun ⟨e1,e2⟩=>?_⟩
    ·rw [e',zcA] at h1;cases h1
    ·have:(e.r==f.r)=true:=by simp [e1]
     rw [this,e2,zcA] at h2
     cases h2
   ·exact qm h f hf
  ·cases h
theorem zaj:∀{l:List GE},xY l=true→∀(i j:Nat) (e f:GE),l[i]?=some e→l[j]?=some f→(e.q=f.q∨(e.r=f.r∧e.p=f.p))→i=j
 | [],_,i,j,e,f,he,_,_=>by simp at he
 | x::l,h,i,j,e,f,he,hf,hh=>by
  simp only [xY] at h
  split at h
  ·rename_i h1
   have hs:=qm h1
   cases i with
   | zero=>
    cases j with
    | zero=>rfl
    | succ j=>
     cases he
     have hf':l[j]?=some f:=by simpa using hf
     have:=hs f (List.mem_of_getElem? hf')
     exact (hh.elim (fun h=>this.1 h) (fun h=>this.2 h)).elim
   | succ i=>
    cases j with
    | zero=>
     cases hf
     have he':l[i]?=some e:=by simpa using he
     have:=hs e (List.mem_of_getElem? he')
     exact (hh.elim (fun h=>this.1 h.symm) (fun h=>this.2 ⟨h.1.symm,h.2.symm⟩)).elim
    | succ j=>
     have:=zaj h i j e f (by simpa using he) (by simpa using hf) hh
     omega
  ·cases h
def zlf (rd:RD) (φ:Phi) (σ:Sig) (c':AV) (l:List GE) (v:Value):Prop:=
 (∀e∈l,zo σ e.r e.g e.p=some e.row∧1≤e.row.fl)∧∀ψ:List Nat→Option Pl,(∀e∈l,ψ e.q=φ e.r e.g e.p)→VRel rd (zcK ψ) c' v
theorem wZ {q:List Nat} {c c':AV} {l:List GE} {v:Value} (hv:VRel rd φ c v) (h:zcn σ q c=some (c',l)):zlf rd φ σ c' l v:=by
 have triv:∀{c:AV},sf c=true→VRel rd φ c v→some (c,[])=some (c',l)→zlf rd φ σ c' l v:=by
  intro c hs hv h
  cases h
  exact ⟨fun e he=>by simp at he,fun ψ _=>hv.of_sf hs⟩
 cases c with
 | blk r g p sz off len=>
  simp only [zcn] at h
  split at h
  ·rename_i row hrow
   split at h
   ·rename_i h1 h2 h3
    cases h
    have h1:=Nat.eq_of_beq_eq_true h1
    subst h1
    refine ⟨fun e he=>?_,fun ψ hψ=>?_⟩
    ·rw [List.mem_singleton.1 he];exact ⟨hrow,Nat.le_of_ble_eq_true h3⟩
    ·cases hv with
     | blk _ _ _ _ _ _ pl A hφ hA hl=>
      have hq:=hψ ⟨r,g,p,q,row⟩ (by simp)
      simp only at hq
      rw [hφ] at hq
      exact .blk 0 0 q sz 0 len pl A hq hA hl
   ·cases h
  ·cases h
 | sc v=>exact triv rfl hv h
 | nilS=>exact triv rfl hv h
 | ro sz es=>exact triv rfl hv h
 | _=>cases h
theorem wY {q:List Nat}:∀{k:Nat} {cs cs':List AV} {l:List GE} {vs:List Value},PW rd φ cs vs→zcm σ q k cs=some (cs',l)→
  (∀e∈l,zo σ e.r e.g e.p=some e.row∧1≤e.row.fl)∧∀ψ:List Nat→Option Pl,(∀e∈l,ψ e.q=φ e.r e.g e.p)→PW rd (zcK ψ) cs' vs
 | k,[],cs',l,vs,hp,h=>by
  cases h
  have:vs=[]:=List.eq_nil_of_length_eq_zero hp.1.symm
  subst this
  exact ⟨fun e he=>by simp at he,fun _ _=>PW.nil⟩
 | k,c::cs,cs',l,vs,hp,h=>by
  cases vs with
  | nil=>exact absurd hp.1 (by simp)
  | cons v vs=>
   simp only [zcm] at h
   split at h
   ·rename_i c1 l1 hc
    split at h
    ·rename_i cs1 l2 hcs
     cases h
     obtain ⟨v',hv',hr⟩:=hp.2 0 c rfl
     cases hv'
     have hp2:PW rd φ cs vs:=⟨by simpa using hp.1,fun j c hc=>by simpa using hp.2 (j+1) c (by simpa using hc)⟩
     obtain ⟨a1,a2⟩:=wZ hr hc
     obtain ⟨b1,b2⟩:=wY hp2 hcs
     refine ⟨fun e he=>(List.mem_append.1 he).elim (a1 e) (b1 e),fun ψ hψ=>?_⟩
     have x:=a2 ψ (fun e he=>hψ e (by simp [he]))
     have y:=b2 ψ (fun e he=>hψ e (by simp [he]))
     exact ⟨by simp [y.1],fun j c hc=>by
      cases j with
      | zero=>cases hc;exact ⟨v,rfl,x⟩
      | succ j=>simpa using y.2 j c (by simpa using hc)⟩
    ·cases h
   ·cases h
theorem zaa {q:List Nat} {c c':AV} {l:List GE} {v:Value} (hv:VRel rd φ c v) (h:zco σ q c=some (c',l)):zlf rd φ σ c' l v:=by
 cases c with
 | agg cs=>
  simp only [zco] at h
  split at h
  ·rename_i cs1 l1 hcs
   cases h
   obtain ⟨arr,rfl,hp⟩:=PW.of_agg hv
   obtain ⟨a1,a2⟩:=wY hp hcs
   exact ⟨a1,fun ψ hψ=>PW.agg (a2 ψ hψ)⟩
  ·cases h
 | _=>exact wZ (q:=q) hv h
theorem wX:∀{k:Nat} {cs cs':List AV} {l:List GE} {vs:List Value},PW rd φ cs vs→zaF σ k cs=some (cs',l)→
  (∀e∈l,zo σ e.r e.g e.p=some e.row∧1≤e.row.fl)∧∀ψ:List Nat→Option Pl,(∀e∈l,ψ e.q=φ e.r e.g e.p)→PW rd (zcK ψ) cs' vs
 | k,[],cs',l,vs,hp,h=>by
  cases h
  have:vs=[]:=List.eq_nil_of_length_eq_zero hp.1.symm
  subst this
  exact ⟨fun e he=>by simp at he,fun _ _=>PW.nil⟩
 | k,c::cs,cs',l,vs,hp,h=>by
  cases vs with
  | nil=>exact absurd hp.1 (by simp)
  | cons v vs=>
   simp only [zaF] at h
   split at h
   ·rename_i c1 l1 hc
    split at h
    ·rename_i cs1 l2 hcs
     cases h
     obtain ⟨v',hv',hr⟩:=hp.2 0 c rfl
     cases hv'
     have hp2:PW rd φ cs vs:=⟨by simpa using hp.1,fun j c hc=>by simpa using hp.2 (j+1) c (by simpa using hc)⟩
     obtain ⟨a1,a2⟩:=zaa hr hc
     obtain ⟨b1,b2⟩:=wX hp2 hcs
     refine ⟨fun e he=>(List.mem_append.1 he).elim (a1 e) (b1 e),fun ψ hψ=>?_⟩
     have x:=a2 ψ (fun e he=>hψ e (by simp [he]))
     have y:=b2 ψ (fun e he=>hψ e (by simp [he]))
     exact ⟨by simp [y.1],fun j c hc=>by
      cases j with
      | zero=>cases hc;exact ⟨v,rfl,x⟩
      | succ j=>simpa using y.2 j c (by simpa using hc)⟩
    ·cases h
   ·cases h
theorem zfb {vs:List AV} {c':AV} {l:List GE} {v:Value} (hv:VRel rd φ (xx vs) v) (h:zkv σ vs=some (c',l)):zlf rd φ σ c' l v:=by
 have many:xx vs=.tup vs→(match zaF σ 0 vs with | some (vs',l)=>some (AV.tup vs',l) | none=>none)=some (c',l)→zlf rd φ σ c' l v:=by
  intro hp h
  rw [hp] at hv
  split at h
  ·rename_i cs1 l1 hcs
   cases h
   obtain ⟨arr,rfl,hp⟩:=PW.of_tup hv
   obtain ⟨a1,a2⟩:=wX hp hcs
   exact ⟨a1,fun ψ hψ=>PW.tup (a2 ψ hψ)⟩
  ·cases h
 match vs,hv,h,many with
 | [x],hv,h,_=>exact zaa hv h
 | [],_,h,many=>exact many rfl h
 | _::_::_,_,h,many=>exact many rfl h
def zaU:List GE→List (List Nat × Row)
 | []=>[]
 | e::l=>(e.q,e.row)::zaU l
def zhZ (φ:Phi):List GE→List Nat→Option Pl
 | [],_=>none
 | e::l,q=>if q=e.q then φ e.r e.g e.p else zhZ φ l q
theorem zaZ:∀{l:List GE} {p:List Nat} {row:Row},jO (zaU l) p=some row→∃(i:Nat) (e:GE),l[i]?=some e∧e.q=p∧e.row=row
 | [],_,_,h=>by cases h
 | e::l,p,row,h=>by
  simp only [zaU,jO] at h
  split at h
  ·rename_i hp;cases h;exact ⟨0,e,rfl,hp.symm,rfl⟩
  ·obtain ⟨i,f,h1,h2,h3⟩:=zaZ h;exact ⟨i+1,f,by simpa using h1,h2,h3⟩
theorem zau:∀{l:List GE},xY l=true→∀e∈l,zhZ φ l e.q=φ e.r e.g e.p
 | [],_,e,he=>by simp at he
 | x::l,h,e,he=>by
  simp only [xY] at h
  split at h
  ·rename_i h1
   simp only [zhZ]
   rcases List.mem_cons.1 he with rfl | he
   ·simp
   ·have:=(qm h1 e he).1
    rw [if_neg (fun hh=>this hh.symm)]
    exact zau h e he
  ·cases h
theorem HRel.back (h:HRel rd φ O w0 σ w) {l:List GE} (hl:∀e∈l,zo σ e.r e.g e.p=some e.row∧1≤e.row.fl) (ha:xY l=true):
  HRel rd (zcK (zhZ φ l)) O w0 (wE (zaU l)) w:=by
 have hcase:∀{r g p row},zo (wE (zaU l)) r g p=some row→∃(i:Nat) (e:GE),l[i]?=some e∧e.q=p∧e.row=row∧zo σ e.r e.g e.p=some row∧1≤row.fl∧r=0∧zcK (zhZ φ l) r g p=φ e.r e.g e.p:=by
  intro r g p row hr
  cases hl2:zaU l with
  | nil=>rw [hl2] at hr;simp [wE,zo,zz] at hr
  | cons x m=>
   rw [hl2] at hr
   simp only [wE,zo,zA,zz] at hr
   split at hr
   ·rename_i g' f hx
    split at hx
    ·rename_i h0
     cases hx
     split at hr
     ·rename_i hg
      rw [←hl2] at hr
      obtain ⟨i,e,h1,h2,h3⟩:=zaZ hr
      have hm:=List.mem_of_getElem? h1
      obtain ⟨k1,k2⟩:=hl e hm
      subst h0;subst hg
      refine ⟨i,e,h1,h2,h3,h3▸k1,h3▸k2,rfl,?_⟩
      rw [←h2]
      exact zau ha e hm
     ·cases hr
    ·cases hx
   ·cases hr
 refine ⟨?_,?_,h.rdok,?_,?_,h.frame,h.size,h.os,h.tape,h.output⟩
 ·intro r g p row hr
  obtain ⟨i,e,h1,h2,h3,h4,h5,h6,h7⟩:=hcase hr
  obtain ⟨pl,k1,k2⟩:=h.rows _ _ _ _ h4
  refine ⟨pl,by rw [h7,k1],k2.wide,k2.len,k2.kind,k2.nil,k2.room,fun b q had i j c hc=>?_,k2.frz,k2.mp⟩
  obtain ⟨v,hv,hrel⟩:=k2.cells b q had i j c hc
  refine ⟨v,hv,hrel.of_sf ?_⟩
  have hm:∃e∈row.es,c∈e:=by
   cases he:row.es[i]? with
   | none=>rw [he] at hc;cases hc
   | some e=>rw [he] at hc;exact ⟨e,List.mem_of_getElem? he,List.mem_of_getElem? hc⟩
  obtain ⟨e',he,hce⟩:=hm
  have hs:=(k2.kind e' he).1 h5 c hce
  cases c<;>first | rfl | cases hs
 ·intro r g p row r' g' p' row' pl pl' b q q' h1 h2 h3 h4 h5 h6
  obtain ⟨i,e,a1,a2,a3,a4,a5,a6,a7⟩:=hcase h1
  obtain ⟨j,f,b1,b2,b3,b4,b5,b6,b7⟩:=hcase h2
  rw [a7] at h3
  rw [b7] at h4
  have:=h.sep _ _ _ _ _ _ _ _ _ _ _ _ _ a4 b4 h3 h4 h5 h6
  have hij:=zaj ha i j e f a1 b1 (.inr this)
  subst hij
  rw [a1] at b1
  cases b1
  exact ⟨a6.trans b6.symm,a2.symm.trans b2⟩
 ·intro r g p row pl b q h1 h2 h3 k hor
  obtain ⟨i,e,a1,a2,a3,a4,a5,a6,a7⟩:=hcase h1
  rw [a7] at h2
  exact h.rdsep _ _ _ _ _ _ _ a4 h2 h3 k hor
 ·intro r g p row pl b q h1 h2 h3
  obtain ⟨i,e,a1,a2,a3,a4,a5,a6,a7⟩:=hcase h1
  rw [a7] at h2
  exact h.own _ _ _ _ _ _ _ a4 h2 h3
def zkA (σ:Sig):AV→AV→Option (Sig × AV)
 | .blk ..,c=>some (σ,c)
 | .ptr ..,c=>some (σ,c)
 | .mr ..,c=>some (σ,c)
 | .ro sz _,.nilS=>some (σ,.ro sz [])
 | _,c=>zni σ c
def zkz (σ:Sig):List AV→List AV→Option (Sig × List AV)
 | [],[]=>some (σ,[])
 | u::us,c::cs=>(zkA σ u c).bind fun x=>(zkz x.1 us cs).map fun y=>(y.1,x.2::y.2)
 | _,_=>none
def zrw (σ:Sig):AV→AV→Option (Sig × AV)
 | .agg us,.agg cs=>(zkz σ us cs).map fun x=>(x.1,.agg x.2)
 | u,c=>zkA σ u c
def zky (σ:Sig):List AV→List AV→Option (Sig × List AV)
 | [],[]=>some (σ,[])
 | u::us,c::cs=>(zrw σ u c).bind fun x=>(zky x.1 us cs).map fun y=>(y.1,x.2::y.2)
 | _,_=>none
def zfd (σ:Sig) (res:AV):List AV→Option (Sig × List AV)
 | [v]=>(zrw σ res v).map fun x=>(x.1,[x.2])
 | vs=>match res with
  | .tup us=>zky σ us vs
  | _=>none
theorem zcr (h:HRel rd φ O w0 σ w) {u c c':AV} {v:Value} {σ':Sig} (hv:VRel rd φ c v) (hf:zkA σ u c=some (σ',c')):
  jY rd φ O w0 w σ' fun rd'=>VRel rd' φ c' v:=by
 unfold zkA at hf
 split at hf
 ·cases hf;exact ⟨rd,.refl,h,hv⟩
 ·cases hf;exact ⟨rd,.refl,h,hv⟩
 ·cases hf;exact ⟨rd,.refl,h,hv⟩
 ·cases hf;cases hv;exact ⟨rd,.refl,h,.ro0 _ _ _⟩
 ·obtain ⟨rd1,x1,k1,v1,_⟩:=jI h hv hf
  exact ⟨rd1,x1,k1,v1 φ⟩
theorem zcq:∀{us cs cs':List AV} {vs:List Value} {rd:RD} {σ σ':Sig},HRel rd φ O w0 σ w→PW rd φ cs vs→zkz σ us cs=some (σ',cs')→
  jY rd φ O w0 w σ' fun rd'=>PW rd' φ cs' vs
 | [],[],cs',vs,rd,σ,σ',h,hp,hf=>by cases hf;exact ⟨rd,.refl,h,hp⟩
 | u::us,c::cs,cs',vs,rd,σ,σ',h,hp,hf=>by
  obtain ⟨v,us,rfl,hr,hp⟩:=hp.uncons
  simp only [zkz] at hf
  obtain ⟨⟨σ1,c1⟩,h1,hf⟩:=Option.bind_eq_some_iff.1 hf
  obtain ⟨⟨σ2,cs2⟩,h2,hf⟩:=Option.map_eq_some_iff.1 hf
  cases hf
  obtain ⟨rd1,x1,k1,v1⟩:=zcr h hr h1
  obtain ⟨rd2,x2,k2,v2⟩:=zcq k1 (hp.mono x1.1 (fun _ _ _ _ h=>h)) h2
  exact ⟨rd2,x1.trans x2,k2,PW.cons (v1.mono x2.1 (fun _ _ _ _ h=>h)) v2⟩
 | [],_::_,_,_,_,_,_,_,_,hf=>by cases hf
 | _::_,[],_,_,_,_,_,_,_,hf=>by cases hf
theorem zdw (h:HRel rd φ O w0 σ w) {u c c':AV} {v:Value} {σ':Sig} (hv:VRel rd φ c v) (hf:zrw σ u c=some (σ',c')):
  jY rd φ O w0 w σ' fun rd'=>VRel rd' φ c' v:=by
 unfold zrw at hf
 split at hf
 ·obtain ⟨arr,rfl,hp⟩:=PW.of_agg hv
  obtain ⟨⟨σ1,cs1⟩,h1,hf⟩:=Option.map_eq_some_iff.1 hf
  cases hf
  obtain ⟨rd1,x1,k1,v1⟩:=zcq h hp h1
  exact ⟨rd1,x1,k1,PW.agg v1⟩
 ·exact zcr h hv hf
theorem zcp:∀{us cs cs':List AV} {vs:List Value} {rd:RD} {σ σ':Sig},HRel rd φ O w0 σ w→PW rd φ cs vs→zky σ us cs=some (σ',cs')→
  cs'.length=cs.length∧jY rd φ O w0 w σ' fun rd'=>PW rd' φ cs' vs
 | [],[],cs',vs,rd,σ,σ',h,hp,hf=>by cases hf;exact ⟨rfl,rd,.refl,h,hp⟩
 | u::us,c::cs,cs',vs,rd,σ,σ',h,hp,hf=>by
  obtain ⟨v,us,rfl,hr,hp⟩:=hp.uncons
  simp only [zky] at hf
  obtain ⟨⟨σ1,c1⟩,h1,hf⟩:=Option.bind_eq_some_iff.1 hf
  obtain ⟨⟨σ2,cs2⟩,h2,hf⟩:=Option.map_eq_some_iff.1 hf
  cases hf
  obtain ⟨rd1,x1,k1,v1⟩:=zdw h hr h1
  obtain ⟨hlen,rd2,x2,k2,v2⟩:=zcp k1 (hp.mono x1.1 (fun _ _ _ _ h=>h)) h2
  exact ⟨by simp [hlen],rd2,x1.trans x2,k2,PW.cons (v1.mono x2.1 (fun _ _ _ _ h=>h)) v2⟩
 | [],_::_,_,_,_,_,_,_,_,hf=>by cases hf
 | _::_,[],_,_,_,_,_,_,_,hf=>by cases hf
theorem qK {vs:List AV} (h:vs.length≠1):xx vs=.tup vs:=by
 match vs with
 | []=>rfl
 | [x]=>exact absurd rfl h
 | _::_::_=>rfl
theorem za3 (h:HRel rd φ O w0 σ w) {res:AV} {vs vs':List AV} {v:Value} {σ':Sig} (hv:VRel rd φ (xx vs) v) (hf:zfd σ res vs=some (σ',vs')):
  jY rd φ O w0 w σ' fun rd'=>VRel rd' φ (xx vs') v:=by
 unfold zfd at hf
 split at hf
 ·obtain ⟨⟨σ1,c1⟩,h1,hf⟩:=Option.map_eq_some_iff.1 hf
  cases hf
  exact zdw h hv h1
 ·rename_i hne
  have hl:vs.length≠1:=fun e=>by
   match vs,e with
   | [x],_=>exact hne x rfl
  split at hf
  ·rename_i us
   rw [qK hl] at hv
   obtain ⟨arr,rfl,hp⟩:=PW.of_tup hv
   obtain ⟨hlen,rd1,x1,k1,v1⟩:=zcp h hp hf
   rw [show xx vs'=.tup vs' from qK (by rw [hlen];exact hl)]
   exact ⟨rd1,x1,k1,PW.tup v1⟩
  ·cases hf
end
def zjW (u c:AV) (σ:Sig) (G:Nat):AV × Sig × Nat:=match c with
 | .nilS=>match u with
  | .blk _ _ _ sz _ _=>(.blk (800000+G) G [] sz 0 0,yD σ (800000+G) (G,one ⟨sz,[],2,false⟩),G+1)
  | _=>(.nilS,σ,G)
 | c=>(c,σ,G)
def zm8:List AV→List AV→Sig→Nat→List AV × Sig × Nat
 | u::us,c::cs,σ,G=>((zjW u c σ G).1::(zm8 us cs (zjW u c σ G).2.1 (zjW u c σ G).2.2).1,(zm8 us cs (zjW u c σ G).2.1 (zjW u c σ G).2.2).2)
 | _,cs,σ,G=>(cs,σ,G)
def zm7 (u c:AV) (σ:Sig) (G:Nat):AV × Sig × Nat:=match c with
 | .agg cs=>match u with
  | .agg us=>(.agg (zm8 us cs σ G).1,(zm8 us cs σ G).2)
  | _=>(.agg cs,σ,G)
 | c=>zjW u c σ G
def ziG (rd:RD) (φ:Phi) (O:Nat→Prop) (w0 w:World) (X:(Phi→Prop)) (σ':Sig) (G':Nat):Prop:=
 ∃φ',(∀r g p pl,φ r g p=some pl→φ' r g p=some pl)∧HRel rd φ' O w0 σ' w∧(∀r g p,φ' r g p≠none→g<G')∧X φ'
theorem zdf {rd:RD} {φ:Phi} {O:Nat→Prop} {w0 w:World} {σ:Sig} {u c:AV} {v:Value} {G:Nat} (h:HRel rd φ O w0 σ w) (hg:∀r g p,φ r g p≠none→g<G) (hv:VRel rd φ c v):
  ziG rd φ O w0 w (fun φ'=>VRel rd φ' (zjW u c σ G).1 v) (zjW u c σ G).2.1 (zjW u c σ G).2.2:=by
 have same:ziG rd φ O w0 w (fun φ'=>VRel rd φ' c v) σ G:=⟨φ,fun _ _ _ _ h=>h,h,hg,hv⟩
 unfold zjW
 split
 ·split
  ·rename_i r g p sz off len
   cases hv
   have hfr:∀q,φ (800000+G) G q=none:=fun q=>by
    cases hh:φ (800000+G) G q with
    | none=>rfl
    | some x=>exact absurd (hg _ _ _ (by rw [hh];simp)) (Nat.lt_irrefl G)
   have hn:=h.newNil hfr sz 2
   refine ⟨_,hn.2,hn.1,fun r g p hp=>?_,?_⟩
   ·unfold zB at hp
    split at hp
    ·rename_i e;rw [e.2];exact Nat.lt_succ_self G
    ·exact Nat.lt_succ_of_lt (hg _ _ _ hp)
   ·exact .blk (800000+G) G [] sz 0 0 ⟨none,0⟩ none (by simp [zB]) (.inl rfl) (Nat.zero_le _)
  ·exact same
 ·exact same
theorem zde:∀{us cs:List AV} {vs:List Value} {rd:RD} {φ:Phi} {O:Nat→Prop} {w0 w:World} {σ:Sig} {G:Nat},HRel rd φ O w0 σ w→(∀r g p,φ r g p≠none→g<G)→PW rd φ cs vs→
  ziG rd φ O w0 w (fun φ'=>PW rd φ' (zm8 us cs σ G).1 vs) (zm8 us cs σ G).2.1 (zm8 us cs σ G).2.2
 | u::us,c::cs,vs,rd,φ,O,w0,w,σ,G,h,hg,hp=>by
  obtain ⟨v,vs,rfl,hr,hp⟩:=hp.uncons
  obtain ⟨φ1,x1,h1,g1,v1⟩:=zdf (u:=u) h hg hr
  obtain ⟨φ2,x2,h2,g2,v2⟩:=zde (us:=us) h1 g1 (hp.mono (fun _ _ _ h=>h) x1)
  exact ⟨φ2,fun r g p pl hh=>x2 _ _ _ _ (x1 _ _ _ _ hh),h2,g2,PW.cons (v1.mono (fun _ _ _ h=>h) x2) v2⟩
 | [],cs,vs,rd,φ,O,w0,w,σ,G,h,hg,hp=>⟨φ,fun _ _ _ _ h=>h,h,hg,hp⟩
 | _::_,[],vs,rd,φ,O,w0,w,σ,G,h,hg,hp=>⟨φ,fun _ _ _ _ h=>h,h,hg,hp⟩
theorem zdd {rd:RD} {φ:Phi} {O:Nat→Prop} {w0 w:World} {σ:Sig} {u c:AV} {v:Value} {G:Nat} (h:HRel rd φ O w0 σ w) (hg:∀r g p,φ r g p≠none→g<G) (hv:VRel rd φ c v):
  ziG rd φ O w0 w (fun φ'=>VRel rd φ' (zm7 u c σ G).1 v) (zm7 u c σ G).2.1 (zm7 u c σ G).2.2:=by
 unfold zm7
 split
 ·split
  ·obtain ⟨arr,rfl,hp⟩:=PW.of_agg hv
   obtain ⟨φ1,x1,h1,g1,v1⟩:=zde h hg hp
   exact ⟨φ1,x1,h1,g1,PW.agg v1⟩
  ·exact ⟨φ,fun _ _ _ _ h=>h,h,hg,hv⟩
 ·exact zdf h hg hv
def zfE:List AV→List AV→Sig→Nat→List AV × Sig × Nat
 | u::us,v::vs,σ,G=>match zm7 u v σ G with
  | (v',σ',G')=>match zfE us vs σ' G' with
   | (vs',x)=>(v'::vs',x)
 | _,vs,σ,G=>(vs,σ,G)
def zev (res:AV):List AV→List AV
 | [_]=>[res]
 | _=>match res with
  | .tup us=>us
  | _=>[]
theorem zay:∀{us cs:List AV} {vs:List Value} {rd:RD} {φ:Phi} {O:Nat→Prop} {w0 w:World} {σ:Sig} {G:Nat},HRel rd φ O w0 σ w→(∀r g p,φ r g p≠none→g<G)→PW rd φ cs vs→
  (zfE us cs σ G).1.length=cs.length∧ziG rd φ O w0 w (fun φ'=>PW rd φ' (zfE us cs σ G).1 vs) (zfE us cs σ G).2.1 (zfE us cs σ G).2.2
 | u::us,c::cs,vs,rd,φ,O,w0,w,σ,G,h,hg,hp=>by
  obtain ⟨v,vs,rfl,hr,hp⟩:=hp.uncons
  obtain ⟨φ1,x1,h1,g1,v1⟩:=zdd (u:=u) h hg hr
  obtain ⟨hl,φ2,x2,h2,g2,v2⟩:=zay (us:=us) h1 g1 (hp.mono (fun _ _ _ h=>h) x1)
  exact ⟨by simp only [zfE,List.length_cons,hl],φ2,fun r g p pl hh=>x2 _ _ _ _ (x1 _ _ _ _ hh),h2,g2,PW.cons (v1.mono (fun _ _ _ h=>h) x2) v2⟩
 | [],cs,vs,rd,φ,O,w0,w,σ,G,h,hg,hp=>⟨rfl,φ,fun _ _ _ _ h=>h,h,hg,hp⟩
 | _::_,[],vs,rd,φ,O,w0,w,σ,G,h,hg,hp=>⟨rfl,φ,fun _ _ _ _ h=>h,h,hg,hp⟩
theorem zbX {rd:RD} {φ:Phi} {O:Nat→Prop} {w0 w:World} {σ:Sig} {us cs:List AV} {v:Value} {G:Nat} (h:HRel rd φ O w0 σ w) (hg:∀r g p,φ r g p≠none→g<G) (hv:VRel rd φ (xx cs) v):
  ziG rd φ O w0 w (fun φ'=>VRel rd φ' (xx (zfE us cs σ G).1) v) (zfE us cs σ G).2.1 (zfE us cs σ G).2.2:=by
 by_cases hl:cs.length=1
 ·match cs,hl with
  | [c],_=>
   have hp:PW rd φ [c] [v]:=PW.cons hv ⟨rfl,fun j c hc=>by simp at hc⟩
   obtain ⟨hlen,φ',x1,h1,g1,v1⟩:=zay (us:=us) h hg hp
   refine ⟨φ',x1,h1,g1,?_⟩
   generalize (zfE us [c] σ G).1=cs' at *
   match cs',hlen with
   | [c'],_=>
    obtain ⟨v',vs',e,hr,-⟩:=v1.uncons
    cases e
    exact hr
 ·rw [qK hl] at hv
  obtain ⟨arr,rfl,hp⟩:=PW.of_tup hv
  obtain ⟨hlen,φ',x1,h1,g1,v1⟩:=zay (us:=us) h hg hp
  exact ⟨φ',x1,h1,g1,by rw [qK (by rw [hlen];exact hl)];exact PW.tup v1⟩
def RetA (res:AV) (rf:List (List Nat × Row)):List AV × Sig × Nat→Prop
 | (vs,σ,_)=>match zfd σ res vs with
  | some (σ1,vs1)=>match zkv σ1 vs1 with
   | some (v,l)=>xY l=true∧v=res∧zaU l=rf
   | none=>False
  | none=>False
def zmJ (P:Program) (fn:Func) (s:St) (res:AV) (rf:List (List Nat × Row)):Prop:=
 match jW P s fn.results.toList with
 | some vs=>RetA res rf (zfE (zev res vs) vs s.σ s.G)
 | none=>False
def retK (P:Program) (fn:Func) (res:AV) (rf:List (List Nat × Row)):Exit→St→Prop
 | .ret,s=>zmJ P fn s res rf
 | .normal,s=>zmJ P fn s res rf
 | _,_=>False
def zaf:Nat→List AV→List (Nat × AV)
 | _,[]=>[]
 | k,v::vs=>(k,v)::zaf (k+1) vs
theorem wt:∀(vs:List AV) (k t:Nat) (v:AV),zz (zaf k vs) t=some v→k≤t∧vs[t - k]?=some v
 | [],k,t,v,h=>by cases h
 | x::vs,k,t,v,h=>by
  simp only [zaf,zA] at h
  split at h
  ·rename_i e;subst e;cases h;exact ⟨Nat.le_refl _,by simp⟩
  ·obtain ⟨h1,h2⟩:=wt vs (k+1) t v h
   refine ⟨by omega,?_⟩
   rw [show t - k=(t - (k+1))+1 by omega,List.getElem?_cons_succ]
   exact h2
theorem zgD {P:Program} {n:Nat} {fn:Func} (hf:P.funcs[n]?=some fn) {code:Code} (hb:fn.body=some code) (hn:(fn.name== "runtime.NumGoroutine")=false)
  {args:List AV} {res:AV} {rf:List (List Nat × Row)} (hlen:args.length≤fn.ntmps)
  (hv:vc P code ⟨fn.ntmps,zaf 0 args,[],0⟩ (retK P fn res rf)):CallR P n args res rf:=by
 refine ⟨⟨fn,hf,hn,by rw [hb];rfl⟩,fun w rd cargs hrd hargs=>?_⟩
 have hsz:cargs.size=args.length:=by rw [hargs.1];simp
 have hrel:Rel rd (fun _ _ _=>none) (fun _=>False) w ⟨fn.ntmps,zaf 0 args,[],0⟩ {tmps:=cargs++Array.replicate (fn.ntmps - cargs.size) undef,defers:=[]} w:=by
  refine ⟨⟨?_,?_,hrd,?_,?_,fun _ _ _=>rfl,Nat.le_refl _,rfl,rfl,rfl⟩,?_,by simp;omega,rfl,fun r g p hp=>absurd rfl hp⟩
  ·intro r g p row hr;simp [zo,zz] at hr
  ·intro r g p row r' g' p' row' pl pl' b q q' hr;simp [zo,zz] at hr
  ·intro r g p row pl b q hr;simp [zo,zz] at hr
  ·intro r g p row pl b q hr;simp [zo,zz] at hr
  ·intro t v hl
   obtain ⟨_,h2⟩:=wt _ _ _ _ hl
   obtain ⟨cv,h3,h4⟩:=hargs.2 t v (by simpa using h2)
   have h5:cargs[t]?=some cv:=by simpa using h3
   have ht:t<cargs.size:=by
    rcases Nat.lt_or_ge t cargs.size with hx | hx
    ·exact hx
    ·rw [Array.getElem?_eq_none hx] at h5;cases h5
   have:(cargs++Array.replicate (fn.ntmps - cargs.size) undef).getD t undef=cv:=by
    rw [Array.getD_eq_getD_getElem?,Array.getElem?_append_left ht,h5]
    rfl
   rw [this]
   exact h4
 refine calls_of_wp hf hb (wp_mono (xB (rd:=((rd,fun _ _ _=>none):zcX)) (O:=fun _=>False) (w0:=w) code _ _ hv _ _ ⟨rd,_,.refl,hrel⟩) ?_)
 rintro e a w' ⟨s,hk,rd1,φ,hx,hr⟩
 have fin:zmJ P fn s res rf→a.defers=[]∧∃v,(results fn a.tmps).run P w'=.ok v w'∧∃v' rd' ψ,Ending.returned v=.returned v'∧Ext (fun _=>False) w rd rd'∧HRel rd' (zcK ψ) (fun _=>False) w (wE rf) w'∧VRel rd' (zcK ψ) res v':=by
  intro hk
  unfold zmJ at hk
  split at hk
  ·rename_i vs hvs
   obtain ⟨v,hrun,hvr⟩:=wF hr hvs
   obtain ⟨φ,x0,hh,-,hvr⟩:=zbX (us:=zev res vs) hr.heap hr.gen hvr
   generalize zfE (zev res vs) vs s.σ s.G=X at hk hh hvr
   obtain ⟨vs0,σ0,G0⟩:=X
   unfold RetA at hk
   simp only at hk hh hvr
   split at hk
   ·rename_i σ1 vs1 hfz
    split at hk
    ·rename_i v0 l hg
     obtain ⟨k1,k2,k3⟩:=hk
     obtain ⟨rd2,x2,h2,v2⟩:=za3 hh hvr hfz
     obtain ⟨g1,g2⟩:=zfb v2 hg
     refine ⟨hr.defers,v,hrun,v,rd2,zhZ φ l,rfl,hx.1.trans x2,?_,?_⟩
     ·rw [←k3];exact h2.back g1 k1
     ·rw [←k2];exact g2 _ (zau k1)
    ·cases hk
   ·cases hk
  ·cases hk
 cases e with
 | ret=>exact fin hk
 | normal=>exact fin hk
 | _=>cases hk
def retL (σ:Sig) (σout:Sig) (vs:List AV):Asc:=zgB false σ 1 30 0 (zfT σout) (zl0 vs++zlJ σ (zfT σout))
def zpx (L:Asc) (σ1:Sig) (v:AV) (res:AV) (σout:Sig):Prop:=(je L=true∧zeC L=true)∧zeN σ1 (lkN L) L=some σout∧zpM (lkN L) v=res
def zpw (res:AV) (σout:Sig):List AV × Sig × Nat→Prop
 | (vs,σ,_)=>match zfd σ res vs with
  | some (σ1,vs1)=>zpx (retL σ1 σout vs1) σ1 (xx vs1) res σout
  | none=>False
def zfG (P:Program) (rs:List ResultVar) (s:St) (res:AV) (σout:Sig):Prop:=
 match jW P s rs with
 | some vs=>zpw res σout (zfE (zev res vs) vs s.σ s.G)
 | none=>False
def retKM (P:Program) (rs:List ResultVar) (res:AV) (σout:Sig):Exit→St→Prop
 | .ret,s=>zfG P rs s res σout
 | .normal,s=>zfG P rs s res σout
 | _,_=>False
theorem zcw {P:Program} {n:Nat} {fn:Func} (hf:P.funcs[n]?=some fn) {code:Code} (hb:fn.body=some code) (hn:(fn.name== "runtime.NumGoroutine")=false)
  {σin:Sig} {args:List AV} {res:AV} {σout:Sig} (hlen:args.length≤fn.ntmps)
  (hv:vc P code ⟨fn.ntmps,zaf 0 args,σin,1⟩ (retKM P fn.results.toList res σout)):zW P n σin args res σout:=by
 refine ⟨⟨fn,hf,hn,by rw [hb];rfl⟩,fun w rd φ cargs hgen hh hargs=>?_⟩
 have hsz:cargs.size=args.length:=by rw [hargs.1];simp
 have hrel:Rel rd φ (zV φ σin) w ⟨fn.ntmps,zaf 0 args,σin,1⟩ {tmps:=cargs++Array.replicate (fn.ntmps - cargs.size) undef,defers:=[]} w:=by
  refine ⟨hh,?_,by simp;omega,rfl,fun r g p hp=>by have:=hgen r g p hp;show g<1;omega⟩
  intro t v hl
  obtain ⟨_,h2⟩:=wt _ _ _ _ hl
  obtain ⟨cv,h3,h4⟩:=hargs.2 t v (by simpa using h2)
  have h5:cargs[t]?=some cv:=by simpa using h3
  have ht:t<cargs.size:=by
   rcases Nat.lt_or_ge t cargs.size with hx | hx
   ·exact hx
   ·rw [Array.getElem?_eq_none hx] at h5;cases h5
  have:(cargs++Array.replicate (fn.ntmps - cargs.size) undef).getD t undef=cv:=by
   rw [Array.getD_eq_getD_getElem?,Array.getElem?_append_left ht,h5]
   rfl
  rw [this]
  exact h4
 refine calls_of_wp hf hb (wp_mono (xB (rd:=(rd,φ)) (O:=zV φ σin) (w0:=w) code _ _ hv _ _ ⟨rd,φ,.refl,hrel⟩) ?_)
 rintro e a w' ⟨s,hk,rd1,φ1,hx,hr⟩
 have fin:zfG P fn.results.toList s res σout→a.defers=[]∧∃v,(results fn a.tmps).run P w'=.ok v w'∧∃v' rd' φ',Ending.returned v=.returned v'∧Ext (zV φ σin) w rd rd'∧(∀r p pl,φ r 0 p=some pl→1000000≤r→φ' r 0 p=some pl)∧HRel rd' φ' (zV φ σin) w σout w'∧VRel rd' φ' res v':=by
  intro hk
  unfold zfG at hk
  split at hk
  ·rename_i vs hvs
   obtain ⟨v,hrun,hvr⟩:=wF hr hvs
   obtain ⟨φ2,x0,hh,-,hvr⟩:=zbX (us:=zev res vs) hr.heap hr.gen hvr
   generalize zfE (zev res vs) vs s.σ s.G=X at hk hh hvr
   obtain ⟨vs0,σ0,G0⟩:=X
   unfold zpw at hk
   simp only at hk hh hvr
   split at hk
   ·rename_i σ1 vs1 hfz
    unfold zpx at hk
    generalize retL σ1 σout vs1=L at hk
    obtain ⟨⟨hd,hst⟩,hren,hmap⟩:=hk
    obtain ⟨rd2,x2,h2,v2⟩:=za3 hh hvr hfz
    refine ⟨hr.defers,v,hrun,v,rd2,zn8 φ2 L,rfl,hx.1.trans x2,fun r p pl e hr'=>zeV hst r p pl (x0 _ _ _ _ (hx.2 r p pl e hr')) hr',(h2.renL hd hren).phi zdT,?_⟩
    rw [←hmap]
    exact (zdY (xd hd) v2).mono (fun _ _ _ h=>h) zdT
   ·cases hk
  ·cases hk
 cases e with
 | ret=>exact fin hk
 | normal=>exact fin hk
 | _=>cases hk
end Go.Proofs.YtpjpkmhaffmbmaaGreat.E
end
