/- Cuts and heads at which rows are frozen: a slice of one's own in a slot, or in a cell of a row that a slot points at, becomes a read-only one. -/
import Derived.Test.YtpjpkmhaffmbmaaGreatQ2
import Derived.Test.YtpjpkmhaffmbmaaGreatQ3
namespace Go.Proofs.YtpjpkmhaffmbmaaGreat.E
open Go Go.RowKit
set_option linter.unusedVariables false
def frzP (s:St) (t:Nat):Option (Sig × AV)→St
 | some x=>⟨s.n,(t,x.2)::s.tm,x.1,s.G⟩
 | none=>s
def zmm (s:St) (t:Nat):St:=frzP s t (frz s.σ (yz s.tm t))
theorem Weak.frz1 (s:St) (t:Nat):Weak s (zmm s t):=by
 intro rd O w0 a w ⟨rd',φ,hx,h⟩
 unfold zmm
 cases hf:frz s.σ (yz s.tm t) with
 | none=>exact ⟨rd',φ,hx,h⟩
 | some x=>
  obtain ⟨σ',c'⟩:=x
  obtain ⟨rd1,x1,h1,v1⟩:=zab h.heap (h.look t) hf
  refine ⟨rd1,φ,hx.step x1 (fun _ _ _ _ h=>h),h1,fun t' v hl=>?_,h.size,h.defers,h.gen⟩
  show VRel rd1 φ v _
  unfold frzP at hl
  simp only [zA] at hl
  split at hl
  ·rename_i e
   subst e
   cases hl
   exact v1 φ
  ·exact (h.tm t' v hl).mono x1.1 (fun _ _ _ _ h=>h)
def zoT (r g:Nat) (p:List Nat) (i j:Nat) (σ':Sig) (c':AV):Option Sig:=(zz σ' r).bind fun gf=>match Nat.beq gf.1 g with
 | true=>(gf.2 p).bind fun row=>match row.ao with
  | false=>(row.es[i]?).map fun e=>yD σ' r (g,jg gf.2 p ⟨row.sz,row.es.set i (e.set j c'),0,false⟩)
  | true=>none
 | false=>none
def zoU (r g:Nat) (p:List Nat) (i j:Nat) (c:AV) (σ:Sig):Option Sig:=(zni σ c).bind fun x=>zoT r g p i j x.1 x.2
def zkB (σ:Sig) (j:Nat):AV→Option Sig
 | .ptr r g p _ i _=>(zz σ r).bind fun gf=>match Nat.beq gf.1 g with
  | true=>(gf.2 p).bind fun row=>(row.es[i]?).bind fun e=>(e[j]?).bind fun c=>zoU r g p i j c σ
  | false=>none
 | _=>none
def zoV (s:St):Option Sig→St
 | some σ'=>⟨s.n,s.tm,σ',s.G⟩
 | none=>s
def frzCell (s:St) (t j:Nat):St:=zoV s (zkB s.σ j (yz s.tm t))
theorem HRel.cellAs {rd:RD} {φ:Phi} {O:Nat→Prop} {w0 w:World} {σ:Sig} {r g:Nat} {p:List Nat} {f:jQ} {row:Row} (h:HRel rd φ O w0 σ w) (hl:zz σ r=some (g,f)) (hf:f p=some row) (hao:row.ao=false)
  {i j:Nat} {e:List AV} (he:row.es[i]?=some e) (hj:j<e.length) {c':AV}
  (hc:∀pl b q v,φ r g p=some pl→pl.ad=some (b,q)→w.cell? (mkA b (q+i * row.sz+j))=some v→VRel rd φ c' v):HRel rd φ O w0 (yD σ r (g,jg f p ⟨row.sz,row.es.set i (e.set j c'),0,false⟩)) w:=by
 have hat:zo σ r g p=some row:=by unfold zo;rw [hl];simp [hf]
 obtain ⟨pl,hφ,hok⟩:=h.rows r g p row hat
 have hmem:e∈row.es:=List.mem_of_getElem? he
 have hcase:=fun {r2 g2 p2 row2} (hr:zo (yD σ r (g,jg f p ⟨row.sz,row.es.set i (e.set j c'),0,false⟩)) r2 g2 p2=some row2)=>xH hl hr
 have hsome:∀{r2 g2 p2 row2},zo (yD σ r (g,jg f p ⟨row.sz,row.es.set i (e.set j c'),0,false⟩)) r2 g2 p2=some row2→∃x,zo σ r2 g2 p2=some x:=by
  intro r2 g2 p2 row2 hr
  rcases hcase hr with ⟨rfl,rfl,rfl,rfl⟩ | ⟨h1,_⟩
  ·exact ⟨_,hat⟩
  ·exact ⟨_,h1⟩
 refine ⟨?_,?_,h.rdok,?_,?_,h.frame,h.size,h.os,h.tape,h.output⟩
 ·intro r2 g2 p2 row2 hr
  rcases hcase hr with ⟨rfl,rfl,rfl,rfl⟩ | ⟨hr,hne⟩
  ·refine ⟨pl,hφ,?_,by simp only [List.length_set];exact hok.len,fun e he=>⟨fun h=>absurd h (by simp),fun h=>absurd h (by simp)⟩,hok.nil,hok.room,fun b q had i' j' c hcc=>?_,fun ha=>(by cases ha),zm4 (by show (0:Nat)<3;decide)⟩
   ·intro x hx
    rcases List.mem_or_eq_of_mem_set hx with hx | rfl
    ·exact hok.wide x hx
    ·rw [List.length_set];exact hok.wide e hmem
   ·have hlt:i<row.es.length:=(List.getElem?_eq_some_iff.1 he).1
    simp only at hcc ⊢
    by_cases hi:i=i'
    ·subst hi
     rw [List.getElem?_set_self hlt] at hcc
     simp only [Option.bind_some] at hcc
     by_cases hjj:j=j'
     ·subst hjj
      rw [List.getElem?_set_self hj,Option.some.injEq] at hcc
      subst hcc
      obtain ⟨v,h3,h4⟩:=hok.cells b q had i j e[j] (by rw [he];simp [hj])
      exact ⟨v,h3,hc pl b q v hφ had h3⟩
     ·rw [List.getElem?_set_ne hjj] at hcc
      exact hok.cells b q had i j' c (by rw [he];exact hcc)
    ·rw [List.getElem?_set_ne hi] at hcc
     exact hok.cells b q had i' j' c hcc
  ·exact h.rows _ _ _ _ hr
 ·intro r1 g1 p1 row1 r2 g2 p2 row2 pl1 pl2 b q1 q2 h1 h2 h3 h4 h5 h6
  obtain ⟨x1,e1⟩:=hsome h1
  obtain ⟨x2,e2⟩:=hsome h2
  exact h.sep _ _ _ _ _ _ _ _ _ _ _ _ _ e1 e2 h3 h4 h5 h6
 ·intro r2 g2 p2 row2 pl2 b2 q2 h1 h2 h3 k hor
  rcases hcase h1 with ⟨rfl,rfl,rfl,rfl⟩ | ⟨h1,_⟩
  ·exact h.rdsep _ _ _ _ _ _ _ hat h2 h3 k (.inl hao)
  ·exact h.rdsep _ _ _ _ _ _ _ h1 h2 h3 k hor
 ·intro r1 g1 p1 row1 pl1 b q1 h1 h2 h3
  obtain ⟨x1,e1⟩:=hsome h1
  exact h.own _ _ _ _ _ _ _ e1 h2 h3
theorem Weak.frzCell (s:St) (t j:Nat):Weak s (frzCell s t j):=by
 unfold E.frzCell
 cases hx:zkB s.σ j (yz s.tm t) with
 | none=>exact .refl s
 | some σ2=>
  intro rd O w0 a w ⟨rd',φ,hx0,h⟩
  unfold zkB at hx
  split at hx
  case h_2=>cases hx
  rename_i r g p sz0 i o hp
  obtain ⟨⟨g',f⟩,hl,hx⟩:=Option.bind_eq_some_iff.1 hx
  simp only at hx
  split at hx
  case h_2=>cases hx
  rename_i hg
  have hg:=Nat.eq_of_beq_eq_true hg
  subst hg
  obtain ⟨row,hf,hx⟩:=Option.bind_eq_some_iff.1 hx
  obtain ⟨e,he,hx⟩:=Option.bind_eq_some_iff.1 hx
  obtain ⟨c,hc,hx⟩:=Option.bind_eq_some_iff.1 hx
  unfold zoU at hx
  obtain ⟨⟨σ1,c1⟩,hfz,hx⟩:=Option.bind_eq_some_iff.1 hx
  unfold zoT at hx
  obtain ⟨⟨g2,f2⟩,hl2,hx⟩:=Option.bind_eq_some_iff.1 hx
  simp only at hx
  split at hx
  case h_2=>cases hx
  rename_i hg2
  have hg2:=Nat.eq_of_beq_eq_true hg2
  subst hg2
  obtain ⟨row2,hf2,hx⟩:=Option.bind_eq_some_iff.1 hx
  split at hx
  case h_2=>cases hx
  rename_i hao
  obtain ⟨e2,he2,hx⟩:=Option.map_eq_some_iff.1 hx
  cases hx
  have hat:zo s.σ r g2 p=some row:=by unfold zo;rw [hl];simp [hf]
  obtain ⟨pl,hφ,hok⟩:=h.heap.rows _ _ _ _ hat
  have hat2:zo σ1 r g2 p=some row2:=by unfold zo;rw [hl2];simp [hf2]
  by_cases hne:pl.ad=none
  ·have hcap:=hok.nil hne
   have hlen:=hok.len
   have:i<row.es.length:=(List.getElem?_eq_some_iff.1 he).1
   omega
  ·obtain ⟨⟨b,q⟩,had⟩:=Option.ne_none_iff_exists'.1 hne
   obtain ⟨v,hcell,hv⟩:=hok.cells b q had i j c (by rw [he];exact hc)
   obtain ⟨rd1,x1,h1,v1,hs1⟩:=jI h.heap hv hfz
   obtain ⟨pl2,hφ2,hok2⟩:=h1.rows _ _ _ _ hat2
   rw [hφ] at hφ2
   cases hφ2
   have hsz:row2.sz=row.sz:=by
    unfold zni at hfz
    split at hfz
    ·rename_i r3 g3 p3 sz3 off3 len3
     obtain ⟨⟨g4,f4⟩,hl4,hfz⟩:=Option.bind_eq_some_iff.1 hfz
     simp only at hfz
     split at hfz
     case h_2=>cases hfz
     rename_i hg4
     have hg4:=Nat.eq_of_beq_eq_true hg4
     subst hg4
     obtain ⟨row4,hf4,hfz⟩:=Option.bind_eq_some_iff.1 hfz
     split at hfz
     case h_2=>cases hfz
     unfold ziJ at hfz
     split at hfz
     case h_2=>cases hfz
     split at hfz
     ·cases hfz
      rw [hat] at hat2
      cases hat2
      rfl
     ·cases hfz
      rcases xH hl4 hat2 with ⟨e1,e2,e3,e4⟩ | ⟨e1,_⟩
      ·subst e1 e2 e3 e4
       rw [hl4] at hl
       cases hl
       rw [hf4] at hf
       cases hf
       rfl
      ·rw [hat] at e1
       cases e1
       rfl
    all_goals first
     | (cases hfz;done)
     | (cases hfz;rw [hat] at hat2;cases hat2;rfl)
   have hj2:j<e2.length:=by
    rw [hok2.wide e2 (List.mem_of_getElem? he2),hsz,←hok.wide e (List.mem_of_getElem? he)]
    exact (List.getElem?_eq_some_iff.1 hc).1
   refine ⟨rd1,φ,hx0.step x1 (fun _ _ _ _ h=>h),h1.cellAs hl2 hf2 hao he2 hj2 (fun pl' b' q' v' h2 h3 h4=>?_),fun t' v hlv=>(h.tm t' v hlv).mono x1.1 (fun _ _ _ _ h=>h),h.size,h.defers,h.gen⟩
   rw [hφ] at h2
   cases h2
   rw [had] at h3
   cases h3
   rw [hsz,hcell] at h4
   cases h4
   exact v1 φ
def frzN:List Nat→St→St
 | [],s=>s
 | t::l,s=>match Nat.ble 1000 t with
  | true=>frzN l (frzCell s (t%1000) (t/1000 - 1))
  | false=>frzN l (zmm s t)
theorem Weak.frzN:∀(l:List Nat) (s:St),Weak s (frzN l s)
 | [],s=>.refl s
 | t::l,s=>by
  simp only [E.frzN]
  split
  ·exact (Weak.frzCell s _ _).trans (Weak.frzN l _)
  ·exact (Weak.frz1 s t).trans (Weak.frzN l _)
def MF (ks fs:List Nat) (us:List (Nat × Nat)) (M:St→Prop) (s:St):Prop:=M (jb ks (nilN us (E.frzN fs s)))
theorem MF_eq {ks fs:List Nat} {us:List (Nat × Nat)} {M:St→Prop} {n G:Nat} {tm:List (Nat × AV)} {σ:Sig}:MF ks fs us M ⟨n,tm,σ,G⟩=M (jb ks (nilN us (E.frzN fs ⟨n,tm,σ,G⟩))):=rfl
theorem zrN {P:Program} {a b:SC J} {s:St} {Q:Exit→St→Prop} (ks fs:List Nat) (us:List (Nat × Nat)) (M:St→Prop) (h1:jv P a s (yI Q (MF ks fs us M))) (h2:∀s',M s'→jv P b s' Q):jv P (.ct a b) s Q:=
 yx a (fun e s hs=>by
  cases e with
  | normal=>exact ⟨_,((Weak.frzN fs s).trans (Weak.nilN us _)).trans (.head ks _),h2 _ hs⟩
  | _=>exact hs) h1
def LpF (ks fs:List Nat) (us:List (Nat × Nat)) (I:Nat→St→Prop) (m:Nat) (s:St):Prop:=∃m',m'<m∧I m' (jb ks (nilN us (E.frzN fs s)))
theorem zsz {ks fs:List Nat} {us:List (Nat × Nat)} {I:Nat→St→Prop} {m n G:Nat} {tm:List (Nat × AV)} {σ:Sig}:LpF ks fs us I m ⟨n,tm,σ,G⟩=∃m',m'<m∧I m' (jb ks (nilN us (E.frzN fs ⟨n,tm,σ,G⟩))):=rfl
theorem zq6 {P:Program} {ks:List Nat} {c:SC J} {s:St} {Q:Exit→St→Prop} (fs:List Nat) (us:List (Nat × Nat)) (I:Nat→St→Prop) (n:Nat) (h1:I n (jb ks (nilN us (E.frzN fs s))))
  (h2:∀m s2,I m s2→jv P c s2 (yI Q (LpF ks fs us I m))):jv P (.lp ks c) s Q:=⟨I,n,_,((Weak.frzN fs s).trans (Weak.nilN us _)).trans (.head ks _),h1,fun m s2 hI=>yx c (fun e s hs=>by
   cases e with
   | normal=>
    obtain ⟨m',h4,h5⟩:=hs
    exact ⟨m',_,h4,((Weak.frzN fs s).trans (Weak.nilN us _)).trans (.head ks _),h5⟩
   | _=>exact hs) (h2 m s2 hI)⟩
theorem zml {n G t:Nat} {tm:List (Nat × AV)} {σ:Sig}:zmm ⟨n,tm,σ,G⟩ t=frzP ⟨n,tm,σ,G⟩ t (frz σ (yz tm t)):=rfl
theorem zoS {n G t:Nat} {tm:List (Nat × AV)} {σ σ':Sig} {v:AV}:frzP ⟨n,tm,σ,G⟩ t (some (σ',v))=⟨n,(t,v)::tm,σ',G⟩:=rfl
theorem zij {n G t j:Nat} {tm:List (Nat × AV)} {σ:Sig}:E.frzCell ⟨n,tm,σ,G⟩ t j=zoV ⟨n,tm,σ,G⟩ (zkB σ j (yz tm t)):=rfl
theorem zmn {n G:Nat} {tm:List (Nat × AV)} {σ σ':Sig}:zoV ⟨n,tm,σ,G⟩ (some σ')=⟨n,tm,σ',G⟩:=rfl
attribute [go_sem] MF_eq zsz zml zoS zij zmn zkB zoU zoT E.frzN
end Go.Proofs.YtpjpkmhaffmbmaaGreat.E
