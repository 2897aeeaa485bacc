/- Cuts and heads at which rows are frozen: a slice of one's own in a slot, or in a cell of a row that a slot points at, becomes a read-only one; Cuts, heads and ends at which a state is told anew; names made anew; boxes: a row whose elements are slices of their own -/
import Derived.Test.YtobpfkgabdeefaaGreatQ2
import Derived.Test.YtobpfkgabdeefaaGreatQ3
namespace Go.Proofs.YtobpfkgabdeefaaGreat.E
open Go Go.RowKit
set_option linter.unusedVariables false
def G8 (s:St) (t:Nat):Option (ak × AV)->St
 | some x=>⟨s.n,(t,x.2)::s.tm,x.1,s.G⟩
 | none=>s
def G7 (s:St) (t:Nat):St:=G8 s t (iI s.σ (fI s.tm t))
theorem aB.ad4 (s:St) (t:Nat):aB s (G7 s t):=by
 intro rd O w0 a w ⟨rd',φ,hx,h⟩;unfold G7;cases hf:iI s.σ (fI s.tm t) with
 | none=>exact⟨rd',φ,hx,h⟩
 | some x=>
  obtain⟨σ',c'⟩:=x;obtain⟨eh,x1,h1,v1⟩:=C2 h.heap (h.look t) hf;refine⟨eh,φ,hx.step x1 (fun _ _ _ _ h=>h),h1,fun t' v hl=>?_,h.size,h.defers,h.gen⟩;show aL eh φ v _
  unfold G8 at hl;simp only[gR]at hl;split at hl
  ·rename_i e;subst e;cases hl;exact v1 φ
  exact(h.tm t' v hl).mono x1.1 (fun _ _ _ _ h=>h)
def Ha (r g:Nat) (p:List Nat) (i j:Nat) (σ':ak) (c':AV):Option ak:=(bE σ' r).bind fun gf=>match Nat.beq gf.1 g with
 | true=>(gf.2 p).bind fun row=>match row.ao with
  | false=>(row.es[i]?).map fun e=>bT σ' r (g,dF gf.2 p ⟨row.sz,row.es.set i (e.set j c'),0,false⟩)
  | true=>none
 | false=>none
def rK (r g:Nat) (p:List Nat) (i j:Nat) (c:AV) (σ:ak):Option ak:=(s9 σ c).bind fun x=>Ha r g p i j x.1 x.2
def Da (σ:ak) (j:Nat):AV->Option ak
 | .ptr r g p _ i _=>(bE σ r).bind fun gf=>match Nat.beq gf.1 g with
  | true=>(gf.2 p).bind fun row=>(row.es[i]?).bind fun e=>(e[j]?).bind fun c=>rK r g p i j c σ
  | false=>none
 | _=>none
def LL (s:St):Option ak->St
 | some σ'=>⟨s.n,s.tm,σ',s.G⟩
 | none=>s
def z8 (s:St) (t j:Nat):St:=LL s (Da s.σ j (fI s.tm t))
theorem bc.afv {rd:RD}{φ:cj}{O:Nat->Prop}{w0 w:World}{σ:ak}{r g:Nat}{p:List Nat}{f:d9}{row:Row}(h:bc rd φ O w0 σ w) (hl:bE σ r=some (g,f)) (hf:f p=some row) (kv:row.ao=false)
  {i j:Nat} {e:List AV} (he:row.es[i]?=some e) (hj:j<e.length) {c':AV}
  (hc:∀pl b q v,φ r g p=some pl->pl.ad=some (b,q)->w.cell? (cM b (q+i * row.sz+j))=some v->aL rd φ c' v):bc rd φ O w0 (bT σ r (g,dF f p ⟨row.sz,row.es.set i (e.set j c'),0,false⟩)) w:=by
 have cB:rowAt σ r g p=some row:=by unfold rowAt;rw[hl];simp[hf]
 obtain⟨pl,hφ,aI⟩:=h.rows r g p row cB;have oY:e∈row.es:=dk he;have cA:=fun {r2 g2 p2 bt} (hr:rowAt (bT σ r (g,dF f p ⟨row.sz,row.es.set i (e.set j c'),0,false⟩)) r2 g2 p2=some bt)=>xc hl hr
 have lP:∀{r2 g2 p2 bt},rowAt (bT σ r (g,dF f p ⟨row.sz,row.es.set i (e.set j c'),0,false⟩)) r2 g2 p2=some bt->∃x,rowAt σ r2 g2 p2=some x:=by
  intro r2 g2 p2 bt hr;rcases cA hr with ⟨rfl,rfl,rfl,rfl⟩|⟨h1,_⟩
  ·exact⟨_,cB⟩
  exact⟨_,h1⟩
 refine⟨?_,?_,h.eA,?_,?_,h.frame,h.size,h.os,h.tape,h.output⟩
 ·intro r2 g2 p2 bt hr;rcases cA hr with ⟨rfl,rfl,rfl,rfl⟩|⟨hr,bJ⟩
  ·refine⟨pl,hφ,?_,by simp only[List.length_set];exact aI.len,fun e he=>⟨fun h=>absurd h (by simp),fun h=>absurd h (by simp)⟩,aI.nil,aI.room,fun b q aK i' j' c aU=>?_,fun ha=>(by cases ha),lI (by show(0:Nat)<3;decide)⟩
   ·intro x hx;rcases List.mem_or_eq_of_mem_set hx with hx|rfl
    ·exact aI.wide x hx
    rw[List.length_set];exact aI.wide e oY
   have ab:i<row.es.length:=(List.getElem?_eq_some_iff.1 he).1;simp only at aU ⊢;by_cases hi:i=i'
   ·subst hi;rw[List.getElem?_set_self ab]at aU;simp only[Option.bind_some]at aU;by_cases GB:j=j'
    ·subst GB;rw[List.getElem?_set_self hj,Option.some.injEq]at aU;subst aU;obtain⟨v,h3,h4⟩:=aI.cells b q aK i j e[j] (by rw[he];simp[hj]);exact⟨v,h3,hc pl b q v hφ aK h3⟩
    rw[List.getElem?_set_ne GB]at aU;exact aI.cells b q aK i j' c (by rw[he];exact aU)
   rw[List.getElem?_set_ne hi]at aU;exact aI.cells b q aK i' j' c aU
  exact h.rows _ _ _ _ hr
 ·intro r1 g1 p1 fy r2 g2 p2 bt jm de b q1 q2 h1 h2 h3 h4 h5 h6;obtain⟨x1,e1⟩:=lP h1;obtain⟨x2,e2⟩:=lP h2;exact h.sep _ _ _ _ _ _ _ _ _ _ _ _ _ e1 e2 h3 h4 h5 h6
 ·intro r2 g2 p2 bt de b2 q2 h1 h2 h3 k dI;rcases cA h1 with ⟨rfl,rfl,rfl,rfl⟩|⟨h1,_⟩
  ·exact h.eF _ _ _ _ _ _ _ cB h2 h3 k (.inl kv)
  exact h.eF _ _ _ _ _ _ _ h1 h2 h3 k dI
 intro r1 g1 p1 fy jm b q1 h1 h2 h3;obtain⟨x1,e1⟩:=lP h1;exact h.own _ _ _ _ _ _ _ e1 h2 h3
theorem bc.rK {rd:RD}{φ:cj}{O:Nat->Prop}{w0 w:World}{σ σ2:ak}{r g:Nat}{p:List Nat}{f:d9}{row:Row}{i j:Nat}{e:List AV}{c:AV}(h:bc rd φ O w0 σ w) (hl:bE σ r=some (g,f)) (hf:f p=some row) (he:row.es[i]?=some e) (hc:e[j]?=some c)
  (hx:E.rK r g p i j c σ=some σ2):∃eh,Ext O w0 rd eh/\bc eh φ O w0 σ2 w:=by
  unfold E.rK at hx;obtain⟨⟨σ1,c1⟩,iG,hx⟩:=cG hx;unfold Ha at hx;obtain⟨⟨g2,f2⟩,mo,hx⟩:=cG hx;simp only at hx;split at hx
  case h_2=>cases hx
  rename_i jb;have jb:=Nat.eq_of_beq_eq_true jb;subst jb;obtain⟨bt,ow,hx⟩:=cG hx;split at hx
  case h_2=>cases hx
  rename_i kv;obtain⟨e2,GI,hx⟩:=cP hx;cases hx;have cB:rowAt σ r g2 p=some row:=by unfold rowAt;rw[hl];simp[hf]
  obtain⟨pl,hφ,aI⟩:=h.rows _ _ _ _ cB;have zT:rowAt σ1 r g2 p=some bt:=by unfold rowAt;rw[mo];simp[ow]
  by_cases bJ:pl.ad=none
  ·have rG:=aI.nil bJ;have hlen:=aI.len;have:i<row.es.length:=(List.getElem?_eq_some_iff.1 he).1;omega
  obtain⟨⟨b,q⟩,aK⟩:=Option.ne_none_iff_exists'.1 bJ;obtain⟨v,jd,hv⟩:=aI.cells b q aK i j c (by rw[he];exact hc);obtain⟨eh,x1,h1,v1,pG⟩:=G9 h hv iG;obtain⟨de,Sk,Cu⟩:=h1.rows _ _ _ _ zT;rw[hφ]at Sk;cases Sk;have dv:bt.sz=row.sz:=by
   unfold s9 at iG;split at iG
   ·rename_i r3 g3 p3 sz3 aiG aiK;obtain⟨⟨g4,f4⟩,vC,iG⟩:=cG iG;simp only at iG;split at iG
    case h_2=>cases iG
    rename_i K7;have K7:=Nat.eq_of_beq_eq_true K7;subst K7;obtain⟨aiD,hf4,iG⟩:=cG iG;split at iG
    case h_2=>cases iG
    unfold od at iG;split at iG
    case h_2=>cases iG
    split at iG
    ·cases iG;rw[cB]at zT
     cases zT;rfl
    cases iG;rcases xc vC zT with ⟨e1,e2,e3,e4⟩|⟨e1,_⟩
    ·subst e1 e2 e3 e4;rw[vC]at hl;cases hl;rw[hf4]at hf;cases hf;rfl
    rw[cB]at e1;cases e1;rfl
   all_goals first
    | (cases iG;done)
    | (cases iG;rw[cB]at zT;cases zT;rfl)
  have vE:j<e2.length:=by
   rw[Cu.wide e2 (dk GI),dv,<-aI.wide e (dk he)];exact(List.getElem?_eq_some_iff.1 hc).1
  refine⟨eh,x1,h1.afv mo ow kv GI vE (fun cZ b' q' v' h2 h3 h4=>?_)⟩;rw[hφ]at h2;cases h2;rw[aK]at h3;cases h3;rw[dv,jd]at h4;cases h4;exact v1 φ
theorem aB.z8 (s:St) (t j:Nat):aB s (z8 s t j):=by
 unfold E.z8;cases hx:Da s.σ j (fI s.tm t) with
 | none=>exact .refl s
 | some σ2=>
  intro rd O w0 a w ⟨rd',φ,iq,h⟩;unfold Da at hx;split at hx
  case h_2=>cases hx
  rename_i r g p Ys i o hp;obtain⟨⟨g',f⟩,hl,hx⟩:=cG hx;simp only at hx;split at hx
  case h_2=>cases hx
  rename_i hg;have hg:=Nat.eq_of_beq_eq_true hg;subst hg;obtain⟨row,hf,hx⟩:=cG hx;obtain⟨e,he,hx⟩:=cG hx;obtain⟨c,hc,hx⟩:=cG hx;obtain⟨eh,x1,h1⟩:=h.heap.rK hl hf he hc hx;exact⟨eh,φ,iq.step x1 (fun _ _ _ _ h=>h),h1,fun t' v KV=>(h.tm t' v KV).mono x1.1 (fun _ _ _ _ h=>h),h.size,h.defers,h.gen⟩
def m7:List Nat->St->St
 | [],s=>s
 | t::l,s=>match Nat.ble 1000 t with
  | true=>m7 l (z8 s (t%1000) (t/1000 - 1))
  | false=>m7 l (G7 s t)
theorem aB.m7:∀(l:List Nat) (s:St),aB s (m7 l s)
 | [],s=>.refl s
 | t::l,s=>by
  simp only[E.m7];split
  ·exact(aB.z8 s _ _).trans (aB.m7 l _)
  exact(aB.ad4 s t).trans (aB.m7 l _)
def MF (ks fs:List Nat) (us:List (Nat × Nat)) (M:St->Prop) (s:St):Prop:=M (mW ks (gX us (E.m7 fs s)))
theorem aij {ks fs:List Nat}{us:List (Nat × Nat)}{M:St->Prop}{n G:Nat}{tm:List (Nat × AV)}{σ:ak}:MF ks fs us M ⟨n,tm,σ,G⟩=M (mW ks (gX us (E.m7 fs ⟨n,tm,σ,G⟩))):=rfl
def LpF (ks fs:List Nat) (us:List (Nat × Nat)) (I:Nat->St->Prop) (m:Nat) (s:St):Prop:=∃m',m'<m/\I m' (mW ks (gX us (E.m7 fs s)))
theorem aim {ks fs:List Nat}{us:List (Nat × Nat)}{I:Nat->St->Prop}{m n G:Nat}{tm:List (Nat × AV)}{σ:ak}:LpF ks fs us I m ⟨n,tm,σ,G⟩=∃m',m'<m/\I m' (mW ks (gX us (E.m7 fs ⟨n,tm,σ,G⟩))):=rfl
theorem adY {n G t:Nat}{tm:List (Nat × AV)}{σ:ak}:G7 ⟨n,tm,σ,G⟩ t=G8 ⟨n,tm,σ,G⟩ t (iI σ (fI tm t)):=rfl
theorem ad1 {n G t:Nat}{tm:List (Nat × AV)}{σ σ':ak}{v:AV}:G8 ⟨n,tm,σ,G⟩ t (some (σ',v))=⟨n,(t,v)::tm,σ',G⟩:=rfl
theorem ad2 {n G t j:Nat}{tm:List (Nat × AV)}{σ:ak}:E.z8 ⟨n,tm,σ,G⟩ t j=LL ⟨n,tm,σ,G⟩ (Da σ j (fI tm t)):=rfl
theorem ad3 {n G:Nat}{tm:List (Nat × AV)}{σ σ':ak}:LL ⟨n,tm,σ,G⟩ (some σ')=⟨n,tm,σ',G⟩:=rfl
attribute [go_sem] aij aim adY ad1 ad2 ad3 Da rK Ha E.m7
def bO (M:St->Prop) (s:St):Prop:=∃s',aB s s'/\M s'
theorem bO.intro {M:St->Prop}{s s':St}(h:aB s s') (k:M s'):bO M s:=⟨s',h,k⟩
theorem bO.mono {M M':St->Prop}{s:St}(h:∀s,M s->M' s) (k:bO M s):bO M' s:=by
 obtain⟨s',h1,h2⟩:=k;exact⟨s',h1,h _ h2⟩
theorem kM {P:Program}{a b:SC J}{s:St}{Q:Exit->St->Prop}(M:St->Prop) (h1:jv P a s (gl Q (bO M))) (h2:∀s',M s'->jv P b s' Q):jv P (.ct a b) s Q:=
 mi a (fun e s hs=>by
  cases e with
  | normal=>
   obtain⟨s',hw,hm⟩:=hs;exact⟨s',hw,h2 _ hm⟩
  | _=>exact hs) h1
def fh (I:Nat->St->Prop) (m:Nat) (s:St):Prop:=∃m',m'<m/\bO (I m') s
theorem fh.intro {I:Nat->St->Prop}{m:Nat}{s s':St}(m':Nat) (h:m'<m) (hw:aB s s') (k:I m' s'):fh I m s:=⟨m',h,s',hw,k⟩
theorem im {P:Program}{ks:List Nat}{c:SC J}{s:St}{Q:Exit->St->Prop}(I:Nat->St->Prop) (n:Nat) (h1:bO (I n) s)
  (h2:∀m s2,I m s2->jv P c s2 (gl Q (fh I m))):jv P (.lp ks c) s Q:=by
 obtain⟨s1,hw,h1⟩:=h1
 exact ⟨I,n,s1,hw,h1,fun m s2 hI=>mi c (fun e s hs=>by
   cases e with
   | normal=>
    obtain⟨m',h4,s4,h5,h6⟩:=hs;exact⟨m',s4,h4,h5,h6⟩
   | _=>exact hs) (h2 m s2 hI)⟩
def ze (P:Program) (rs:List ResultVar) (res:AV) (σout:ak):Exit->St->Prop:=fun e s=>bO (Bp P rs res σout e) s
theorem Zn {P:Program}{rs:List ResultVar}{res:AV}{σout:ak}{s:St}:ze P rs res σout .ret s=bO (mG P rs · res σout) s:=rfl
theorem Zo {P:Program}{rs:List ResultVar}{res:AV}{σout:ak}{s:St}:ze P rs res σout .normal s=bO (mG P rs · res σout) s:=rfl
def Kt:SC J->Bool
 | .seq ..|.sq ..|.ct ..=>true
 | _=>false
theorem afC {P:Program}{n:Nat}{c:SC J}{N:Nat}{rs:List ResultVar}(hb:Ec P n c N rs) (hs:Kt c=true)
  {σin:ak} {args:List AV} {res:AV} {σout:ak} (hlen:Nat.ble args.length N=true) (hv:jv P c ⟨N,mB 0 args,σin,1⟩ (ze P rs res σout)):aY P n σin args res σout:=by
 obtain⟨fn,hf,hb,hn,rfl,rfl,pO,hd⟩:=hb;cases m6:fn.body with
 | none=>rw[m6]at hb;cases hb
 | some code=>
  rw[m6]at hb;have e:strip code=fx c:=Option.some.inj hb;have hsq:∃x y,code=.seq x y:=by
   cases c with
   | seq a b=>exact⟨_,_,(za (A:=fx a) (B:=fx b) e).choose_spec.choose_spec.1⟩
   | sq ks a b=>exact⟨_,_,(za (A:=fx a) (B:=fx b) e).choose_spec.choose_spec.1⟩
   | ct a b=>exact⟨_,_,(za (A:=fx a) (B:=fx b) e).choose_spec.choose_spec.1⟩
   | _=>cases hs
  have Sn:vc P code ⟨fn.ntmps,mB 0 args,σin,1⟩ (ze P fn.results.toList res σout):=qY code (fun _ _ h=>h) (e▸nZ pO c hd (fun e s h=>h) hv);obtain⟨x,y,rfl⟩:=hsq;refine Ms hf m6 hn (Nat.le_of_ble_eq_true hlen) (.inr fun rd O w0 a w hr=>wp_mono (sk _ _ _ Sn a w hr) ?_);rintro ex a' w' ⟨s,⟨s',hw,hk⟩,fZ⟩;exact⟨s',by cases ex<;>exact hk,hw.rel fZ⟩
theorem acx {P:Program}{n:Nat}{c:SC J}(fn:Func) (N:Nat) (rs:List ResultVar) {σin:ak}{args:List AV}{res:AV}{σout:ak}
  (h:(P.funcs[n]?,fn.body.map strip,fn.name== "runtime.NumGoroutine",fn.ntmps,fn.results.toList,P.follows .mixedOrders)=(some fn,some (fx c),false,N,rs,true)) (hd:kL c=true) (hs:Kt c=true) (hlen:Nat.ble args.length N=true)
  (hv:jv P c ⟨N,mB 0 args,σin,1⟩ (ze P rs res σout)):yK c (aY P n σin args res σout):=afC (HQ h hd) hs hlen hv
attribute [go_sem] Zn Zo
def Fj:List Nat->eg
 | []=>[]
 | k::l=>((k,0),(k,0))::Fj l
def Nv (σ:ak) (tm:List (Nat × AV)):List Nat->eg->eg
 | [],acc=>acc
 | t::ks,acc=>Nv σ tm ks (na false σ 10000 20 t acc (BL (match bE tm t with
  | some v=>v
  | none=>.dead)))
def Mq (ps:List Nat) (s:St) (ks:List Nat):eg:=Nv s.σ s.tm ks (na false s.σ 1 20 900000 (Fj ps) (Bl s.σ (Fj ps)))
def b9 (ps ks:List Nat) (s:St):St:=tl s (qu ks s.tm) (Mq ps s ks)
theorem aB.b9 (ps ks:List Nat) (s:St):aB s (b9 ps ks s):=
 aB.tl (fun t v hl rd φ O w0 a w h=>B6 ks s.tm t v hl▸h.look t) _
theorem adA {ps ks:List Nat}{n G:Nat}{tm:List (Nat × AV)}{σ:ak}:E.b9 ps ks ⟨n,tm,σ,G⟩=E.tl ⟨n,tm,σ,G⟩ (qu ks tm) (Mq ps ⟨n,tm,σ,G⟩ ks):=rfl
attribute [go_sem] adA Mq Nv Fj
def oI (B g r' g':Nat):NF:=fun r gg=>match Nat.beq r B with
 | true=>match Nat.beq gg g with
  | true=>some (r',g')
  | false=>some (r,gg)
 | false=>some (r,gg)
def xu (N:NF):ak->ak
 | []=>[]
 | (k,g,f)::l=>(k,g,iP N f)::xu N l
theorem RQ {N:NF}:∀{σ:ak}{k g:Nat}{f:d9},bE (xu N σ) k=some (g,f)->∃f0,bE σ k=some (g,f0)/\f=iP N f0
 | [],k,g,f,h=>by simp[xu,bE]at h
 | (k0,g0,f0)::l,k,g,f,h=>by
  simp only[xu,gR]at h ⊢;split at h
  ·rename_i e;rw[if_pos e];cases h;exact⟨f0,rfl,rfl⟩
  rename_i e;rw[if_neg e];exact RQ h
def E2 (s:St) (B:Nat):Option (Nat × d9)->St
 | some gf=>⟨s.n,xt (oI B gf.1 900100 s.G) s.tm,(900100,s.G,iP (oI B gf.1 900100 s.G) gf.2)::xu (oI B gf.1 900100 s.G) (p6 s.σ B),s.G+1⟩
 | none=>s
def Je (s:St) (B:Nat):St:=E2 s B (bE s.σ B)
theorem PK {B g r' g':Nat}:oI B g r' g' B g=some (r',g'):=by unfold oI;rw[Nat.beq_refl,Nat.beq_refl]
theorem PJ {B g r' g' r gg:Nat}(h:r≠B):oI B g r' g' r gg=some (r,gg):=by
 unfold oI;cases hk:Nat.beq r B with
 | true=>exact absurd (Nat.eq_of_beq_eq_true hk) h
 | false=>rfl
theorem aB.tO (s:St) (B:Nat):aB s (Je s B):=by
 intro rd O w0 a w ⟨rd',φ,hx,h⟩;unfold Je;cases hl:bE s.σ B with
 | none=>exact⟨rd',φ,hx,h⟩
 | some gf=>
  obtain⟨g,f⟩:=gf;unfold E2;simp only;have dA:∀r p,φ r s.G p=none:=fun r p=>by
   cases hh:φ r s.G p with
   | none=>rfl
   | some x=>exact absurd (h.gen r s.G p (by rw[hh];simp)) (Nat.lt_irrefl _)
  let φ':cj:=fun r gg p=>if r=900100/\gg=s.G then φ B g p else φ r gg p
  have hN:tC (oI B g 900100 s.G) φ φ':=by
   intro r gg x p pl hx hp;by_cases hr:r=B
   ·subst hr;by_cases hg:gg=g
    ·subst hg;rw[PK]at hx;cases hx;show(if (900100:Nat)=900100/\s.G=s.G then φ r gg p else _)=some pl
     rw[if_pos ⟨rfl,rfl⟩];exact hp
    have:oI r g 900100 s.G r gg=some (r,gg):=by
     unfold oI;rw[Nat.beq_refl];cases hk:Nat.beq gg g with
     | true=>exact absurd (Nat.eq_of_beq_eq_true hk) hg
     | false=>rfl
    rw[this]at hx;cases hx;show(if r=900100/\gg=s.G then φ r g p else φ r gg p)=some pl
    rw[if_neg]
    ·exact hp
    rintro⟨-,rfl⟩;rw[dA]at hp;cases hp
   rw[PJ hr]at hx;cases hx;show(if r=900100/\gg=s.G then φ B g p else φ r gg p)=some pl
   rw[if_neg]
   ·exact hp
   rintro⟨-,rfl⟩;rw[dA]at hp;cases hp
  refine⟨rd',φ',⟨hx.1,fun r p pl e hr=>?_⟩,h.heap.PR hN ?_,fun t v hv=>?_,h.size,h.defers,fun r gg p hp=>?_⟩
  ·show(if r=900100/\0=s.G then φ B g p else φ r 0 p)=some pl
   rw[if_neg (by omega)];exact hx.2 r p pl e hr
  ·intro r' g' p cC hr;unfold rowAt at hr;rw[gR]at hr;split at hr
   ·rename_i gf' f' he;split at he
    ·rename_i e;cases he;split at hr
     ·rename_i e2;subst e e2;unfold iP at hr;split at hr
      ·rename_i row fF;cases hr;exact⟨B,g,row,by unfold rowAt;rw[hl];simp[fF],PK,rfl⟩
      cases hr
     cases hr
    rename_i e;obtain⟨f0,h0,rfl⟩:=RQ he;rw[tY]at h0;split at h0
    ·cases h0
    rename_i bJ;split at hr
    ·rename_i e2;subst e2;unfold iP at hr;split at hr
     ·rename_i row fF;cases hr;exact⟨r',gf',row,by unfold rowAt;rw[h0];simp[fF],PJ bJ,rfl⟩
     cases hr
    cases hr
   cases hr
  ·obtain⟨u,hu,rfl⟩:=Kh hv;exact BV hN (h.tm t u hu)
  have hp:(if r=900100/\gg=s.G then φ B g p else φ r gg p)≠none:=hp;split at hp
  ·rename_i e;show gg<s.G+1
   omega
  have:=h.gen _ _ _ hp;show gg<s.G+1
  omega
theorem Zu {n G B:Nat}{tm:List (Nat × AV)}{σ:ak}:Je ⟨n,tm,σ,G⟩ B=E2 ⟨n,tm,σ,G⟩ B (bE σ B):=rfl
theorem Zv {n G B g:Nat}{f:d9}{tm:List (Nat × AV)}{σ:ak}:E2 ⟨n,tm,σ,G⟩ B (some (g,f))=⟨n,xt (oI B g 900100 G) tm,(900100,G,iP (oI B g 900100 G) f)::xu (oI B g 900100 G) (p6 σ B),G+1⟩:=rfl
attribute [go_sem] Zu Zv xu oI
end Go.Proofs.YtobpfkgabdeefaaGreat.E
