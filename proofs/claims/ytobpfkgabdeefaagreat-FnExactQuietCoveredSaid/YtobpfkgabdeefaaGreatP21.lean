/- Cuts and heads at which rows are frozen: a slice of one's own in a slot, or in a cell of a row that a slot points at, becomes a read-only one; Cuts, heads and ends at which a state is told anew; names made anew; boxes: a row whose elements are slices of their own -/
import Derived.Test.YtobpfkgabdeefaaGreatP2
import Derived.Test.YtobpfkgabdeefaaGreatP3
namespace Go.Proofs.YtobpfkgabdeefaaGreat.E
open Go Go.RowKit
set_option linter.unusedVariables false
def GZ (s:St) (t:Nat):Option (aj × AV)→St
 | some x=>⟨s.n,(t,x.2)::s.tm,x.1,s.G⟩
 | none=>s
def GY (s:St) (t:Nat):St:=GZ s t (ic s.σ (fx s.tm t))
theorem aI.adN (s:St) (t:Nat):aI s (GY s t):=by
 intro rd O w0 a w ⟨rd',φ,hx,h⟩;unfold GY;cases hf:ic s.σ (fx s.tm t) with
 | none=>exact⟨rd',φ,hx,h⟩
 | some x=>
  obtain⟨σ',c'⟩:=x;obtain⟨d9,x1,h1,v1⟩:=C1 h.heap (h.look t) hf;refine⟨d9,φ,hx.step x1 (fun _ _ _ _ h=>h),h1,fun t' v hl=>?_,h.size,h.defers,h.gen⟩;show aL d9 φ v _
  unfold GZ at hl;simp only[gx]at hl;split at hl
  ·rename_i e;subst e;cases hl;exact v1 φ
  exact(h.tm t' v hl).mono x1.1 (fun _ _ _ _ h=>h)
def G3 (r g:Nat) (p:List Nat) (i j:Nat) (σ':aj) (c':AV):Option aj:=(bI σ' r).bind fun gf=>match Nat.beq gf.1 g with
 | true=>(gf.2 p).bind fun row=>match row.ao with
  | false=>(row.es[i]?).map fun e=>bQ σ' r (g,dB gf.2 p ⟨row.sz,row.es.set i (e.set j c'),0,false⟩)
  | true=>none
 | false=>none
def rj (r g:Nat) (p:List Nat) (i j:Nat) (c:AV) (σ:aj):Option aj:=(rk σ c).bind fun x=>G3 r g p i j x.1 x.2
def C9 (σ:aj) (j:Nat):AV→Option aj
 | .ptr r g p _ i _=>(bI σ r).bind fun gf=>match Nat.beq gf.1 g with
  | true=>(gf.2 p).bind fun row=>(row.es[i]?).bind fun e=>(e[j]?).bind fun c=>rj r g p i j c σ
  | false=>none
 | _=>none
def LW (s:St):Option aj→St
 | some σ'=>⟨s.n,s.tm,σ',s.G⟩
 | none=>s
def Ae (s:St) (t j:Nat):St:=LW s (C9 s.σ j (fx s.tm t))
theorem bp.afc {rd:RD}{φ:b9}{O:Nat→Prop}{w0 w:World}{σ:aj}{r g:Nat}{p:List Nat}{f:dZ}{row:Row}(h:bp rd φ O w0 σ w) (hl:bI σ r=some (g,f)) (hf:f p=some row) (j6:row.ao=false)
  {i j:Nat} {e:List AV} (he:row.es[i]?=some e) (hj:j<e.length) {c':AV}
  (hc:∀pl b q v,φ r g p=some pl→pl.ad=some (b,q)→w.cell? (cI b (q+i * row.sz+j))=some v→aL rd φ c' v):bp rd φ O w0 (bQ σ r (g,dB f p ⟨row.sz,row.es.set i (e.set j c'),0,false⟩)) w:=by
 have cj:rowAt σ r g p=some row:=by unfold rowAt;rw[hl];simp[hf]
 obtain⟨pl,hφ,aF⟩:=h.rows r g p row cj;have oG:e∈row.es:=dh he;have ch:=fun {r2 g2 p2 bD} (hr:rowAt (bQ σ r (g,dB f p ⟨row.sz,row.es.set i (e.set j c'),0,false⟩)) r2 g2 p2=some bD)=>wI hl hr
 have lD:∀{r2 g2 p2 bD},rowAt (bQ σ r (g,dB f p ⟨row.sz,row.es.set i (e.set j c'),0,false⟩)) r2 g2 p2=some bD→∃x,rowAt σ r2 g2 p2=some x:=by
  intro r2 g2 p2 bD hr;rcases ch hr with ⟨rfl,rfl,rfl,rfl⟩|⟨h1,_⟩
  ·exact⟨_,cj⟩
  exact⟨_,h1⟩
 refine⟨?_,?_,h.eh,?_,?_,h.frame,h.size,h.os,h.tape,h.output⟩
 ·intro r2 g2 p2 bD hr;rcases ch hr with ⟨rfl,rfl,rfl,rfl⟩|⟨hr,bO⟩
  ·refine⟨pl,hφ,?_,by simp only[List.length_set];exact aF.len,fun e he=>⟨fun h=>absurd h (by simp),fun h=>absurd h (by simp)⟩,aF.nil,aF.room,fun b q aK i' j' c aU=>?_,fun ha=>(by cases ha),lj (by show(0:Nat)<3;decide)⟩
   ·intro x hx;rcases List.mem_or_eq_of_mem_set hx with hx|rfl
    ·exact aF.wide x hx
    rw[List.length_set];exact aF.wide e oG
   have ab:i<row.es.length:=(List.getElem?_eq_some_iff.1 he).1;simp only at aU ⊢;by_cases hi:i=i'
   ·subst hi;rw[List.getElem?_set_self ab]at aU;simp only[Option.bind_some]at aU;by_cases GB:j=j'
    ·subst GB;rw[List.getElem?_set_self hj,Option.some.injEq]at aU;subst aU;obtain⟨v,h3,h4⟩:=aF.cells b q aK i j e[j] (by rw[he];simp[hj]);exact⟨v,h3,hc pl b q v hφ aK h3⟩
    rw[List.getElem?_set_ne GB]at aU;exact aF.cells b q aK i j' c (by rw[he];exact aU)
   rw[List.getElem?_set_ne hi]at aU;exact aF.cells b q aK i' j' c aU
  exact h.rows _ _ _ _ hr
 ·intro r1 g1 p1 fg r2 g2 p2 bD iZ cX b q1 q2 h1 h2 h3 h4 h5 h6;obtain⟨x1,e1⟩:=lD h1;obtain⟨x2,e2⟩:=lD h2;exact h.sep _ _ _ _ _ _ _ _ _ _ _ _ _ e1 e2 h3 h4 h5 h6
 ·intro r2 g2 p2 bD cX b2 q2 h1 h2 h3 k dD;rcases ch h1 with ⟨rfl,rfl,rfl,rfl⟩|⟨h1,_⟩
  ·exact h.et _ _ _ _ _ _ _ cj h2 h3 k (.inl j6)
  exact h.et _ _ _ _ _ _ _ h1 h2 h3 k dD
 intro r1 g1 p1 fg iZ b q1 h1 h2 h3;obtain⟨x1,e1⟩:=lD h1;exact h.own _ _ _ _ _ _ _ e1 h2 h3
theorem bp.rj {rd:RD}{φ:b9}{O:Nat→Prop}{w0 w:World}{σ σ2:aj}{r g:Nat}{p:List Nat}{f:dZ}{row:Row}{i j:Nat}{e:List AV}{c:AV}(h:bp rd φ O w0 σ w) (hl:bI σ r=some (g,f)) (hf:f p=some row) (he:row.es[i]?=some e) (hc:e[j]?=some c)
  (hx:E.rj r g p i j c σ=some σ2):∃d9,Ext O w0 rd d9∧bp d9 φ O w0 σ2 w:=by
  unfold E.rj at hx;obtain⟨⟨σ1,c1⟩,gz,hx⟩:=cw hx;unfold G3 at hx;obtain⟨⟨g2,f2⟩,na,hx⟩:=cw hx;simp only at hx;split at hx
  case h_2=>cases hx
  rename_i iP;have iP:=Nat.eq_of_beq_eq_true iP;subst iP;obtain⟨bD,nV,hx⟩:=cw hx;split at hx
  case h_2=>cases hx
  rename_i j6;obtain⟨e2,GH,hx⟩:=cJ hx;cases hx;have cj:rowAt σ r g2 p=some row:=by unfold rowAt;rw[hl];simp[hf]
  obtain⟨pl,hφ,aF⟩:=h.rows _ _ _ _ cj;have zY:rowAt σ1 r g2 p=some bD:=by unfold rowAt;rw[na];simp[nV]
  by_cases bO:pl.ad=none
  ·have rb:=aF.nil bO;have hlen:=aF.len;have:i<row.es.length:=(List.getElem?_eq_some_iff.1 he).1;omega
  obtain⟨⟨b,q⟩,aK⟩:=Option.ne_none_iff_exists'.1 bO;obtain⟨v,iR,hv⟩:=aF.cells b q aK i j c (by rw[he];exact hc);obtain⟨d9,x1,h1,v1,pq⟩:=G1 h hv gz;obtain⟨cX,Si,Ct⟩:=h1.rows _ _ _ _ zY;rw[hφ]at Si;cases Si;have dg:bD.sz=row.sz:=by
   unfold rk at gz;split at gz
   ·rename_i r3 g3 p3 sz3 aim aip;obtain⟨⟨g4,f4⟩,vn,gz⟩:=cw gz;simp only at gz;split at gz
    case h_2=>cases gz
    rename_i Lg;have Lg:=Nat.eq_of_beq_eq_true Lg;subst Lg;obtain⟨aik,hf4,gz⟩:=cw gz;split at gz
    case h_2=>cases gz
    unfold kQ at gz;split at gz
    case h_2=>cases gz
    split at gz
    ·cases gz;rw[cj]at zY
     cases zY;rfl
    cases gz;rcases wI vn zY with ⟨e1,e2,e3,e4⟩|⟨e1,_⟩
    ·subst e1 e2 e3 e4;rw[vn]at hl;cases hl;rw[hf4]at hf;cases hf;rfl
    rw[cj]at e1;cases e1;rfl
   all_goals first
    | (cases gz;done)
    | (cases gz;rw[cj]at zY;cases zY;rfl)
  have ql:j<e2.length:=by
   rw[Ct.wide e2 (dh GH),dg,←aF.wide e (dh he)];exact(List.getElem?_eq_some_iff.1 hc).1
  refine⟨d9,x1,h1.afc na nV j6 GH ql (fun cV b' q' v' h2 h3 h4=>?_)⟩;rw[hφ]at h2;cases h2;rw[aK]at h3;cases h3;rw[dg,iR]at h4;cases h4;exact v1 φ
theorem aI.Ae (s:St) (t j:Nat):aI s (Ae s t j):=by
 unfold E.Ae;cases hx:C9 s.σ j (fx s.tm t) with
 | none=>exact .refl s
 | some σ2=>
  intro rd O w0 a w ⟨rd',φ,gW,h⟩;unfold C9 at hx;split at hx
  case h_2=>cases hx
  rename_i r g p Yg i o hp;obtain⟨⟨g',f⟩,hl,hx⟩:=cw hx;simp only at hx;split at hx
  case h_2=>cases hx
  rename_i hg;have hg:=Nat.eq_of_beq_eq_true hg;subst hg;obtain⟨row,hf,hx⟩:=cw hx;obtain⟨e,he,hx⟩:=cw hx;obtain⟨c,hc,hx⟩:=cw hx;obtain⟨d9,x1,h1⟩:=h.heap.rj hl hf he hc hx;exact⟨d9,φ,gW.step x1 (fun _ _ _ _ h=>h),h1,fun t' v K7=>(h.tm t' v K7).mono x1.1 (fun _ _ _ _ h=>h),h.size,h.defers,h.gen⟩
def pG:List Nat→St→St
 | [],s=>s
 | t::l,s=>match Nat.ble 1000 t with
  | true=>pG l (Ae s (t%1000) (t/1000 - 1))
  | false=>pG l (GY s t)
theorem aI.pG:∀(l:List Nat) (s:St),aI s (pG l s)
 | [],s=>.refl s
 | t::l,s=>by
  simp only[E.pG];split
  ·exact(aI.Ae s _ _).trans (aI.pG l _)
  exact(aI.adN s t).trans (aI.pG l _)
def MF (ks fs:List Nat) (us:List (Nat × Nat)) (M:St→Prop) (s:St):Prop:=M (mJ ks (gQ us (E.pG fs s)))
theorem ah3 {ks fs:List Nat}{us:List (Nat × Nat)}{M:St→Prop}{n G:Nat}{tm:List (Nat × AV)}{σ:aj}:MF ks fs us M ⟨n,tm,σ,G⟩=M (mJ ks (gQ us (E.pG fs ⟨n,tm,σ,G⟩))):=rfl
def LpF (ks fs:List Nat) (us:List (Nat × Nat)) (I:Nat→St→Prop) (m:Nat) (s:St):Prop:=∃m',m'<m∧I m' (mJ ks (gQ us (E.pG fs s)))
theorem ah6 {ks fs:List Nat}{us:List (Nat × Nat)}{I:Nat→St→Prop}{m n G:Nat}{tm:List (Nat × AV)}{σ:aj}:LpF ks fs us I m ⟨n,tm,σ,G⟩=∃m',m'<m∧I m' (mJ ks (gQ us (E.pG fs ⟨n,tm,σ,G⟩))):=rfl
theorem adI {n G t:Nat}{tm:List (Nat × AV)}{σ:aj}:GY ⟨n,tm,σ,G⟩ t=GZ ⟨n,tm,σ,G⟩ t (ic σ (fx tm t)):=rfl
theorem adK {n G t:Nat}{tm:List (Nat × AV)}{σ σ':aj}{v:AV}:GZ ⟨n,tm,σ,G⟩ t (some (σ',v))=⟨n,(t,v)::tm,σ',G⟩:=rfl
theorem adL {n G t j:Nat}{tm:List (Nat × AV)}{σ:aj}:E.Ae ⟨n,tm,σ,G⟩ t j=LW ⟨n,tm,σ,G⟩ (C9 σ j (fx tm t)):=rfl
theorem adM {n G:Nat}{tm:List (Nat × AV)}{σ σ':aj}:LW ⟨n,tm,σ,G⟩ (some σ')=⟨n,tm,σ',G⟩:=rfl
attribute [go_sem] ah3 ah6 adI adK adL adM C9 rj G3 E.pG
def cO (M:St→Prop) (s:St):Prop:=∃s',aI s s'∧M s'
theorem cO.intro {M:St→Prop}{s s':St}(h:aI s s') (k:M s'):cO M s:=⟨s',h,k⟩
theorem cO.mono {M M':St→Prop}{s:St}(h:∀s,M s→M' s) (k:cO M s):cO M' s:=by
 obtain⟨s',h1,h2⟩:=k;exact⟨s',h1,h _ h2⟩
theorem vH {P:Program}{a b:SC J}{s:St}{Q:Exit→St→Prop}(M:St→Prop) (h1:jv P a s (iq Q (cO M))) (h2:∀s',M s'→jv P b s' Q):jv P (.ct a b) s Q:=
 mA a (fun e s hs=>by
  cases e with
  | normal=>
   obtain⟨s',hw,hm⟩:=hs;exact⟨s',hw,h2 _ hm⟩
  | _=>exact hs) h1
def fh (I:Nat→St→Prop) (m:Nat) (s:St):Prop:=∃m',m'<m∧cO (I m') s
theorem fh.intro {I:Nat→St→Prop}{m:Nat}{s s':St}(m':Nat) (h:m'<m) (hw:aI s s') (k:I m' s'):fh I m s:=⟨m',h,s',hw,k⟩
theorem iN {P:Program}{ks:List Nat}{c:SC J}{s:St}{Q:Exit→St→Prop}(I:Nat→St→Prop) (n:Nat) (h1:cO (I n) s)
  (h2:∀m s2,I m s2→jv P c s2 (iq Q (fh I m))):jv P (.lp ks c) s Q:=by
 obtain⟨s1,hw,h1⟩:=h1
 exact ⟨I,n,s1,hw,h1,fun m s2 hI=>mA c (fun e s hs=>by
   cases e with
   | normal=>
    obtain⟨m',h4,s4,h5,h6⟩:=hs;exact⟨m',s4,h4,h5,h6⟩
   | _=>exact hs) (h2 m s2 hI)⟩
def zj (P:Program) (rs:List ResultVar) (res:AV) (σout:aj):Exit→St→Prop:=fun e s=>cO (Bx P rs res σout e) s
theorem Zb {P:Program}{rs:List ResultVar}{res:AV}{σout:aj}{s:St}:zj P rs res σout .ret s=cO (mR P rs · res σout) s:=rfl
theorem Zc {P:Program}{rs:List ResultVar}{res:AV}{σout:aj}{s:St}:zj P rs res σout .normal s=cO (mR P rs · res σout) s:=rfl
def KD:SC J→Bool
 | .seq ..|.sq ..|.ct ..=>true
 | _=>false
theorem afj {P:Program}{n:Nat}{c:SC J}{N:Nat}{rs:List ResultVar}(hb:Ik P n c N rs) (hs:KD c=true)
  {σin:aj} {args:List AV} {res:AV} {σout:aj} (hlen:Nat.ble args.length N=true) (hv:jv P c ⟨N,nj 0 args,σin,1⟩ (zj P rs res σout)):bb P n σin args res σout:=by
 obtain⟨fn,hf,hb,hn,rfl,rfl,CH,hd⟩:=hb;cases pB:fn.body with
 | none=>rw[pB]at hb;cases hb
 | some code=>
  rw[pB]at hb;have e:strip code=ie c:=Option.some.inj hb;have hsq:∃x y,code=.seq x y:=by
   cases c with
   | seq a b=>exact⟨_,_,(zb (A:=ie a) (B:=ie b) e).choose_spec.choose_spec.1⟩
   | sq ks a b=>exact⟨_,_,(zb (A:=ie a) (B:=ie b) e).choose_spec.choose_spec.1⟩
   | ct a b=>exact⟨_,_,(zb (A:=ie a) (B:=ie b) e).choose_spec.choose_spec.1⟩
   | _=>cases hs
  have Sl:vc P code ⟨fn.ntmps,nj 0 args,σin,1⟩ (zj P fn.results.toList res σout):=rS code (fun _ _ h=>h) (e▸nI CH c hd (fun e s h=>h) hv);obtain⟨x,y,rfl⟩:=hsq;refine UK hf pB hn (Nat.le_of_ble_eq_true hlen) (.inr fun rd O w0 a w hr=>wp_mono (rQ _ _ _ Sl a w hr) ?_);rintro ex a' w' ⟨s,⟨s',hw,hk⟩,fQ⟩;exact⟨s',by cases ex<;>exact hk,hw.rel fQ⟩
theorem ab8 {P:Program}{n:Nat}{c:SC J}(fn:Func) (N:Nat) (rs:List ResultVar) {σin:aj}{args:List AV}{res:AV}{σout:aj}
  (h:(P.funcs[n]?,fn.body.map strip,fn.name== "runtime.NumGoroutine",fn.ntmps,fn.results.toList,P.follows .mixedOrders)=(some fn,some (ie c),false,N,rs,true)) (hd:lN c=true) (hs:KD c=true) (hlen:Nat.ble args.length N=true)
  (hv:jv P c ⟨N,nj 0 args,σin,1⟩ (zj P rs res σout)):AP c (bb P n σin args res σout):=afj (Nq h hd) hs hlen hv
attribute [go_sem] Zb Zc
def Ff:List Nat→d6
 | []=>[]
 | k::l=>((k,0),(k,0))::Ff l
def NO (σ:aj) (tm:List (Nat × AV)):List Nat→d6→d6
 | [],acc=>acc
 | t::ks,acc=>NO σ tm ks (mN false σ 10000 20 t acc (zA (match bI tm t with
  | some v=>v
  | none=>.dead)))
def ME (ps:List Nat) (s:St) (ks:List Nat):d6:=NO s.σ s.tm ks (mN false s.σ 1 20 900000 (Ff ps) (Bu s.σ (Ff ps)))
def dm (ps ks:List Nat) (s:St):St:=s7 s (qf ks s.tm) (ME ps s ks)
theorem aI.dm (ps ks:List Nat) (s:St):aI s (dm ps ks s):=
 aI.s7 (fun t v hl rd φ O w0 a w h=>Cb ks s.tm t v hl▸h.look t) _
theorem adh {ps ks:List Nat}{n G:Nat}{tm:List (Nat × AV)}{σ:aj}:E.dm ps ks ⟨n,tm,σ,G⟩=E.s7 ⟨n,tm,σ,G⟩ (qf ks tm) (ME ps ⟨n,tm,σ,G⟩ ks):=rfl
attribute [go_sem] adh ME NO Ff
def oh (B g r' g':Nat):NF:=fun r gg=>match Nat.beq r B with
 | true=>match Nat.beq gg g with
  | true=>some (r',g')
  | false=>some (r,gg)
 | false=>some (r,gg)
def xh (N:NF):aj→aj
 | []=>[]
 | (k,g,f)::l=>(k,g,iD N f)::xh N l
theorem RN {N:NF}:∀{σ:aj}{k g:Nat}{f:dZ},bI (xh N σ) k=some (g,f)→∃f0,bI σ k=some (g,f0)∧f=iD N f0
 | [],k,g,f,h=>by simp[xh,bI]at h
 | (k0,g0,f0)::l,k,g,f,h=>by
  simp only[xh,gx]at h ⊢;split at h
  ·rename_i e;rw[if_pos e];cases h;exact⟨f0,rfl,rfl⟩
  rename_i e;rw[if_neg e];exact RN h
def EX (s:St) (B:Nat):Option (Nat × dZ)→St
 | some gf=>⟨s.n,xg (oh B gf.1 900100 s.G) s.tm,(900100,s.G,iD (oh B gf.1 900100 s.G) gf.2)::xh (oh B gf.1 900100 s.G) (pH s.σ B),s.G+1⟩
 | none=>s
def Jj (s:St) (B:Nat):St:=EX s B (bI s.σ B)
theorem PE {B g r' g':Nat}:oh B g r' g' B g=some (r',g'):=by unfold oh;rw[Nat.beq_refl,Nat.beq_refl]
theorem PD {B g r' g' r gg:Nat}(h:r≠B):oh B g r' g' r gg=some (r,gg):=by
 unfold oh;cases hk:Nat.beq r B with
 | true=>exact absurd (Nat.eq_of_beq_eq_true hk) h
 | false=>rfl
theorem aI.tA (s:St) (B:Nat):aI s (Jj s B):=by
 intro rd O w0 a w ⟨rd',φ,hx,h⟩;unfold Jj;cases hl:bI s.σ B with
 | none=>exact⟨rd',φ,hx,h⟩
 | some gf=>
  obtain⟨g,f⟩:=gf;unfold EX;simp only;have dJ:∀r p,φ r s.G p=none:=fun r p=>by
   cases hh:φ r s.G p with
   | none=>rfl
   | some x=>exact absurd (h.gen r s.G p (by rw[hh];simp)) (Nat.lt_irrefl _)
  let φ':b9:=fun r gg p=>if r=900100∧gg=s.G then φ B g p else φ r gg p
  have hN:tj (oh B g 900100 s.G) φ φ':=by
   intro r gg x p pl hx hp;by_cases hr:r=B
   ·subst hr;by_cases hg:gg=g
    ·subst hg;rw[PE]at hx;cases hx;show(if (900100:Nat)=900100∧s.G=s.G then φ r gg p else _)=some pl
     rw[if_pos ⟨rfl,rfl⟩];exact hp
    have:oh r g 900100 s.G r gg=some (r,gg):=by
     unfold oh;rw[Nat.beq_refl];cases hk:Nat.beq gg g with
     | true=>exact absurd (Nat.eq_of_beq_eq_true hk) hg
     | false=>rfl
    rw[this]at hx;cases hx;show(if r=900100∧gg=s.G then φ r g p else φ r gg p)=some pl
    rw[if_neg]
    ·exact hp
    rintro⟨-,rfl⟩;rw[dJ]at hp;cases hp
   rw[PD hr]at hx;cases hx;show(if r=900100∧gg=s.G then φ B g p else φ r gg p)=some pl
   rw[if_neg]
   ·exact hp
   rintro⟨-,rfl⟩;rw[dJ]at hp;cases hp
  refine⟨rd',φ',⟨hx.1,fun r p pl e hr=>?_⟩,h.heap.PJ hN ?_,fun t v hv=>?_,h.size,h.defers,fun r gg p hp=>?_⟩
  ·show(if r=900100∧0=s.G then φ B g p else φ r 0 p)=some pl
   rw[if_neg (by omega)];exact hx.2 r p pl e hr
  ·intro r' g' p cq hr;unfold rowAt at hr;rw[gx]at hr;split at hr
   ·rename_i gf' f' he;split at he
    ·rename_i e;cases he;split at hr
     ·rename_i e2;subst e e2;unfold iD at hr;split at hr
      ·rename_i row fo;cases hr;exact⟨B,g,row,by unfold rowAt;rw[hl];simp[fo],PE,rfl⟩
      cases hr
     cases hr
    rename_i e;obtain⟨f0,h0,rfl⟩:=RN he;rw[tN]at h0;split at h0
    ·cases h0
    rename_i bO;split at hr
    ·rename_i e2;subst e2;unfold iD at hr;split at hr
     ·rename_i row fo;cases hr;exact⟨r',gf',row,by unfold rowAt;rw[h0];simp[fo],PD bO,rfl⟩
     cases hr
    cases hr
   cases hr
  ·obtain⟨u,hu,rfl⟩:=Kn hv;exact B3 hN (h.tm t u hu)
  have hp:(if r=900100∧gg=s.G then φ B g p else φ r gg p)≠none:=hp;split at hp
  ·rename_i e;show gg<s.G+1
   omega
  have:=h.gen _ _ _ hp;show gg<s.G+1
  omega
theorem Zi {n G B:Nat}{tm:List (Nat × AV)}{σ:aj}:Jj ⟨n,tm,σ,G⟩ B=EX ⟨n,tm,σ,G⟩ B (bI σ B):=rfl
theorem Zj {n G B g:Nat}{f:dZ}{tm:List (Nat × AV)}{σ:aj}:EX ⟨n,tm,σ,G⟩ B (some (g,f))=⟨n,xg (oh B g 900100 G) tm,(900100,G,iD (oh B g 900100 G) f)::xh (oh B g 900100 G) (pH σ B),G+1⟩:=rfl
attribute [go_sem] Zi Zj xh oh
end Go.Proofs.YtobpfkgabdeefaaGreat.E
