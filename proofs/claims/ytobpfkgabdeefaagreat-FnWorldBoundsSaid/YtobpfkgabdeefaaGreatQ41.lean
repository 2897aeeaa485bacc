/- Boxes: all of them frozen; nil slices told as empty boxes; Contracts: a new world, in the reference; Contracts: the reference plays; Contracts: copies of the parts of a world; by value -/
import Derived.Test.YtobpfkgabdeefaaGreatQ40
namespace Go.Proofs.YtobpfkgabdeefaaGreat.E
open Go Go.RowKit
set_option linter.unusedVariables false
set_option linter.unusedSimpArgs false
def ng (r g sz:Nat) (bs:List (List (List AV))) (i:Nat):d9:=fun p=>match p with
 | []=>some ⟨1,(bs.take i).map (fun b=>[AV.ro sz b])++(gi r g sz bs).drop i,0,false⟩
 | [j]=>(bs[j]?).map fun b=>⟨sz,b,2,decide (j<i)⟩
 | _=>none
theorem ahq {r g sz:Nat}{bs:List (List (List AV))}:ng r g sz bs 0=iy r g sz bs:=by
 funext p;cases p with
 | nil=>rfl
 | cons j p=>
  cases p with
  | nil=>
   show(bs[j]?).map _=(bs[j]?).map _
   cases bs[j]? with
   | none=>rfl
   | some b=>rfl
  | cons=>rfl
theorem bc.ahp {rd:RD}{φ:cj}{O:Nat->Prop}{w0 w:World}{σ:ak}{B g sz i:Nat}{bs:List (List (List AV))}(h:bc rd φ O w0 (bT σ B (g,ng B g sz bs i)) w) (hi:i<bs.length):
  ∃rd',Ext O w0 rd rd'/\bc rd' φ O w0 (bT σ B (g,ng B g sz bs (i+1))) w:=by
 have hl:bE (bT σ B (g,ng B g sz bs i)) B=some (g,ng B g sz bs i):=by rw[zB,if_pos rfl]
 have Lu:bs[i]?=some bs[i]:=bm hi;have hlen:((bs.take i).map (fun b=>[AV.ro sz b])).length=i:=by rw[List.length_map,List.length_take];omega
 have he:((bs.take i).map (fun b=>[AV.ro sz b])++(gi B g sz bs).drop i)[i]?=some [.aw B g [i] sz 0 bs[i].length]:=by
  rw[List.getElem?_append_right (by rw[hlen];exact Nat.le_refl _),hlen,Nat.sub_self,List.getElem?_drop,Nat.add_zero,p7,Lu];rfl
 have fF:ng B g sz bs i [i]=some ⟨sz,bs[i],2,false⟩:=by
  show(bs[i]?).map _=_
  rw[Lu];simp
 have sP:sub 0 bs[i].length bs[i]=bs[i]:=by unfold sub;simp
 have hx:E.rK B g [] i 0 (.aw B g [i] sz 0 bs[i].length) (bT σ B (g,ng B g sz bs i))=
   some (bT (bT (bT σ B (g,ng B g sz bs i)) B (g,dF (ng B g sz bs i) [i] ⟨sz,bs[i],2,true⟩)) B (g,dF (dF (ng B g sz bs i) [i] ⟨sz,bs[i],2,true⟩) [] ⟨1,((bs.take i).map (fun b=>[AV.ro sz b])++(gi B g sz bs).drop i).set i [.ro sz bs[i]],0,false⟩)):=by
  unfold E.rK;have h1:s9 (bT σ B (g,ng B g sz bs i)) (.aw B g [i] sz 0 bs[i].length)=some (bT (bT σ B (g,ng B g sz bs i)) B (g,dF (ng B g sz bs i) [i] ⟨sz,bs[i],2,true⟩),.ro sz bs[i]):=by
   unfold s9;simp only[hl,Option.bind_some,Nat.beq_refl,fF,Nat.ble,Nat.zero_add,od,Nat.le_refl,if_true,sP];simp[Nat.ble_eq_true_of_le (Nat.le_refl bs[i].length)]
  rw[h1];simp only[Option.bind_some];unfold Ha;rw[zB,if_pos rfl];have h0:dF (ng B g sz bs i) [i] ⟨sz,bs[i],2,true⟩ []=some ⟨1,(bs.take i).map (fun b=>[AV.ro sz b])++(gi B g sz bs).drop i,0,false⟩:=by
   unfold dF;rw[if_neg (by simp)];rfl
  simp only[Option.bind_some,Nat.beq_refl,h0,he,Option.map_some,List.set_cons_zero]
 obtain⟨eh,x1,h1⟩:=h.rK hl (p:=[]) (i:=i) (j:=0) rfl he rfl hx;refine⟨eh,x1,h1.less fun r g2 p row hr=>?_⟩;rw[jM]at hr ⊢;by_cases hB:r=B
 ·rw[if_pos hB]at hr ⊢;by_cases hg:g=g2
  ·rw[if_pos hg]at hr ⊢
   match p,hr with
   | [],hr=>
    rw[<-hr];show dF _ _ _ _=_
    unfold dF;rw[if_pos rfl];show some _=some _
    congr 2;rw[List.set_append,if_neg (by rw[hlen];exact Nat.lt_irrefl _),hlen,Nat.sub_self,List.take_succ_eq_append_getElem hi,List.map_append,List.append_assoc];congr 1;rw[List.drop_eq_getElem_cons (by rw[rX];exact hi),List.set_cons_zero];rfl
   | [j],hr=>
    unfold dF;rw[if_neg (by simp)];by_cases hj:j=i
    ·subst hj;rw[if_pos rfl];have hr:(bs[j]?).map _=some row:=hr;rw[Lu]at hr;rw[<-hr];simp
    rw[if_neg (by simpa using hj)];have hr:(bs[j]?).map _=some row:=hr;rw[<-hr];show(bs[j]?).map _=_
    cases bs[j]? with
    | none=>rfl
    | some b=>
     have:decide (j<i)=decide (j<i+1):=by rw[decide_eq_decide];omega
     simp[this]
   | _::_::_,hr=>cases hr
  rw[if_neg hg]at hr;cases hr
 rw[if_neg hB]at hr ⊢;rw[jM,if_neg hB,jM,if_neg hB];exact hr
def M6 (sz:Nat) (bs:List (List (List AV))):Row:=⟨1,bs.map fun b=>[AV.ro sz b],1,false⟩
theorem bc.ahr {rd:RD}{φ:cj}{O:Nat->Prop}{w0 w:World}{σ:ak}{B g sz:Nat}{bs:List (List (List AV))}(h:bc rd φ O w0 (bT σ B (g,ng B g sz bs 0)) w):
  ∀i,i<=bs.length->∃rd',Ext O w0 rd rd'/\bc rd' φ O w0 (bT σ B (g,ng B g sz bs i)) w:=by
 intro i;induction i with
 | zero=>intro _;exact⟨rd,.refl,h⟩
 | succ i ih=>
  intro hi;obtain⟨eh,x1,h1⟩:=ih (by omega);obtain⟨dV,x2,h2⟩:=h1.ahp (by omega);exact⟨dV,x1.trans x2,h2⟩
theorem aB.Tw {n G:Nat}{tm:List (Nat × AV)}{σ:ak}{B g sz:Nat}{bs:List (List (List AV))}(hl:bE σ B=some (g,iy B g sz bs)):aB ⟨n,tm,σ,G⟩ ⟨n,tm,bT σ B (g,one (M6 sz bs)),G⟩:=by
 intro rd O w0 a w ⟨rd',φ,hx,h⟩;have h0:bc rd' φ O w0 (bT σ B (g,ng B g sz bs 0)) w:=h.heap.less fun r g2 p row hr=>by
  rw[jM,ahq]at hr;by_cases hB:r=B
  ·rw[if_pos hB]at hr;unfold rowAt;subst hB;rw[hl];exact hr
  rw[if_neg hB]at hr;exact hr
 obtain⟨eh,x1,h1⟩:=h0.ahr bs.length (Nat.le_refl _);have h2:bc eh φ O w0 (bT σ B (g,one ⟨1,bs.map (fun b=>[AV.ro sz b]),0,false⟩)) w:=h1.less fun r g2 p row hr=>by
  rw[jM]at hr ⊢;by_cases hB:r=B
  ·rw[if_pos hB]at hr ⊢;by_cases hg:g=g2
   ·rw[if_pos hg]at hr ⊢;obtain⟨rfl,rfl⟩:=ql hr;show some _=some _
    rw[List.take_length,List.drop_of_length_le (by rw[rX];exact Nat.le_refl _),List.append_nil]
   rw[if_neg hg]at hr;cases hr
  rw[if_neg hB]at hr ⊢;exact hr
 have h3:E.tc (bT σ B (g,one ⟨1,bs.map (fun b=>[AV.ro sz b]),0,false⟩)) B=some (bT (bT σ B (g,one ⟨1,bs.map (fun b=>[AV.ro sz b]),0,false⟩)) B (g,dF (one ⟨1,bs.map (fun b=>[AV.ro sz b]),0,false⟩) [] ⟨1,bs.map (fun b=>[AV.ro sz b]),1,false⟩)):=by
  unfold E.tc;rw[zB,if_pos rfl];have ha:((bs.map fun b=>[AV.ro sz b]).all fun e=>e.all kb)=true:=by
   rw[List.all_eq_true];intro e he;obtain⟨b,-,rfl⟩:=List.mem_map.1 he;rfl
  simp only[Option.bind_some,one,ha];try rfl
 have h4:=h2.tc h3;refine⟨eh,φ,⟨hx.1.trans x1,hx.2⟩,⟨h4.less fun r g2 p row hr=>?_,fun t v hv=>(h.tm t v hv).mono x1.1 (fun _ _ _ _ h=>h),h.size,h.defers,h.gen⟩⟩;rw[jM]at hr ⊢;by_cases hB:r=B
 ·rw[if_pos hB]at hr ⊢;by_cases hg:g=g2
  ·rw[if_pos hg]at hr ⊢;obtain⟨rfl,rfl⟩:=ql hr;simp[dF,M6]
  rw[if_neg hg]at hr;cases hr
 rw[if_neg hB]at hr ⊢;rw[jM,if_neg hB];exact hr
def tR (B:Nat):AV->Bool
 | .aw r _ p _ _ _|.ptr r _ p _ _ _|.mr r _ p=>!(r==B&&!(p==[]))
 | .agg _|.aZ _=>false
 | _=>true
def BG (B:Nat):AV->Bool
 | .agg cs|.aZ cs=>cs.all (tR B)
 | v=>tR B v
def Fv (B:Nat) (row:Row):Bool:=match Nat.ble 1 row.fl with
 | true=>true
 | false=>row.es.all fun e=>e.all (tR B)
theorem aL.tR {rd:RD}{φ φ':cj}{B:Nat}(hφ:∀r g p,¬(r=B/\p≠[])->φ' r g p=φ r g p) {c:AV}{v:Value}(h:aL rd φ c v) (ho:E.tR B c=true):aL rd φ' c v:=by
 have key:∀{r:Nat} {p:List Nat},(!(r==B&&!(p==[])))=true->¬(r=B/\p≠[]):=by
  intro r p hk hh;have h2:=hh.2;simp only[Bool.not_eq_true',Bool.and_eq_false_iff,Bool.not_eq_false',beq_iff_eq]at hk;rcases hk with hk|hk
  ·simp[hh.1]at hk
  exact h2 hk
 cases h with
 | aw r g p sz off len pl A h1 hA hl=>exact .aw r g p sz off len pl A (by rw[hφ r g p (key ho)];exact h1) hA hl
 | ptr r g p sz i o pl b q h1 aK=>exact .ptr r g p sz i o pl b q (by rw[hφ r g p (key ho)];exact h1) aK
 | mr r g p pl b h1 aK=>exact .mr r g p pl b (by rw[hφ r g p (key ho)];exact h1) aK
 | dead v=>exact .dead v
 | sc v h=>exact .sc v h
 | aG=>exact .aG
 | iC sz A cap=>exact .iC sz A cap
 | ro sz es b q cap f hc hs hr hv=>exact(aL.ro sz es b q cap f hc hs hr hv).l9 rfl
 | rp cs b q f hs hr hv=>exact(aL.rp cs b q f hs hr hv).l9 rfl
 | agg=>cases ho
 | aZ=>cases ho
 | it r=>exact .it r
theorem aL.BG {rd:RD}{φ φ':cj}{B:Nat}(hφ:∀r g p,¬(r=B/\p≠[])->φ' r g p=φ r g p) {c:AV}{v:Value}(h:aL rd φ c v) (ho:E.BG B c=true):aL rd φ' c v:=by
 cases c with
 | agg cs=>
  cases h with
  | agg _ arr f hs hg hv=>exact .agg cs arr f hs hg fun j c hc=>(hv j c hc).tR hφ (List.all_eq_true.1 ho c (dk hc))
 | aZ cs=>
  cases h with
  | aZ _ arr f hs hg hv=>exact .aZ cs arr f hs hg fun j c hc=>(hv j c hc).tR hφ (List.all_eq_true.1 ho c (dk hc))
 | _=>exact h.tR hφ ho
def Fu (B:Nat):List (Nat × AV)->Bool
 | []=>true
 | x::l=>E.BG B x.2&&Fu B l
theorem QI {B:Nat}:∀{tm:List (Nat × AV)}{t:Nat}{v:AV},Fu B tm=true->bE tm t=some v->E.BG B v=true
 | [],_,_,_,h=>by cases h
 | (k,u)::l,t,v,ho,h=>by
  simp only[Fu,Bool.and_eq_true]at ho;simp only[gR]at h;split at h
  ·cases h;exact ho.1
  exact QI ho.2 h
def JC (B:Nat):ak->Prop
 | []=>True
 | (k,_,f)::l=>(k=B\/∃row,f=one row/\Fv B row=true)/\JC B l
theorem QJ {B:Nat}:∀{σ:ak}{k g:Nat}{f:d9},JC B σ->bE σ k=some (g,f)->k=B\/∃row,f=one row/\Fv B row=true
 | [],_,_,_,_,h=>by cases h
 | (k0,g0,f0)::l,k,g,f,ho,h=>by
  simp only[gR]at h;split at h
  ·rename_i e;cases h;subst e;exact ho.1
  exact QJ ho.2 h
theorem aB.V6 {n G:Nat}{tm:List (Nat × AV)}{σ:ak}{B g sz m fl:Nat}(hB:B<1000000) (hl:bE σ B=some (g,one ⟨1,List.replicate m [.aG],fl,false⟩)) (oj:Fu B tm=true) (hσ:JC B σ):
  aB ⟨n,tm,σ,G⟩ ⟨n,tm,bT σ B (g,iy B g sz (List.replicate m [])),G⟩:=by
 intro rd O w0 a w ⟨rd',φ,hx,h⟩;have hb:=h.heap;have pj:rowAt σ B g []=some ⟨1,List.replicate m [.aG],fl,false⟩:=by unfold rowAt;rw[hl];simp[one]
 obtain⟨uZ,qx,nt⟩:=hb.rows _ _ _ _ pj
 let φ':cj:=fun r gg p=>if r=B/\gg=g/\p≠[] then some ⟨none,0⟩ else φ r gg p
 have fD:∀r gg p,¬(r=B/\p≠[])->φ' r gg p=φ r gg p:=fun r gg p hn=>by
  show(if r=B/\gg=g/\p≠[] then some ⟨none,0⟩ else φ r gg p)=φ r gg p
  rw[if_neg (fun hh=>hn ⟨hh.1,hh.2.2⟩)]
 have ru:∀i,φ' B g [i]=some ⟨none,0⟩:=fun i=>by
  show(if B=B/\g=g/\[i]≠[] then some ⟨none,0⟩ else φ B g [i])=some ⟨none,0⟩
  rw[if_pos ⟨rfl,rfl,by simp⟩]
 have cA:∀{r gg p row},rowAt (bT σ B (g,iy B g sz (List.replicate m []))) r gg p=some row->
   (r=B/\gg=g/\p=[]/\row=⟨1,gi B g sz (List.replicate m []),0,false⟩)\/(r=B/\gg=g/\(∃j,p=[j])/\row=⟨sz,[],2,false⟩)\/
   (r≠B/\p=[]/\rowAt σ r gg p=some row/\Fv B row=true):=by
  intro r gg p row hr;rw[jM]at hr;by_cases mR:r=B
  ·rw[if_pos mR]at hr;by_cases hg:g=gg
   ·rw[if_pos hg]at hr;subst mR hg
    match p,hr with
    | [],hr=>exact .inl ⟨rfl,rfl,rfl,(Option.some.inj hr).symm⟩
    | [j],hr=>
     rw[yC]at hr;obtain⟨b,ku,rfl⟩:=cP hr;have:b=[]:=(List.mem_replicate.1 (dk ku)).2;subst this;exact .inr (.inl ⟨rfl,rfl,⟨j,rfl⟩,rfl⟩)
    | _::_::_,hr=>cases hr
   rw[if_neg hg]at hr;cases hr
  rw[if_neg mR]at hr;unfold rowAt at hr;split at hr
  ·rename_i gk fk hk;split at hr
   ·rename_i hg;subst hg;rcases QJ hσ hk with e|⟨lE,rfl,ho⟩
    ·exact absurd e mR
    obtain⟨rfl,rfl⟩:=ql hr;exact .inr (.inr ⟨mR,rfl,by unfold rowAt;rw[hk];simp[one],ho⟩)
   cases hr
  cases hr
 have hold:∀{r gg p row pl b q},rowAt (bT σ B (g,iy B g sz (List.replicate m []))) r gg p=some row->φ' r gg p=some pl->pl.ad=some (b,q)->
   ∃bt,rowAt σ r gg p=some bt/\φ r gg p=some pl/\(bt.ao=false\/bt=row):=by
  intro r gg p row pl b q hr hp aK;rcases cA hr with ⟨rfl,rfl,rfl,rfl⟩|⟨rfl,rfl,⟨j,rfl⟩,rfl⟩|⟨bJ,rfl,fZ,-⟩
  ·rw[fD _ _ _ (by simp)]at hp;exact⟨_,pj,hp,.inl rfl⟩
  ·rw[ru]at hp;cases hp;cases aK
  rw[fD _ _ _ (by simp)]at hp;exact⟨_,fZ,hp,.inr rfl⟩
 refine⟨rd',φ',⟨hx.1,fun r p pl e hr=>?_⟩,⟨?_,?_,hb.eA,?_,?_,hb.frame,hb.size,hb.os,hb.tape,hb.output⟩,fun t v hv=>(h.tm t v hv).BG fD (QI oj hv),h.size,h.defers,fun r gg p hp=>?_⟩
 ·rw[fD _ _ _ (by rintro⟨rfl,-⟩;omega)];exact hx.2 r p pl e hr
 ·intro r gg p row hr;rcases cA hr with ⟨rfl,rfl,rfl,rfl⟩|⟨rfl,rfl,⟨j,rfl⟩,rfl⟩|⟨bJ,rfl,fZ,ho⟩
  ·refine⟨uZ,by rw[fD _ _ _ (by simp)];exact qx,fun e he=>?_,?_,fun e he=>⟨fun hh=>absurd hh (by simp),fun hh=>absurd hh (by simp)⟩,nt.nil,nt.room,fun b q aK i j c aU=>?_,fun ha=>(by cases ha),lI (by show(0:Nat)<3;decide)⟩
   ·obtain⟨k,hk⟩:=List.getElem?_of_mem he;rw[p7]at hk;obtain⟨y,-,rfl⟩:=cP hk;rfl
   ·have:=nt.len;simp only[List.length_replicate,rX]at this ⊢;exact this
   have aU:((gi r gg sz (List.replicate m []))[i]?).bind (·[j]?)=some c:=aU;rw[p7]at aU;by_cases hi:i<m
   ·rw[List.getElem?_replicate,if_pos hi]at aU;simp only[Option.map_some,Option.bind_some]at aU;cases j with
    | succ j=>simp at aU
    | zero=>
     simp only[List.getElem?_cons_zero,Option.some.injEq]at aU;subst aU;obtain⟨v,h1,h2⟩:=nt.cells b q aK i 0 .aG (by show((List.replicate m [AV.aG])[i]?).bind _=_;rw[List.getElem?_replicate,if_pos hi];rfl);refine⟨v,h1,?_⟩;cases h2;exact .aw r gg [i] sz 0 0 ⟨none,0⟩ none (ru i) (.inl rfl) (Nat.le_refl _)
   rw[List.getElem?_replicate,if_neg hi]at aU;cases aU
  ·exact⟨⟨none,0⟩,ru j,fun e he=>(by cases he),aR _,fun e he=>(by cases he),fun _=>rfl,fun b q h=>(by cases h),fun b q h=>(by cases h),fun ha=>(by cases ha),lI (by show(2:Nat)<3;decide)⟩
  obtain⟨pl,h1,h2⟩:=hb.rows _ _ _ _ fZ;refine⟨pl,by rw[fD _ _ _ (by simp)];exact h1,?_⟩;refine⟨h2.wide,h2.len,h2.kind,h2.nil,h2.room,fun b q aK k j c' aU=>?_,h2.iI,h2.mp⟩;obtain⟨v,h3,h4⟩:=h2.cells b q aK k j c' aU;refine⟨v,h3,?_⟩;cases he:row.es[k]? with
  | none=>rw[he]at aU;cases aU
  | some e=>
   rw[he]at aU;unfold Fv at ho;split at ho
   ·rename_i fK;refine h4.l9 ?_;have:=(h2.kind e (dk he)).1 (Nat.le_of_ble_eq_true fK) c' (dk aU);cases c'<;>first|rfl|cases this
   exact h4.tR fD (List.all_eq_true.1 (List.all_eq_true.1 ho e (dk he)) c' (dk aU))
 ·intro r1 g1 p1 fy r2 g2 p2 bt jm de b q1 q2 e1 e2 e3 e4 e5 e6;obtain⟨x1,m1,m2,-⟩:=hold e1 e3 e5;obtain⟨x2,n1,n2,-⟩:=hold e2 e4 e6;exact hb.sep _ _ _ _ _ _ _ _ _ _ _ _ _ m1 n1 m2 n2 e5 e6
 ·intro r gg p row pl b q e1 e2 e3 k dI;obtain⟨x1,m1,m2,m3⟩:=hold e1 e2 e3;rcases m3 with m3|rfl
  ·exact hb.eF _ _ _ _ _ _ _ m1 m2 e3 k (.inl m3)
  exact hb.eF _ _ _ _ _ _ _ m1 m2 e3 k dI
 ·intro r gg p row pl b q e1 e2 e3;obtain⟨x1,m1,m2,-⟩:=hold e1 e2 e3;exact hb.own _ _ _ _ _ _ _ m1 m2 e3
 have hp:(if r=B/\gg=g/\p≠[] then some ⟨none,0⟩ else φ r gg p)≠none:=hp;split at hp
 ·rename_i e;obtain⟨rfl,rfl,-⟩:=e;exact h.gen r gg [] (by rw[qx];simp)
 exact h.gen r gg p hp
section
set_option maxHeartbeats 4000000
set_option maxRecDepth 10000
set_option linter.unusedSectionVars false
def aeR:cc:=⟨[],cw,cz,false⟩
attribute [-go_sem] ei
def u0:AV:=.sc (.int .u64 0)
def AN:List AV:=[u0,u0,u0,u0,u0,u0,u0,u0,u0,u0,u0,u0,u0,u0,.aG]
def BO (s:et):List AV:=[vI s.eH,vI s.many,vI 0,vI 0,vI 0,u0,u0,u0,u0,.aG,vI 0,u0,u0,u0,u0]
def mZ (c:List AV):List AV:=c++[.aG,vI 0,u0,u0,u0,u0]
def BN (s:et) (W C:AV) (cS:List AV) (U B:AV):List AV:=[vI s.many,vI s.eH,vI s.bB,vI s.room,vI s.inbox,.aG,W,C]++(cS++[U,B,vI s.room,.aG,.aG,vB false])
attribute [go_sem] u0 AN BO mZ BN
theorem EY {b n:Nat}(h:n<=1000) (hb:b<=1000):n+1<=maxLen/\(n+1) * b<=140737488355328:=by
 have h2:=Nat.mul_le_mul (show n+1<=1001 by omega) hb;unfold maxLen;exact⟨by omega,by omega⟩
theorem EZ {α β:Type}(n:Nat) (a:α) (f:α->β):(List.replicate n a).map f=List.replicate n (f a):=List.map_replicate
theorem hY.rep {e e':List AV}(h:kP e e'):∀n,hY (List.replicate n e) (List.replicate n e')
 | 0=>.nil
 | n+1=>.cons h (hY.rep h n)
def JQ (s:et) (i j N:Nat):List AV:=[vI s.many,vI s.eH,vI s.bB,vI s.room,vI s.inbox,.ro 1 [],.aw 10002 0 [] 15 0 i,.aw 20002 0 [] 15 0 j]++((dW s).cs (.ro 1 [])++([.ro 1 []]++cg.zero.cs++[.aw 30002 0 [] 1 0 N,.aw 40002 0 [] 1 0 N,vI s.room,.ro 3 [],.aw 50002 0 [] 16 0 0,vB false]))
theorem UT (s:et) (h:ij s=true):aY Tryz.prog 79 [] [.agg s.cs] (vA (gz s) 0) (eX (gz s)):=by
 refine aF aeR false Tryz.f79 ?_;conv=>enter[1];reduce
 refine rl Tryz.f79 67 [.cell 2 64] (by kernel_rfl) (by decide +kernel) rfl rfl ?_;have hs:=ea h;obtain⟨M,hM⟩:∃M:Nat,s.many=(M:Int):=⟨s.many.toNat,by omega⟩;obtain⟨C,hC⟩:∃C:Nat,s.bB=(C:Int):=⟨s.bB.toNat,by omega⟩;refine au ?_;refine im (fun m z=>∃(i:Nat),i<=M/\m=M - i/\z=⟨67,[(1,.ptr 1 0 [] 5 0 0),(2,.ptr 2 0 [] 35 0 0),(3,.ptr 3 0 [] 35 0 0),(4,vI i)],[(1,0,one ⟨5,[s.cs],0,false⟩),(2,0,one ⟨35,[jL],0,false⟩),(3,0,one ⟨35,[BN s (.aw 10003 0 [] 15 0 i) .aG (mZ wE) .aG .aG],0,false⟩),(10003,0,one ⟨15,List.replicate i AN,2,false⟩)],1⟩) M (bO.step (aB.gX [(7003,15)] _) ?_) ?_
 ·refine au ?_;refine bO.intro (aB.b9 [] [1,2,3,4] _) ?_;refine au ?_;exact⟨0,aR _,rfl,rfl⟩
 rintro m z ⟨i,hi,rfl,rfl⟩;rcases bp i M with ab|bM
 ·have ah:(i:Int)<s.many:=by omega
  have hw:IntKind.i64.wrap ((i:Int)+1)=((i+1:Nat):Int):=by rw[aN (by omega)];omega
  have gv:=EY (b:=136) (n:=i) (by omega) (by omega);have Cq:∀x:List AV,List.replicate i x++[x]=List.replicate (i+1) x:=fun x=>(List.replicate_succ' ..).symm
  simp -implicitDefEqProofs only[go_sem,ah,hw,gv,List.length_replicate,Cq];refine fh.intro (M - (i+1)) (by omega) (aB.b9 [] [1,2,3,4] _) ?_;refine au ?_;exact⟨i+1,ab,rfl,rfl⟩
 have hi:i=M:=by omega
 subst hi;have ah:¬((i:Int)<s.many):=by omega
 refine aA ah ?_;refine im (fun m z=>∃(j:Nat),j<=C/\m=C - j/\z=⟨67,[(1,.ptr 1 0 [] 5 0 0),(2,.ptr 2 0 [] 35 0 0),(3,.ptr 3 0 [] 35 0 0),(5,.ptr 5 0 [] 15 0 0),(6,vI j)],[(1,0,one ⟨5,[s.cs],0,false⟩),(2,0,one ⟨35,[jL],0,false⟩),(3,0,one ⟨35,[BN s (.aw 10003 0 [] 15 0 i) (.aw 20003 0 [] 15 0 j) (mZ wE) .aG .aG],0,false⟩),(10003,0,one ⟨15,List.replicate i AN,2,false⟩),(20003,0,one ⟨15,List.replicate j (BO s),2,false⟩),(5,0,one ⟨15,[BO s],0,false⟩)],1⟩) C (bO.step (aB.gX [(8003,15)] _) ?_) ?_
 ·refine au ?_;refine bO.intro (aB.b9 [] [1,2,3,5,6] _) ?_;refine au ?_;exact⟨0,aR _,rfl,rfl⟩
 rintro m z ⟨j,hj,rfl,rfl⟩;rcases bp j C with ab|bM
 ·have ah:(j:Int)<s.bB:=by omega
  have hw:IntKind.i64.wrap ((j:Int)+1)=((j+1:Nat):Int):=by rw[aN (by omega)];omega
  have gv:=EY (b:=136) (n:=j) (by omega) (by omega);have Cq:∀x:List AV,List.replicate j x++[x]=List.replicate (j+1) x:=fun x=>(List.replicate_succ' ..).symm
  simp -implicitDefEqProofs only[go_sem,ah,hw,gv,List.length_replicate,Cq];refine fh.intro (C - (j+1)) (by omega) (aB.b9 [] [1,2,3,5,6] _) ?_;refine au ?_;exact⟨j+1,ab,rfl,rfl⟩
 have hj:j=C:=by omega
 subst hj;have ah:¬((j:Int)<s.bB):=by omega
 obtain⟨N,hN⟩:∃N:Nat,N=i+j+2:=⟨_,rfl⟩;have z2:IntKind.i64.wrap (s.many+s.bB)=s.many+s.bB:=aN (by omega);have z3:IntKind.i64.wrap (s.many+s.bB+1)=s.many+s.bB+1:=aN (by omega);refine aA ah ?_;refine im (fun m z=>∃(k:Nat),k<=N/\m=N - k/\z=⟨67,[(1,.ptr 1 0 [] 5 0 0),(2,.ptr 2 0 [] 35 0 0),(3,.ptr 3 0 [] 35 0 0),(7,vI k)],[(1,0,one ⟨5,[s.cs],0,false⟩),(2,0,one ⟨35,[jL],0,false⟩),(3,0,one ⟨35,[BN s (.aw 10003 0 [] 15 0 i) (.aw 20003 0 [] 15 0 j) (mZ (BO s)) (.aw 30003 0 [] 1 0 k) (.aw 40003 0 [] 1 0 k)],0,false⟩),(10003,0,one ⟨15,List.replicate i AN,2,false⟩),(20003,0,one ⟨15,List.replicate j (BO s),2,false⟩),(30003,0,one ⟨1,List.replicate k [vB true],2,false⟩),(40003,0,one ⟨1,List.replicate k [.aG],2,false⟩)],1⟩) N (bO.step (aB.gX [(30003,1),(31003,1)] _) ?_) ?_
 ·refine au ?_;refine bO.intro (aB.b9 [] [1,2,3,7] _) ?_;refine au ?_;exact⟨0,aR _,rfl,rfl⟩
 rintro m z ⟨k,hk,rfl,rfl⟩;rcases bp k N with ab|bM
 ·have ah:(k:Int)<=s.many+s.bB+1:=by omega
  have hw:IntKind.i64.wrap ((k:Int)+1)=((k+1:Nat):Int):=by rw[aN (by omega)];omega
  have gv:=EY (b:=1) (n:=k) (by omega) (by omega);have adJ:=EY (b:=24) (n:=k) (by omega) (by omega);rw[Nat.mul_one]at gv;have Cq:∀x:List AV,List.replicate k x++[x]=List.replicate (k+1) x:=fun x=>(List.replicate_succ' ..).symm
  simp -implicitDefEqProofs only[go_sem,ah,hw,z2,z3,gv,adJ,Nat.mul_one,List.length_replicate,Cq];refine fh.intro (N - (k+1)) (by omega) (aB.b9 [] [1,2,3,7] _) ?_;refine au ?_;exact⟨k+1,ab,rfl,rfl⟩
 have hk:k=N:=by omega
 cases hk;have ah:¬((N:Int)<=s.many+s.bB+1):=by omega
 refine eV ah z2 z3 ?_;refine dO.step (aB.gX [(34002,16)] _) ?_;refine au ?_;refine dO.step (aB.b9 [] [2] _) ?_;refine au ?_;refine dO.step (aB.qe (r:=10002) (List.replicate i (cJ.aH.cs++[.ro 7 []])) 1 (by decide) (by decide) rfl (hY.rep (by
  unfold cJ qb;simp -implicitDefEqProofs only[go_sem]
  repeat' first
   | exact .nil
   | refine .cons nn ?_
   | refine .cons np ?_) _)) ?_
 refine dO.step (aB.qe (r:=20002) (List.replicate j ((dW s).cs (.ro 1 []))) 1 (by decide) (by decide) rfl (hY.rep (by
  unfold dW;simp -implicitDefEqProofs only[go_sem]
  repeat' first
   | exact .nil
   | refine .cons nn ?_
   | refine .cons np ?_) _)) ?_
 refine dO.step (aB.qe (r:=50002) [] 1 (by decide) (by decide) rfl .nil) ?_;refine au ?_;refine dO.step (aB.V6 (B:=40002) (sz:=3) (by decide) rfl rfl (by repeat' first|exact trivial|refine And.intro (.inl rfl) ?_|refine And.intro (.inr ⟨_,rfl,rfl⟩) ?_)) ?_;refine au ?_;refine dO.step (aB.qe (r:=2) [JQ s i j N] 0 (by decide) (by decide) rfl (.cons (by
  unfold JQ dW;simp -implicitDefEqProofs only[go_sem]
  repeat' first
   | exact .nil
   | refine .cons nn ?_
   | refine .cons np ?_) .nil)) ?_
 refine dO.intro (aB.refl _) ?_;have gD:gz s=⟨s,[],List.replicate i cJ,List.replicate j (dW s),qm s,List.replicate N true,List.replicate N [],s.room,[],[],false⟩:=by
  unfold gz;rw[show s.many.toNat=i by omega,show s.bB.toNat=j by omega,show(s.many+s.bB+2).toNat=N by omega]
 have pT:ae.bx ⟨s,[],List.replicate i cJ,List.replicate j (dW s),qm s,List.replicate N true,List.replicate N [],s.room,[],[],false⟩=List.replicate N []:=EZ _ _ _;have hx:=dR (bs:=List.replicate N []) (by rw[List.length_replicate];omega);rw[gD];simp -implicitDefEqProofs only[go_sem,JQ,pT,hx,EZ,List.length_replicate]
 first|done|rfl|exact⟨rfl,rfl⟩
end
section
set_option maxHeartbeats 4000000
set_option maxRecDepth 10000
set_option linter.unusedSectionVars false
def Me:cc:=⟨[(79,.cm [false]),(80,.cm [true,false]),(130,.cm [false,false]),(131,.cm [true,false]),(132,.cm [false,false]),(133,.cm [false,false]),(134,.cm [true]),(135,.cm [true,false]),(138,.cm [true]),(139,.cm [true,false])],cw,cz,false⟩
attribute [-go_sem] ei
def ae.rv (w:ae):AV:=.agg ([vI w.set.many,vI w.set.eH,vI w.set.bB,vI w.set.room,vI w.set.inbox,.ro 1 (w.log.map cF),.ro 15 (w.aj.map bz.rc),.ro 15 (w.cls.map bw.rc)]++(w.cS.rc++
 [.ro 1 (w.up.map dw),.ro 1 (w.bx.map fun b=>[AV.ro 3 b]),vI w.room,.ro 3 (w.aO.map aC.cs),.ro 16 (w.book.map dK.cs),vB w.stop]))
attribute [go_sem] ae.rv M6
theorem Wt {α:Type}(p:α->Bool) (l:List α) {i:Nat}(h:i<l.length):(l.take (i+1)).all p=((l.take i).all p&&p l[i]):=by
 rw[List.take_succ_eq_append_getElem h,List.all_append];simp
theorem Wu {α:Type}{p:α->Bool}{l:List α}{i:Nat}(h:i<l.length) (hp:p l[i]=false):l.all p=false:=by
 cases e:l.all p with
 | false=>rfl
 | true=>rw[List.all_eq_true.1 e _ (List.getElem_mem h)]at hp;cases hp
theorem afL (l:List bQ) (hl:l.length<=maxLen):ba Tryz.prog 78 [.ro 4 (l.map bQ.bH)] (vB (decide (l.length<=600)&&l.all e9)) []:=by
 refine aF Me false Tryz.f78 ?_;conv=>enter[1];reduce
 refine bu Tryz.f78 19 [.tmp 2] (by kernel_rfl) (by decide +kernel) rfl ?_;by_cases h6:l.length<=600
 ·have uq:¬((l.length:Int)>600):=by omega
  rw[decide_eq_true h6,Bool.true_and];refine aA uq ?_;refine dq (fun m s=>∃(i:Nat),(i<=l.length/\(l.take i).all e9=true)/\m=l.length - i/\s=⟨19,[(0,.ro 4 (l.map bQ.bH)),(3,vI i)],[],1⟩) l.length ?_ ?_
  ·refine au ?_;exact⟨0,⟨aR _,rfl⟩,rfl,rfl⟩
  rintro m s ⟨i,⟨hi,ha⟩,rfl,rfl⟩;rcases bp i l.length with ab|bM
  ·have ah:(i:Int)<(l.length:Int):=by omega
   have hg:l[i]?=some l[i]:=bm ab;have hw:=dx ab hl;have nD:=agZ l[i];have cB:=Wt e9 l ab;cases aI:e9 l[i] with
   | true=>
    rw[aI]at nD;rw[ha,aI]at cB;refine eV ah hg hw ?_;refine jj nD hw ?_;exact⟨_,by omega,i+1,⟨ab,cB⟩,rfl,rfl⟩
   | false=>
    rw[aI]at nD;rw[Wu ab aI];refine eV ah hg hw ?_;refine aq.intro nD ?_;exact eE hw
  have hi:i=l.length:=by omega
  subst hi;have ah:¬((l.length:Int)<(l.length:Int)):=by omega
  rw[List.take_length]at ha;rw[ha];exact eE ah
 have uq:(l.length:Int)>600:=by omega
 rw[decide_eq_false h6,Bool.false_and];exact eE uq
theorem YL (w:ae) (x:bQ) (h:w.wf) (aD:w.stop=true):aY Tryz.prog 80 (gJ w) [vA w 1000000,.agg x.bH] (vA (eZ w x) 0) (eX (eZ w x)):=by
 have e:eZ w x=w:=if_pos aD;rw[e];refine aF Me false Tryz.f80 ?_;conv=>enter[1];reduce
 refine bI Tryz.f80 141 [.cell 4 64] (by kernel_rfl) (by decide +kernel) rfl ?_;have hx:=h.hx;exact dp aD hx
theorem OV (w:ae) (x:bQ) (h:w.wf) (aI:e9 x=true) (hb:w.book.length<=3500000000):aY Tryz.prog 80 (gJ w) [vA w 1000000,.agg x.bH] (vA (eZ w x) 0) (eX (eZ w x)):=by
 cases aD:w.stop with
 | true=>exact YL w x h aD
 | false=>exact afJ w x h aI aD hb
theorem Ty (s:et) (l:List bQ) {i:Nat}(h:i<l.length):(l.take (i+1)).foldl eZ (gz s)=eZ ((l.take i).foldl eZ (gz s)) l[i]:=by
 rw[List.take_succ_eq_append_getElem h,List.foldl_append];rfl
theorem afR (s:et) (l:List bQ) (hl:l.length<=maxLen):aY Tryz.prog 34 [] [.agg s.cs,.ro 4 (l.map bQ.bH)] (re s l).rv []:=by
 refine aF Me false Tryz.f34 ?_;conv=>enter[1];reduce
 refine rl Tryz.f34 31 [.cell 4 64] (by kernel_rfl) (by decide +kernel) rfl rfl ?_;have nD:=afQ s;have aD:=afL l hl;unfold re FU;cases h1:ij s with
 | false=>
  rw[h1]at nD;rw[Bool.false_and,if_neg (by decide)];refine au ?_;refine aq.intro nD ?_;refine oG ?_;refine dO.intro (aB.refl _) ?_;refine au ?_
  first|exact True.intro|rfl|exact⟨rfl,rfl⟩
 | true=>
  rw[h1]at nD;rw[Bool.true_and];cases h2:(decide (l.length<=600)&&l.all e9) with
  | false=>
   rw[h2]at aD;rw[if_neg (by decide)];refine au ?_;refine aq.intro nD ?_;refine oG ?_;refine aq.intro aD ?_;refine oG ?_;refine dO.intro (aB.refl _) ?_;refine au ?_
   first|exact True.intro|rfl|exact⟨rfl,rfl⟩
  | true=>
   rw[h2]at aD;rw[if_pos rfl];simp only[Bool.and_eq_true,decide_eq_true_eq,List.all_eq_true]at h2;have fR:=zu h1;have qz:=fR.hx;have bJ:=UT s h1;refine au ?_;refine aq.intro nD ?_;refine oG ?_;refine aq.intro aD ?_;refine oG ?_;refine eW bJ qz ?_;refine im (fun m z=>∃(i:Nat),i<=l.length/\m=l.length - i/\z=⟨31,[(1,.ro 4 (l.map bQ.bH)),(4,.ptr 4 0 [] 35 0 0),(5,.ptr 5 0 [] 35 0 0),(6,vI i)],(4,0,one ⟨35,[jL],0,false⟩)::(5,0,one ⟨35,[((l.take i).foldl eZ (gz s)).cells 10005 10000],0,false⟩)::((l.take i).foldl eZ (gz s)).rows 10005 10000,1⟩) l.length (bO.intro (aB.b9 [] [1,4,5,6] _) ?_) ?_
   ·refine aA qz ?_;exact⟨0,aR _,rfl,rfl⟩
   rintro m z ⟨i,hi,rfl,rfl⟩;have Ct:∀x∈l.take i,e9 x=true:=fun x hx=>h2.2 x (List.mem_of_mem_take hx)
   have hv:=wJ fR Ct;have fU:=(HR fR Ct).len;have iW:(gz s).book.length=0:=rfl;rw[List.length_take]at fU;rcases bp i l.length with ab|bM
   ·have ah:(i:Int)<(l.length:Int):=by omega
    have hg:l[i]?=some l[i]:=bm ab;have hw:=dx ab hl;have lU:=Ty s l ab;have Sw:=OV _ l[i] hv (h2.2 _ (List.getElem_mem ab)) (by omega);rw[<-lU]at Sw;have dH:=wJ (l:=l.take (i+1)) fR (fun x hx=>h2.2 x (List.mem_of_mem_take hx));generalize hU:(l.take (i+1)).foldl eZ (gz s)=u at *;generalize (l.take i).foldl eZ (gz s)=v at *;have aW:=hv.hx;have cD:=dH.hx;refine dP ah hg hw aW ?_;refine ji Sw hw aW cD ?_;refine fh.intro (l.length - (i+1)) (by omega) (aB.b9 [] [1,4,5,6] _) ?_;refine aA cD ?_;refine⟨i+1,ab,rfl,?_⟩;subst hU;rfl
   have hi:i=l.length:=by omega
   subst hi;have ah:¬((l.length:Int)<(l.length:Int)):=by omega
   rw[List.take_length]at *;generalize l.foldl eZ (gz s)=v at *;have aW:=hv.hx;refine b8 ah aW ?_;refine dO.step (aB.Tw (B:=40005) (g:=0) (sz:=3) (bs:=v.bx) rfl) ?_;have dX:=(dh v).symm;refine dO.intro (aB.refl _) ?_;refine b8 aW dX ?_
   first|exact True.intro|rfl|exact⟨rfl,rfl⟩
end
section
set_option maxHeartbeats 4000000
set_option maxRecDepth 10000
set_option linter.unusedSectionVars false
def Dm:cc:=⟨[],cw,cz,false⟩
def pg (b:List (List AV)):List AV:=[AV.ro 3 b]
theorem TB (l:List (bz)):1<=dJ (l.map bz.rc):=by
 induction l with
 | nil=>decide
 | cons a l ih=>
  show 1<=min (iJ (bz.rc a)) (dJ (l.map bz.rc))
  have:iJ (bz.rc a)=1:=rfl;omega
theorem aed {l:List (bz)}(h:l≠[]):dJ (l.map bz.rc)=1:=by
 cases l with
 | nil=>exact absurd rfl h
 | cons a l=>
  show min (iJ (bz.rc a)) (dJ (l.map bz.rc))=1
  have h1:iJ (bz.rc a)=1:=rfl;have:=TB l;omega
theorem Xs (l:List (bz)):fN 15 (l.map bz.rc)=true:=by
 induction l with
 | nil=>rfl
 | cons a l ih=>simp only[List.map_cons,fN,ih];rfl
theorem TD (l:List (bw)):1<=dJ (l.map bw.rc):=by
 induction l with
 | nil=>decide
 | cons a l ih=>
  show 1<=min (iJ (bw.rc a)) (dJ (l.map bw.rc))
  have:iJ (bw.rc a)=1:=rfl;omega
theorem aef {l:List (bw)}(h:l≠[]):dJ (l.map bw.rc)=1:=by
 cases l with
 | nil=>exact absurd rfl h
 | cons a l=>
  show min (iJ (bw.rc a)) (dJ (l.map bw.rc))=1
  have h1:iJ (bw.rc a)=1:=rfl;have:=TD l;omega
theorem Xu (l:List (bw)):fN 15 (l.map bw.rc)=true:=by
 induction l with
 | nil=>rfl
 | cons a l ih=>simp only[List.map_cons,fN,ih];rfl
theorem TC (l:List (dK)):1<=dJ (l.map dK.cs):=by
 induction l with
 | nil=>decide
 | cons a l ih=>
  show 1<=min (iJ (dK.cs a)) (dJ (l.map dK.cs))
  have:iJ (dK.cs a)=1:=rfl;omega
theorem aee {l:List (dK)}(h:l≠[]):dJ (l.map dK.cs)=1:=by
 cases l with
 | nil=>exact absurd rfl h
 | cons a l=>
  show min (iJ (dK.cs a)) (dJ (l.map dK.cs))=1
  have h1:iJ (dK.cs a)=1:=rfl;have:=TC l;omega
theorem Xt (l:List (dK)):fN 16 (l.map dK.cs)=true:=by
 induction l with
 | nil=>rfl
 | cons a l ih=>simp only[List.map_cons,fN,ih];rfl
theorem TE (l:List (List (List AV))):1<=dJ (l.map pg):=by
 induction l with
 | nil=>decide
 | cons a l ih=>
  show 1<=min (iJ (pg a)) (dJ (l.map pg))
  have:iJ (pg a)=1:=rfl;omega
theorem aeg {l:List (List (List AV))}(h:l≠[]):dJ (l.map pg)=1:=by
 cases l with
 | nil=>exact absurd rfl h
 | cons a l=>
  show min (iJ (pg a)) (dJ (l.map pg))=1
  have h1:iJ (pg a)=1:=rfl;have:=TE l;omega
theorem Xv (l:List (List (List AV))):fN 1 (l.map pg)=true:=by
 induction l with
 | nil=>rfl
 | cons a l ih=>simp only[List.map_cons,fN,ih];rfl
theorem ag3 (l:List (bz)) (hl:l.length * 136<=140737488355328):ba Tryz.prog 119 [.ro 15 (l.map bz.rc)] (.aw 0 0 [] 15 0 l.length) [([],⟨15,l.map bz.rc,dJ (l.map bz.rc),false⟩)]:=by
 refine aF Dm false Tryz.f119 ?_;conv=>enter[1];reduce
 refine bu Tryz.f119 14 [.tmp 2] (by kernel_rfl) (by decide +kernel) rfl ?_;have sO:=Xs l;refine au ?_;refine bX (fun h=>?_) (fun h=>?_)
 ·have:l=[]:=by simpa using h
  subst this;exact dy
 have hm:=pA hl (by omega);have bJ:l≠[]:=by rintro rfl;exact absurd h (by decide)
 have jY:=aed bJ;have jz:((136:Nat):Int) * (l.length:Int)<=281474976710656/\(l.length:Int)<=9223372036854775807:=by unfold maxLen at hm;omega
 rw[jY];exact Ek h jz sO jY
theorem ag2 (l:List (bw)) (hl:l.length * 136<=140737488355328):ba Tryz.prog 121 [.ro 15 (l.map bw.rc)] (.aw 0 0 [] 15 0 l.length) [([],⟨15,l.map bw.rc,dJ (l.map bw.rc),false⟩)]:=by
 refine aF Dm false Tryz.f121 ?_;conv=>enter[1];reduce
 refine bu Tryz.f121 14 [.tmp 2] (by kernel_rfl) (by decide +kernel) rfl ?_;have sO:=Xu l;refine au ?_;refine bX (fun h=>?_) (fun h=>?_)
 ·have:l=[]:=by simpa using h
  subst this;exact dy
 have hm:=pA hl (by omega);have bJ:l≠[]:=by rintro rfl;exact absurd h (by decide)
 have jY:=aef bJ;have jz:((136:Nat):Int) * (l.length:Int)<=281474976710656/\(l.length:Int)<=9223372036854775807:=by unfold maxLen at hm;omega
 rw[jY];exact Ek h jz sO jY
theorem afI (l:List (dK)) (hl:l.length * 144<=140737488355328):ba Tryz.prog 89 [.ro 16 (l.map dK.cs)] (.aw 0 0 [] 16 0 l.length) [([],⟨16,l.map dK.cs,dJ (l.map dK.cs),false⟩)]:=by
 refine aF Dm false Tryz.f89 ?_;conv=>enter[1];reduce
 refine bu Tryz.f89 14 [.tmp 2] (by kernel_rfl) (by decide +kernel) rfl ?_;have sO:=Xt l;refine au ?_;refine bX (fun h=>?_) (fun h=>?_)
 ·have:l=[]:=by simpa using h
  subst this;exact dy
 have hm:=pA hl (by omega);have bJ:l≠[]:=by rintro rfl;exact absurd h (by decide)
 have jY:=aee bJ;have jz:((144:Nat):Int) * (l.length:Int)<=281474976710656/\(l.length:Int)<=9223372036854775807:=by unfold maxLen at hm;omega
 rw[jY];exact Ek h jz sO jY
theorem ag0 (l:List (List (List AV))) (hl:l.length * 24<=140737488355328):ba Tryz.prog 125 [.ro 1 (l.map pg)] (.aw 0 0 [] 1 0 l.length) [([],⟨1,l.map pg,dJ (l.map pg),false⟩)]:=by
 refine aF Dm false Tryz.f125 ?_;conv=>enter[1];reduce
 refine bu Tryz.f125 14 [.tmp 2] (by kernel_rfl) (by decide +kernel) rfl ?_;have sO:=Xv l;refine au ?_;refine bX (fun h=>?_) (fun h=>?_)
 ·have:l=[]:=by simpa using h
  subst this;exact dy
 have hm:=pA hl (by omega);have bJ:l≠[]:=by rintro rfl;exact absurd h (by decide)
 have jY:=aeg bJ;have jz:((24:Nat):Int) * (l.length:Int)<=281474976710656/\(l.length:Int)<=9223372036854775807:=by unfold maxLen at hm;omega
 rw[jY];exact Ek h jz sO jY
theorem ahw (l:List Bool):fN 1 (l.map dw)=true:=by
 induction l with
 | nil=>rfl
 | cons a l ih=>simp only[List.map_cons,fN,ih,dw];rfl
theorem ahx (l:List Bool):dJ (l.map dw)=2:=by
 induction l with
 | nil=>rfl
 | cons a l ih=>simp only[List.map_cons,dJ,ih,dw];rfl
attribute [go_sem] ahw ahx
theorem ag1 (l:List Bool) (hl:l.length * 1<=140737488355328):ba Tryz.prog 124 [.ro 1 (l.map dw)] (.aw 0 0 [] 1 0 l.length) [([],⟨1,l.map dw,2,false⟩)]:=by
 refine aF Dm false Tryz.f124 ?_;conv=>enter[1];reduce
 refine bu Tryz.f124 14 [.tmp 2] (by kernel_rfl) (by decide +kernel) rfl ?_;refine au ?_;refine bX (fun h=>?_) (fun h=>?_)
 ·have:l=[]:=by simpa using h
  subst this;exact dy
 have hm:=pA hl (by omega);have jz:((1:Nat):Int) * (l.length:Int)<=281474976710656/\(l.length:Int)<=9223372036854775807:=by unfold maxLen at hm;omega
 exact uO h jz
theorem Ht {P:Program}{n sz fl:Nat}{es:List (List AV)}(fK:1<=fl) (h:ba P n [.ro sz es] (.aw 0 0 [] sz 0 es.length) [([],⟨sz,es,fl,false⟩)]):aY P n [] [.ro sz es] (.ro sz es) []:=by
 have hf:∃σ,jZ (l5 [([],⟨sz,es,fl,false⟩)]) (.aw 0 0 [] sz 0 es.length)=some (σ,.ro sz es):=by
  have h:(jZ (l5 [([],⟨sz,es,fl,false⟩)]) (.aw 0 0 [] sz 0 es.length)).map (fun x=>x.2)=some (.ro sz es):=by
   simp -implicitDefEqProofs only[go_sem,jZ,l5,mQ,sub,decide_eq_true fK]
  obtain⟨⟨σ,v⟩,h1,h2⟩:=cP h;cases h2;exact⟨σ,h1⟩
 obtain⟨σ,hf⟩:=hf;exact h.val rfl hf
end
end Go.Proofs.YtobpfkgabdeefaaGreat.E
