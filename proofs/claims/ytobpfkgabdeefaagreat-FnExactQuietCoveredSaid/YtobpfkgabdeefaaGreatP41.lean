/- Boxes: all of them frozen; nil slices told as empty boxes; Contracts: a new world, in the reference -/
import Derived.Test.YtobpfkgabdeefaaGreatP34
import Derived.Test.YtobpfkgabdeefaaGreatP22
import Derived.Test.YtobpfkgabdeefaaGreatP40
namespace Go.Proofs.YtobpfkgabdeefaaGreat.E
open Go Go.RowKit
set_option linter.unusedVariables false
set_option linter.unusedSimpArgs false
def mP (r g sz:Nat) (bs:List (List (List AV))) (i:Nat):dZ:=fun p=>match p with
 | []=>some ⟨1,(bs.take i).map (fun b=>[AV.ro sz b])++(fS r g sz bs).drop i,0,false⟩
 | [j]=>(bs[j]?).map fun b=>⟨sz,b,2,decide (j<i)⟩
 | _=>none
theorem ahb {r g sz:Nat}{bs:List (List (List AV))}:mP r g sz bs 0=ij r g sz bs:=by
 funext p;cases p with
 | nil=>rfl
 | cons j p=>
  cases p with
  | nil=>
   show(bs[j]?).map _=(bs[j]?).map _
   cases bs[j]? with
   | none=>rfl
   | some b=>rfl
  | cons=>rfl
theorem bp.aha {rd:RD}{φ:b9}{O:Nat→Prop}{w0 w:World}{σ:aj}{B g sz i:Nat}{bs:List (List (List AV))}(h:bp rd φ O w0 (bQ σ B (g,mP B g sz bs i)) w) (hi:i<bs.length):
  ∃rd',Ext O w0 rd rd'∧bp rd' φ O w0 (bQ σ B (g,mP B g sz bs (i+1))) w:=by
 have hl:bI (bQ σ B (g,mP B g sz bs i)) B=some (g,mP B g sz bs i):=by rw[zK,if_pos rfl]
 have LG:bs[i]?=some bs[i]:=bz hi;have hlen:((bs.take i).map (fun b=>[AV.ro sz b])).length=i:=by rw[List.length_map,List.length_take];omega
 have he:((bs.take i).map (fun b=>[AV.ro sz b])++(fS B g sz bs).drop i)[i]?=some [.au B g [i] sz 0 bs[i].length]:=by
  rw[List.getElem?_append_right (by rw[hlen];exact Nat.le_refl _),hlen,Nat.sub_self,List.getElem?_drop,Nat.add_zero,pI,LG];rfl
 have fo:mP B g sz bs i [i]=some ⟨sz,bs[i],2,false⟩:=by
  show(bs[i]?).map _=_
  rw[LG];simp
 have su:sub 0 bs[i].length bs[i]=bs[i]:=by unfold sub;simp
 have hx:E.rj B g [] i 0 (.au B g [i] sz 0 bs[i].length) (bQ σ B (g,mP B g sz bs i))=
   some (bQ (bQ (bQ σ B (g,mP B g sz bs i)) B (g,dB (mP B g sz bs i) [i] ⟨sz,bs[i],2,true⟩)) B (g,dB (dB (mP B g sz bs i) [i] ⟨sz,bs[i],2,true⟩) [] ⟨1,((bs.take i).map (fun b=>[AV.ro sz b])++(fS B g sz bs).drop i).set i [.ro sz bs[i]],0,false⟩)):=by
  unfold E.rj;have h1:rk (bQ σ B (g,mP B g sz bs i)) (.au B g [i] sz 0 bs[i].length)=some (bQ (bQ σ B (g,mP B g sz bs i)) B (g,dB (mP B g sz bs i) [i] ⟨sz,bs[i],2,true⟩),.ro sz bs[i]):=by
   unfold rk;simp only[hl,Option.bind_some,Nat.beq_refl,fo,Nat.ble,Nat.zero_add,kQ,Nat.le_refl,if_true,su];simp[Nat.ble_eq_true_of_le (Nat.le_refl bs[i].length)]
  rw[h1];simp only[Option.bind_some];unfold G3;rw[zK,if_pos rfl];have h0:dB (mP B g sz bs i) [i] ⟨sz,bs[i],2,true⟩ []=some ⟨1,(bs.take i).map (fun b=>[AV.ro sz b])++(fS B g sz bs).drop i,0,false⟩:=by
   unfold dB;rw[if_neg (by simp)];rfl
  simp only[Option.bind_some,Nat.beq_refl,h0,he,Option.map_some,List.set_cons_zero]
 obtain⟨d9,x1,h1⟩:=h.rj hl (p:=[]) (i:=i) (j:=0) rfl he rfl hx;refine⟨d9,x1,h1.less fun r g2 p row hr=>?_⟩;rw[jy]at hr ⊢;by_cases hB:r=B
 ·rw[if_pos hB]at hr ⊢;by_cases hg:g=g2
  ·rw[if_pos hg]at hr ⊢
   match p,hr with
   | [],hr=>
    rw[←hr];show dB _ _ _ _=_
    unfold dB;rw[if_pos rfl];show some _=some _
    congr 2;rw[List.set_append,if_neg (by rw[hlen];exact Nat.lt_irrefl _),hlen,Nat.sub_self,List.take_succ_eq_append_getElem hi,List.map_append,List.append_assoc];congr 1;rw[List.drop_eq_getElem_cons (by rw[rE];exact hi),List.set_cons_zero];rfl
   | [j],hr=>
    unfold dB;rw[if_neg (by simp)];by_cases hj:j=i
    ·subst hj;rw[if_pos rfl];have hr:(bs[j]?).map _=some row:=hr;rw[LG]at hr;rw[←hr];simp
    rw[if_neg (by simpa using hj)];have hr:(bs[j]?).map _=some row:=hr;rw[←hr];show(bs[j]?).map _=_
    cases bs[j]? with
    | none=>rfl
    | some b=>
     have:decide (j<i)=decide (j<i+1):=by rw[decide_eq_decide];omega
     simp[this]
   | _::_::_,hr=>cases hr
  rw[if_neg hg]at hr;cases hr
 rw[if_neg hB]at hr ⊢;rw[jy,if_neg hB,jy,if_neg hB];exact hr
def Nn (sz:Nat) (bs:List (List (List AV))):Row:=⟨1,bs.map fun b=>[AV.ro sz b],1,false⟩
theorem bp.ahc {rd:RD}{φ:b9}{O:Nat→Prop}{w0 w:World}{σ:aj}{B g sz:Nat}{bs:List (List (List AV))}(h:bp rd φ O w0 (bQ σ B (g,mP B g sz bs 0)) w):
  ∀i,i≤bs.length→∃rd',Ext O w0 rd rd'∧bp rd' φ O w0 (bQ σ B (g,mP B g sz bs i)) w:=by
 intro i;induction i with
 | zero=>intro _;exact⟨rd,.refl,h⟩
 | succ i ih=>
  intro hi;obtain⟨d9,x1,h1⟩:=ih (by omega);obtain⟨dO,x2,h2⟩:=h1.aha (by omega);exact⟨dO,x1.trans x2,h2⟩
theorem aI.Tr {n G:Nat}{tm:List (Nat × AV)}{σ:aj}{B g sz:Nat}{bs:List (List (List AV))}(hl:bI σ B=some (g,ij B g sz bs)):aI ⟨n,tm,σ,G⟩ ⟨n,tm,bQ σ B (g,one (Nn sz bs)),G⟩:=by
 intro rd O w0 a w ⟨rd',φ,hx,h⟩;have h0:bp rd' φ O w0 (bQ σ B (g,mP B g sz bs 0)) w:=h.heap.less fun r g2 p row hr=>by
  rw[jy,ahb]at hr;by_cases hB:r=B
  ·rw[if_pos hB]at hr;unfold rowAt;subst hB;rw[hl];exact hr
  rw[if_neg hB]at hr;exact hr
 obtain⟨d9,x1,h1⟩:=h0.ahc bs.length (Nat.le_refl _);have h2:bp d9 φ O w0 (bQ σ B (g,one ⟨1,bs.map (fun b=>[AV.ro sz b]),0,false⟩)) w:=h1.less fun r g2 p row hr=>by
  rw[jy]at hr ⊢;by_cases hB:r=B
  ·rw[if_pos hB]at hr ⊢;by_cases hg:g=g2
   ·rw[if_pos hg]at hr ⊢;obtain⟨rfl,rfl⟩:=pY hr;show some _=some _
    rw[List.take_length,List.drop_of_length_le (by rw[rE];exact Nat.le_refl _),List.append_nil]
   rw[if_neg hg]at hr;cases hr
  rw[if_neg hB]at hr ⊢;exact hr
 have h3:E.sM (bQ σ B (g,one ⟨1,bs.map (fun b=>[AV.ro sz b]),0,false⟩)) B=some (bQ (bQ σ B (g,one ⟨1,bs.map (fun b=>[AV.ro sz b]),0,false⟩)) B (g,dB (one ⟨1,bs.map (fun b=>[AV.ro sz b]),0,false⟩) [] ⟨1,bs.map (fun b=>[AV.ro sz b]),1,false⟩)):=by
  unfold E.sM;rw[zK,if_pos rfl];have ha:((bs.map fun b=>[AV.ro sz b]).all fun e=>e.all gE)=true:=by
   rw[List.all_eq_true];intro e he;obtain⟨b,-,rfl⟩:=List.mem_map.1 he;rfl
  simp only[Option.bind_some,one,ha];try rfl
 have h4:=h2.sM h3;refine⟨d9,φ,⟨hx.1.trans x1,hx.2⟩,⟨h4.less fun r g2 p row hr=>?_,fun t v hv=>(h.tm t v hv).mono x1.1 (fun _ _ _ _ h=>h),h.size,h.defers,h.gen⟩⟩;rw[jy]at hr ⊢;by_cases hB:r=B
 ·rw[if_pos hB]at hr ⊢;by_cases hg:g=g2
  ·rw[if_pos hg]at hr ⊢;obtain⟨rfl,rfl⟩:=pY hr;simp[dB,Nn]
  rw[if_neg hg]at hr;cases hr
 rw[if_neg hB]at hr ⊢;rw[jy,if_neg hB];exact hr
def tD (B:Nat):AV→Bool
 | .au r _ p _ _ _|.ptr r _ p _ _ _|.mr r _ p=>!(r==B&&!(p==[]))
 | .agg _|.ba _=>false
 | _=>true
def BN (B:Nat):AV→Bool
 | .agg cs|.ba cs=>cs.all (tD B)
 | v=>tD B v
def Fu (B:Nat) (row:Row):Bool:=match Nat.ble 1 row.fl with
 | true=>true
 | false=>row.es.all fun e=>e.all (tD B)
theorem aL.tD {rd:RD}{φ φ':b9}{B:Nat}(hφ:∀r g p,¬(r=B∧p≠[])→φ' r g p=φ r g p) {c:AV}{v:Value}(h:aL rd φ c v) (ho:E.tD B c=true):aL rd φ' c v:=by
 have key:∀{r:Nat} {p:List Nat},(!(r==B&&!(p==[])))=true→¬(r=B∧p≠[]):=by
  intro r p hk hh;have h2:=hh.2;simp only[Bool.not_eq_true',Bool.and_eq_false_iff,Bool.not_eq_false',beq_iff_eq]at hk;rcases hk with hk|hk
  ·simp[hh.1]at hk
  exact h2 hk
 cases h with
 | au r g p sz off len pl A h1 hA hl=>exact .au r g p sz off len pl A (by rw[hφ r g p (key ho)];exact h1) hA hl
 | ptr r g p sz i o pl b q h1 aK=>exact .ptr r g p sz i o pl b q (by rw[hφ r g p (key ho)];exact h1) aK
 | mr r g p pl b h1 aK=>exact .mr r g p pl b (by rw[hφ r g p (key ho)];exact h1) aK
 | dead v=>exact .dead v
 | sc v h=>exact .sc v h
 | aG=>exact .aG
 | ir sz A cap=>exact .ir sz A cap
 | ro sz es b q cap f hc hs hr hv=>exact(aL.ro sz es b q cap f hc hs hr hv).lT rfl
 | rp cs b q f hs hr hv=>exact(aL.rp cs b q f hs hr hv).lT rfl
 | agg=>cases ho
 | ba=>cases ho
 | it r=>exact .it r
theorem aL.BN {rd:RD}{φ φ':b9}{B:Nat}(hφ:∀r g p,¬(r=B∧p≠[])→φ' r g p=φ r g p) {c:AV}{v:Value}(h:aL rd φ c v) (ho:E.BN B c=true):aL rd φ' c v:=by
 cases c with
 | agg cs=>
  cases h with
  | agg _ arr f hs hg hv=>exact .agg cs arr f hs hg fun j c hc=>(hv j c hc).tD hφ (List.all_eq_true.1 ho c (dh hc))
 | ba cs=>
  cases h with
  | ba _ arr f hs hg hv=>exact .ba cs arr f hs hg fun j c hc=>(hv j c hc).tD hφ (List.all_eq_true.1 ho c (dh hc))
 | _=>exact h.tD hφ ho
def Ft (B:Nat):List (Nat × AV)→Bool
 | []=>true
 | x::l=>E.BN B x.2&&Ft B l
theorem QC {B:Nat}:∀{tm:List (Nat × AV)}{t:Nat}{v:AV},Ft B tm=true→bI tm t=some v→E.BN B v=true
 | [],_,_,_,h=>by cases h
 | (k,u)::l,t,v,ho,h=>by
  simp only[Ft,Bool.and_eq_true]at ho;simp only[gx]at h;split at h
  ·cases h;exact ho.1
  exact QC ho.2 h
def JH (B:Nat):aj→Prop
 | []=>True
 | (k,_,f)::l=>(k=B∨∃row,f=one row∧Fu B row=true)∧JH B l
theorem QD {B:Nat}:∀{σ:aj}{k g:Nat}{f:dZ},JH B σ→bI σ k=some (g,f)→k=B∨∃row,f=one row∧Fu B row=true
 | [],_,_,_,_,h=>by cases h
 | (k0,g0,f0)::l,k,g,f,ho,h=>by
  simp only[gx]at h;split at h
  ·rename_i e;cases h;subst e;exact ho.1
  exact QD ho.2 h
theorem aI.V2 {n G:Nat}{tm:List (Nat × AV)}{σ:aj}{B g sz m fl:Nat}(hB:B<1000000) (hl:bI σ B=some (g,one ⟨1,List.replicate m [.aG],fl,false⟩)) (nO:Ft B tm=true) (hσ:JH B σ):
  aI ⟨n,tm,σ,G⟩ ⟨n,tm,bQ σ B (g,ij B g sz (List.replicate m [])),G⟩:=by
 intro rd O w0 a w ⟨rd',φ,hx,h⟩;have hb:=h.heap;have oZ:rowAt σ B g []=some ⟨1,List.replicate m [.aG],fl,false⟩:=by unfold rowAt;rw[hl];simp[one]
 obtain⟨uO,qh,mX⟩:=hb.rows _ _ _ _ oZ
 let φ':b9:=fun r gg p=>if r=B∧gg=g∧p≠[] then some ⟨none,0⟩ else φ r gg p
 have fj:∀r gg p,¬(r=B∧p≠[])→φ' r gg p=φ r gg p:=fun r gg p hn=>by
  show(if r=B∧gg=g∧p≠[] then some ⟨none,0⟩ else φ r gg p)=φ r gg p
  rw[if_neg (fun hh=>hn ⟨hh.1,hh.2.2⟩)]
 have qX:∀i,φ' B g [i]=some ⟨none,0⟩:=fun i=>by
  show(if B=B∧g=g∧[i]≠[] then some ⟨none,0⟩ else φ B g [i])=some ⟨none,0⟩
  rw[if_pos ⟨rfl,rfl,by simp⟩]
 have ch:∀{r gg p row},rowAt (bQ σ B (g,ij B g sz (List.replicate m []))) r gg p=some row→
   (r=B∧gg=g∧p=[]∧row=⟨1,fS B g sz (List.replicate m []),0,false⟩)∨(r=B∧gg=g∧(∃j,p=[j])∧row=⟨sz,[],2,false⟩)∨
   (r≠B∧p=[]∧rowAt σ r gg p=some row∧Fu B row=true):=by
  intro r gg p row hr;rw[jy]at hr;by_cases mC:r=B
  ·rw[if_pos mC]at hr;by_cases hg:g=gg
   ·rw[if_pos hg]at hr;subst mC hg
    match p,hr with
    | [],hr=>exact .inl ⟨rfl,rfl,rfl,(Option.some.inj hr).symm⟩
    | [j],hr=>
     rw[yF]at hr;obtain⟨b,j5,rfl⟩:=cJ hr;have:b=[]:=(List.mem_replicate.1 (dh j5)).2;subst this;exact .inr (.inl ⟨rfl,rfl,⟨j,rfl⟩,rfl⟩)
    | _::_::_,hr=>cases hr
   rw[if_neg hg]at hr;cases hr
  rw[if_neg mC]at hr;unfold rowAt at hr;split at hr
  ·rename_i gk fk hk;split at hr
   ·rename_i hg;subst hg;rcases QD hσ hk with e|⟨kZ,rfl,ho⟩
    ·exact absurd e mC
    obtain⟨rfl,rfl⟩:=pY hr;exact .inr (.inr ⟨mC,rfl,by unfold rowAt;rw[hk];simp[one],ho⟩)
   cases hr
  cases hr
 have hold:∀{r gg p row pl b q},rowAt (bQ σ B (g,ij B g sz (List.replicate m []))) r gg p=some row→φ' r gg p=some pl→pl.ad=some (b,q)→
   ∃bD,rowAt σ r gg p=some bD∧φ r gg p=some pl∧(bD.ao=false∨bD=row):=by
  intro r gg p row pl b q hr hp aK;rcases ch hr with ⟨rfl,rfl,rfl,rfl⟩|⟨rfl,rfl,⟨j,rfl⟩,rfl⟩|⟨bO,rfl,fQ,-⟩
  ·rw[fj _ _ _ (by simp)]at hp;exact⟨_,oZ,hp,.inl rfl⟩
  ·rw[qX]at hp;cases hp;cases aK
  rw[fj _ _ _ (by simp)]at hp;exact⟨_,fQ,hp,.inr rfl⟩
 refine⟨rd',φ',⟨hx.1,fun r p pl e hr=>?_⟩,⟨?_,?_,hb.eh,?_,?_,hb.frame,hb.size,hb.os,hb.tape,hb.output⟩,fun t v hv=>(h.tm t v hv).BN fj (QC nO hv),h.size,h.defers,fun r gg p hp=>?_⟩
 ·rw[fj _ _ _ (by rintro⟨rfl,-⟩;omega)];exact hx.2 r p pl e hr
 ·intro r gg p row hr;rcases ch hr with ⟨rfl,rfl,rfl,rfl⟩|⟨rfl,rfl,⟨j,rfl⟩,rfl⟩|⟨bO,rfl,fQ,ho⟩
  ·refine⟨uO,by rw[fj _ _ _ (by simp)];exact qh,fun e he=>?_,?_,fun e he=>⟨fun hh=>absurd hh (by simp),fun hh=>absurd hh (by simp)⟩,mX.nil,mX.room,fun b q aK i j c aU=>?_,fun ha=>(by cases ha),lj (by show(0:Nat)<3;decide)⟩
   ·obtain⟨k,hk⟩:=List.getElem?_of_mem he;rw[pI]at hk;obtain⟨y,-,rfl⟩:=cJ hk;rfl
   ·have:=mX.len;simp only[List.length_replicate,rE]at this ⊢;exact this
   have aU:((fS r gg sz (List.replicate m []))[i]?).bind (·[j]?)=some c:=aU;rw[pI]at aU;by_cases hi:i<m
   ·rw[List.getElem?_replicate,if_pos hi]at aU;simp only[Option.map_some,Option.bind_some]at aU;cases j with
    | succ j=>simp at aU
    | zero=>
     simp only[List.getElem?_cons_zero,Option.some.injEq]at aU;subst aU;obtain⟨v,h1,h2⟩:=mX.cells b q aK i 0 .aG (by show((List.replicate m [AV.aG])[i]?).bind _=_;rw[List.getElem?_replicate,if_pos hi];rfl);refine⟨v,h1,?_⟩;cases h2;exact .au r gg [i] sz 0 0 ⟨none,0⟩ none (qX i) (.inl rfl) (Nat.le_refl _)
   rw[List.getElem?_replicate,if_neg hi]at aU;cases aU
  ·exact⟨⟨none,0⟩,qX j,fun e he=>(by cases he),aQ _,fun e he=>(by cases he),fun _=>rfl,fun b q h=>(by cases h),fun b q h=>(by cases h),fun ha=>(by cases ha),lj (by show(2:Nat)<3;decide)⟩
  obtain⟨pl,h1,h2⟩:=hb.rows _ _ _ _ fQ;refine⟨pl,by rw[fj _ _ _ (by simp)];exact h1,?_⟩;refine⟨h2.wide,h2.len,h2.kind,h2.nil,h2.room,fun b q aK k j c' aU=>?_,h2.ic,h2.mp⟩;obtain⟨v,h3,h4⟩:=h2.cells b q aK k j c' aU;refine⟨v,h3,?_⟩;cases he:row.es[k]? with
  | none=>rw[he]at aU;cases aU
  | some e=>
   rw[he]at aU;unfold Fu at ho;split at ho
   ·rename_i fA;refine h4.lT ?_;have:=(h2.kind e (dh he)).1 (Nat.le_of_ble_eq_true fA) c' (dh aU);cases c'<;>first|rfl|cases this
   exact h4.tD fj (List.all_eq_true.1 (List.all_eq_true.1 ho e (dh he)) c' (dh aU))
 ·intro r1 g1 p1 fg r2 g2 p2 bD iZ cX b q1 q2 e1 e2 e3 e4 e5 e6;obtain⟨x1,m1,m2,-⟩:=hold e1 e3 e5;obtain⟨x2,n1,n2,-⟩:=hold e2 e4 e6;exact hb.sep _ _ _ _ _ _ _ _ _ _ _ _ _ m1 n1 m2 n2 e5 e6
 ·intro r gg p row pl b q e1 e2 e3 k dD;obtain⟨x1,m1,m2,m3⟩:=hold e1 e2 e3;rcases m3 with m3|rfl
  ·exact hb.et _ _ _ _ _ _ _ m1 m2 e3 k (.inl m3)
  exact hb.et _ _ _ _ _ _ _ m1 m2 e3 k dD
 ·intro r gg p row pl b q e1 e2 e3;obtain⟨x1,m1,m2,-⟩:=hold e1 e2 e3;exact hb.own _ _ _ _ _ _ _ m1 m2 e3
 have hp:(if r=B∧gg=g∧p≠[] then some ⟨none,0⟩ else φ r gg p)≠none:=hp;split at hp
 ·rename_i e;obtain⟨rfl,rfl,-⟩:=e;exact h.gen r gg [] (by rw[qh];simp)
 exact h.gen r gg p hp
section
set_option maxHeartbeats 4000000
set_option maxRecDepth 10000
set_option linter.unusedSectionVars false
def aeC:bX:=⟨[],[9,10,11],[24,26,30,44,47,50,51,52,57,58,59,62,76,88,138,185,186,187,253,254,297,311],false⟩
attribute [-go_sem] ei
def u0:AV:=.sc (.int .u64 0)
def AT:List AV:=[u0,u0,u0,u0,u0,u0,u0,u0,u0,u0,u0,u0,u0,u0,.aG]
def BV (s:cK):List AV:=[vI s.eK,vI s.many,vI 0,vI 0,vI 0,u0,u0,u0,u0,.aG,vI 0,u0,u0,u0,u0]
def mZ (c:List AV):List AV:=c++[.aG,vI 0,u0,u0,u0,u0]
def BU (s:cK) (W C:AV) (cD:List AV) (U B:AV):List AV:=[vI s.many,vI s.eK,vI s.bB,vI s.room,vI s.inbox,.aG,W,C]++(cD++[U,B,vI s.room,.aG,.aG,vB false])
attribute [go_sem] u0 AT BV mZ BU
theorem ET {b n:Nat}(h:n≤1000) (hb:b≤1000):n+1≤maxLen∧(n+1) * b≤140737488355328:=by
 have h2:=Nat.mul_le_mul (show n+1≤1001 by omega) hb;unfold maxLen;exact⟨by omega,by omega⟩
theorem EU {α β:Type}(n:Nat) (a:α) (f:α→β):(List.replicate n a).map f=List.replicate n (f a):=List.map_replicate
theorem gM.rep {e e':List AV}(h:kC e e'):∀n,gM (List.replicate n e) (List.replicate n e')
 | 0=>.nil
 | n+1=>.cons h (gM.rep h n)
def JV (s:cK) (i j N:Nat):List AV:=[vI s.many,vI s.eK,vI s.bB,vI s.room,vI s.inbox,.ro 1 [],.au 10002 0 [] 15 0 i,.au 20002 0 [] 15 0 j]++((dP s).cs (.ro 1 [])++([.ro 1 []]++bh.zero.cs++[.au 30002 0 [] 1 0 N,.au 40002 0 [] 1 0 N,vI s.room,.ro 3 [],.au 50002 0 [] 16 0 0,vB false]))
theorem afq (s:cK) (h:fv s=true):bb Tryz.prog 79 [] [.agg s.cs] (vA (gU s) 0) (eJ (gU s)):=by
 refine aA aeC false Tryz.f79 ?_;conv=>enter[1];reduce
 refine qV Tryz.f79 67 [.cell 2 64] (by kernel_rfl) (by decide +kernel) rfl rfl ?_;have hs:=d7 h;obtain⟨M,hM⟩:∃M:Nat,s.many=(M:Int):=⟨s.many.toNat,by omega⟩;obtain⟨C,hC⟩:∃C:Nat,s.bB=(C:Int):=⟨s.bB.toNat,by omega⟩;refine aw ?_;refine iN (fun m z=>∃(i:Nat),i≤M∧m=M - i∧z=⟨67,[(1,.ptr 1 0 [] 5 0 0),(2,.ptr 2 0 [] 35 0 0),(3,.ptr 3 0 [] 35 0 0),(4,vI i)],[(1,0,one ⟨5,[s.cs],0,false⟩),(2,0,one ⟨35,[jL],0,false⟩),(3,0,one ⟨35,[BU s (.au 10003 0 [] 15 0 i) .aG (mZ wh) .aG .aG],0,false⟩),(10003,0,one ⟨15,List.replicate i AT,2,false⟩)],1⟩) M (cO.step (aI.gQ [(7003,15)] _) ?_) ?_
 ·refine aw ?_;refine cO.intro (aI.dm [] [1,2,3,4] _) ?_;refine aw ?_;exact⟨0,aQ _,rfl,rfl⟩
 rintro m z ⟨i,hi,rfl,rfl⟩;rcases bm i M with ab|bH
 ·have ae:(i:Int)<s.many:=by omega
  have hw:IntKind.i64.wrap ((i:Int)+1)=((i+1:Nat):Int):=by rw[aV (by omega)];omega
  have ej:=ET (b:=136) (n:=i) (by omega) (by omega);have Cp:∀x:List AV,List.replicate i x++[x]=List.replicate (i+1) x:=fun x=>(List.replicate_succ' ..).symm
  simp -implicitDefEqProofs only[go_sem,ae,hw,ej,List.length_replicate,Cp];refine fh.intro (M - (i+1)) (by omega) (aI.dm [] [1,2,3,4] _) ?_;refine aw ?_;exact⟨i+1,ab,rfl,rfl⟩
 have hi:i=M:=by omega
 subst hi;have ae:¬((i:Int)<s.many):=by omega
 refine aC ae ?_;refine iN (fun m z=>∃(j:Nat),j≤C∧m=C - j∧z=⟨67,[(1,.ptr 1 0 [] 5 0 0),(2,.ptr 2 0 [] 35 0 0),(3,.ptr 3 0 [] 35 0 0),(5,.ptr 5 0 [] 15 0 0),(6,vI j)],[(1,0,one ⟨5,[s.cs],0,false⟩),(2,0,one ⟨35,[jL],0,false⟩),(3,0,one ⟨35,[BU s (.au 10003 0 [] 15 0 i) (.au 20003 0 [] 15 0 j) (mZ wh) .aG .aG],0,false⟩),(10003,0,one ⟨15,List.replicate i AT,2,false⟩),(20003,0,one ⟨15,List.replicate j (BV s),2,false⟩),(5,0,one ⟨15,[BV s],0,false⟩)],1⟩) C (cO.step (aI.gQ [(8003,15)] _) ?_) ?_
 ·refine aw ?_;refine cO.intro (aI.dm [] [1,2,3,5,6] _) ?_;refine aw ?_;exact⟨0,aQ _,rfl,rfl⟩
 rintro m z ⟨j,hj,rfl,rfl⟩;rcases bm j C with ab|bH
 ·have ae:(j:Int)<s.bB:=by omega
  have hw:IntKind.i64.wrap ((j:Int)+1)=((j+1:Nat):Int):=by rw[aV (by omega)];omega
  have ej:=ET (b:=136) (n:=j) (by omega) (by omega);have Cp:∀x:List AV,List.replicate j x++[x]=List.replicate (j+1) x:=fun x=>(List.replicate_succ' ..).symm
  simp -implicitDefEqProofs only[go_sem,ae,hw,ej,List.length_replicate,Cp];refine fh.intro (C - (j+1)) (by omega) (aI.dm [] [1,2,3,5,6] _) ?_;refine aw ?_;exact⟨j+1,ab,rfl,rfl⟩
 have hj:j=C:=by omega
 subst hj;have ae:¬((j:Int)<s.bB):=by omega
 obtain⟨N,hN⟩:∃N:Nat,N=i+j+2:=⟨_,rfl⟩;have z2:IntKind.i64.wrap (s.many+s.bB)=s.many+s.bB:=aV (by omega);have z3:IntKind.i64.wrap (s.many+s.bB+1)=s.many+s.bB+1:=aV (by omega);refine aC ae ?_;refine iN (fun m z=>∃(k:Nat),k≤N∧m=N - k∧z=⟨67,[(1,.ptr 1 0 [] 5 0 0),(2,.ptr 2 0 [] 35 0 0),(3,.ptr 3 0 [] 35 0 0),(7,vI k)],[(1,0,one ⟨5,[s.cs],0,false⟩),(2,0,one ⟨35,[jL],0,false⟩),(3,0,one ⟨35,[BU s (.au 10003 0 [] 15 0 i) (.au 20003 0 [] 15 0 j) (mZ (BV s)) (.au 30003 0 [] 1 0 k) (.au 40003 0 [] 1 0 k)],0,false⟩),(10003,0,one ⟨15,List.replicate i AT,2,false⟩),(20003,0,one ⟨15,List.replicate j (BV s),2,false⟩),(30003,0,one ⟨1,List.replicate k [vB true],2,false⟩),(40003,0,one ⟨1,List.replicate k [.aG],2,false⟩)],1⟩) N (cO.step (aI.gQ [(30003,1),(31003,1)] _) ?_) ?_
 ·refine aw ?_;refine cO.intro (aI.dm [] [1,2,3,7] _) ?_;refine aw ?_;exact⟨0,aQ _,rfl,rfl⟩
 rintro m z ⟨k,hk,rfl,rfl⟩;rcases bm k N with ab|bH
 ·have ae:(k:Int)≤s.many+s.bB+1:=by omega
  have hw:IntKind.i64.wrap ((k:Int)+1)=((k+1:Nat):Int):=by rw[aV (by omega)];omega
  have ej:=ET (b:=1) (n:=k) (by omega) (by omega);have adr:=ET (b:=24) (n:=k) (by omega) (by omega);rw[Nat.mul_one]at ej;have Cp:∀x:List AV,List.replicate k x++[x]=List.replicate (k+1) x:=fun x=>(List.replicate_succ' ..).symm
  simp -implicitDefEqProofs only[go_sem,ae,hw,z2,z3,ej,adr,Nat.mul_one,List.length_replicate,Cp];refine fh.intro (N - (k+1)) (by omega) (aI.dm [] [1,2,3,7] _) ?_;refine aw ?_;exact⟨k+1,ab,rfl,rfl⟩
 have hk:k=N:=by omega
 cases hk;have ae:¬((N:Int)≤s.many+s.bB+1):=by omega
 refine ez ae z2 z3 ?_;refine dK.step (aI.gQ [(34002,16)] _) ?_;refine aw ?_;refine dK.step (aI.dm [] [2] _) ?_;refine aw ?_;refine dK.step (aI.pO (r:=10002) (List.replicate i (cF.aH.cs++[.ro 7 []])) 1 (by decide) (by decide) rfl (gM.rep (by
  unfold cF pN;simp -implicitDefEqProofs only[go_sem]
  repeat' first
   | exact .nil
   | refine .cons mU ?_
   | refine .cons mV ?_) _)) ?_
 refine dK.step (aI.pO (r:=20002) (List.replicate j ((dP s).cs (.ro 1 []))) 1 (by decide) (by decide) rfl (gM.rep (by
  unfold dP;simp -implicitDefEqProofs only[go_sem]
  repeat' first
   | exact .nil
   | refine .cons mU ?_
   | refine .cons mV ?_) _)) ?_
 refine dK.step (aI.pO (r:=50002) [] 1 (by decide) (by decide) rfl .nil) ?_;refine aw ?_;refine dK.step (aI.V2 (B:=40002) (sz:=3) (by decide) rfl rfl (by repeat' first|exact trivial|refine And.intro (.inl rfl) ?_|refine And.intro (.inr ⟨_,rfl,rfl⟩) ?_)) ?_;refine aw ?_;refine dK.step (aI.pO (r:=2) [JV s i j N] 0 (by decide) (by decide) rfl (.cons (by
  unfold JV dP;simp -implicitDefEqProofs only[go_sem]
  repeat' first
   | exact .nil
   | refine .cons mU ?_
   | refine .cons mV ?_) .nil)) ?_
 refine dK.intro (aI.refl _) ?_;have gb:gU s=⟨s,[],List.replicate i cF,List.replicate j (dP s),p6 s,List.replicate N true,List.replicate N [],s.room,[],[],false⟩:=by
  unfold gU;rw[show s.many.toNat=i by omega,show s.bB.toNat=j by omega,show(s.many+s.bB+2).toNat=N by omega]
 have ub:ai.bx ⟨s,[],List.replicate i cF,List.replicate j (dP s),p6 s,List.replicate N true,List.replicate N [],s.room,[],[],false⟩=List.replicate N []:=EU _ _ _;have hx:=dL (bs:=List.replicate N []) (by rw[List.length_replicate];omega);rw[gb];simp -implicitDefEqProofs only[go_sem,JV,ub,hx,EU,List.length_replicate]
 first|done|rfl|exact⟨rfl,rfl⟩|trace_state
end
end Go.Proofs.YtobpfkgabdeefaaGreat.E
