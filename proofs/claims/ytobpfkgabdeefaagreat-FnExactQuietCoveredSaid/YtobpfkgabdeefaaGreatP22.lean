/- Boxes: a row whose elements are slices, each of a row of its own; The world in plain data: its parts; Contracts: a world in its rows; what reads it; what is noted; Results by value: what a function hands back in rows of its own, read-only from then on; Contracts by value: clients that hear and tick -/
import Derived.Test.YtobpfkgabdeefaaGreatP21
import Derived.Test.YtobpfkgabdeefaaGreatP15
import Derived.Test.YtobpfkgabdeefaaGreatP20
import Derived.Test.YtobpfkgabdeefaaGreatP18
namespace Go.Proofs.YtobpfkgabdeefaaGreat.E
open Go Go.RowKit
set_option linter.unusedVariables false
def fS (r g sz:Nat) (bs:List (List (List AV))):List (List AV):=bs.mapIdx fun i b=>[.au r g [i] sz 0 b.length]
def ij (r g sz:Nat) (bs:List (List (List AV))):dZ:=fun p=>match p with
 | []=>some ⟨1,fS r g sz bs,0,false⟩
 | [i]=>(bs[i]?).map fun b=>⟨sz,b,2,false⟩
 | _=>none
theorem Ax {r g sz:Nat}{bs:List (List (List AV))}:ij r g sz bs []=some ⟨1,fS r g sz bs,0,false⟩:=rfl
theorem yF {r g sz i:Nat}{bs:List (List (List AV))}:ij r g sz bs [i]=(bs[i]?).map fun b=>⟨sz,b,2,false⟩:=rfl
theorem pI {r g sz i:Nat}{bs:List (List (List AV))}:(fS r g sz bs)[i]?=(bs[i]?).map fun b=>[.au r g [i] sz 0 b.length]:=by unfold fS;rw[List.getElem?_mapIdx]
theorem rE {r g sz:Nat}{bs:List (List (List AV))}:(fS r g sz bs).length=bs.length:=by unfold fS;rw[List.length_mapIdx]
def qD (r g sz:Nat) (bs:List (List (List AV))) (i:Nat) (c:AV):dZ:=dB (ij r g sz bs) [] ⟨1,(fS r g sz bs).set i [c],0,false⟩
theorem ag8 {r g sz i:Nat}{bs:List (List (List AV))}{c:AV}:dB (ij r g sz bs) [] ⟨1,(fS r g sz bs).set i [c],0,false⟩=qD r g sz bs i c:=rfl
theorem No {N:NF}{r g r' g' sz:Nat}{bs:List (List (List AV))}(h:N r g=some (r',g')):(fS r g sz bs).map (fun e=>e.map (ot N))=fS r' g' sz bs:=by
 apply List.ext_getElem?;intro k;rw[List.getElem?_map,pI,pI];cases bs[k]? with
 | none=>rfl
 | some b=>simp[ot,h]
theorem J8 {N:NF}{r g r' g' sz:Nat}{bs:List (List (List AV))}(h:N r g=some (r',g')):iD N (ij r g sz bs)=ij r' g' sz bs:=by
 funext p;unfold iD;cases p with
 | nil=>
  rw[Ax,Ax];simp only[lU,Nat.ble];rw[No h]
 | cons i p=>
  cases p with
  | nil=>
   rw[yF,yF];cases bs[i]? with
   | none=>rfl
   | some b=>simp[lU,Nat.ble]
  | cons=>rfl
theorem Rp {N:NF}{f:dZ}{p:List Nat}{row:Row}:iD N (dB f p row)=dB (iD N f) p (lU N row):=by
 funext q;unfold iD dB;by_cases h:q=p
 ·rw[if_pos h,if_pos h]
 rw[if_neg h,if_neg h]
theorem abg {N:NF}{r g r' g' sz i:Nat}{bs:List (List (List AV))}{c:AV}(h:N r g=some (r',g')):iD N (qD r g sz bs i c)=qD r' g' sz bs i (ot N c):=by
 unfold qD;rw[Rp,J8 h];congr 1;simp only[lU,Nat.ble];congr 1;rw[List.map_set,No h];rfl
theorem V0 {r g sz i:Nat}{bs:List (List (List AV))}{c:AV}:qD r g sz bs i c []=some ⟨1,(fS r g sz bs).set i [c],0,false⟩:=by unfold qD;simp[dB]
inductive rK (σ:aj) (B g sz:Nat) (bs:List (List (List AV))) (i:Nat):AV→List (List AV)→aj→Prop
 | nil:rK σ B g sz bs i .aG [] σ
 | shift (x:List AV) (L:List (List AV)) (h:bs[i]?=some (x::L)):rK σ B g sz bs i (.au B g [i] sz 1 L.length) L σ
 | row (d gd:Nat) (L:List (List AV)) (hd:d≠B) (h:bI σ d=some (gd,one ⟨sz,L,2,false⟩)):rK σ B g sz bs i (.au d gd [] sz 0 L.length) L (pH σ d)
def oj (B i:Nat):AV→Bool
 | .au r _ p _ _ _|.ptr r _ p _ _ _|.mr r _ p=>!(r==B&&p==[i])
 | .agg _|.ba _=>false
 | _=>true
def zy (B i:Nat):AV→Bool
 | .agg cs|.ba cs=>cs.all (oj B i)
 | v=>oj B i v
def zx (B i:Nat) (row:Row):Bool:=match Nat.ble 1 row.fl with
 | true=>true
 | false=>row.es.all fun e=>e.all (oj B i)
theorem aL.oj {rd:RD}{φ φ':b9}{B i:Nat}(hφ:∀r g p,¬(r=B∧p=[i])→φ' r g p=φ r g p) {c:AV}{v:Value}(h:aL rd φ c v) (ho:E.oj B i c=true):aL rd φ' c v:=by
 have key:∀{r:Nat} {p:List Nat},(!(r==B&&p==[i]))=true→¬(r=B∧p=[i]):=by
  intro r p hk hh;rw[hh.1,hh.2]at hk;simp at hk
 cases h with
 | au r g p sz off len pl A h1 hA hl=>exact .au r g p sz off len pl A (by rw[hφ r g p (key ho)];exact h1) hA hl
 | ptr r g p sz i o pl b q h1 aK=>exact .ptr r g p sz i o pl b q (by rw[hφ r g p (key ho)];exact h1) aK
 | mr r g p pl b h1 aK=>exact .mr r g p pl b (by rw[hφ r g p (key ho)];exact h1) aK
 | dead v=>exact .dead v
 | sc v h=>exact .sc v h
 | aG=>exact .aG
 | ir sz A cap=>exact .ir sz A cap
 | ro sz es b q cap f hc hs hr hv=>exact(aL.ro sz es b q cap f hc hs hr hv).lT rfl
 | rp cs b q f hs hr hv=>exact(aL.rp cs b q f hs hr hv).lT rfl
 | agg=>cases ho
 | ba=>cases ho
 | it r=>exact .it r
theorem aL.zy {rd:RD}{φ φ':b9}{B i:Nat}(hφ:∀r g p,¬(r=B∧p=[i])→φ' r g p=φ r g p) {c:AV}{v:Value}(h:aL rd φ c v) (ho:E.zy B i c=true):aL rd φ' c v:=by
 cases c with
 | agg cs=>
  cases h with
  | agg _ arr f hs hg hv=>exact .agg cs arr f hs hg fun j c hc=>(hv j c hc).oj hφ (List.all_eq_true.1 ho c (dh hc))
 | ba cs=>
  cases h with
  | ba _ arr f hs hg hv=>exact .ba cs arr f hs hg fun j c hc=>(hv j c hc).oj hφ (List.all_eq_true.1 ho c (dh hc))
 | _=>exact h.oj hφ ho
def wQ (B i:Nat):List (Nat × AV)→Bool
 | []=>true
 | x::l=>E.zy B i x.2&&wQ B i l
theorem JI {B i:Nat}:∀{tm:List (Nat × AV)}{t:Nat}{v:AV},wQ B i tm=true→bI tm t=some v→E.zy B i v=true
 | [],_,_,_,h=>by cases h
 | (k,u)::l,t,v,ho,h=>by
  simp only[wQ,Bool.and_eq_true]at ho;simp only[gx]at h;split at h
  ·cases h;exact ho.1
  exact JI ho.2 h
def zw (B i:Nat):aj→Prop
 | []=>True
 | (k,_,f)::l=>(k=B∨∃row,f=one row∧zx B i row=true)∧zw B i l
theorem JJ {B i:Nat}:∀{σ:aj}{k g:Nat}{f:dZ},zw B i σ→bI σ k=some (g,f)→k=B∨∃row,f=one row∧zx B i row=true
 | [],_,_,_,_,h=>by cases h
 | (k0,g0,f0)::l,k,g,f,ho,h=>by
  simp only[gx]at h;split at h
  ·rename_i e;cases h;subst e;exact ho.1
  exact JJ ho.2 h
theorem aI.Zl {n G:Nat}{tm:List (Nat × AV)}{σ σ1:aj}{B g sz:Nat}{bs:List (List (List AV))}{i:Nat}{c:AV}{L:List (List AV)}(hB:B<1000000)
  (hl:bI σ B=some (g,qD B g sz bs i c)) (hi:i<bs.length) (hc:rK σ B g sz bs i c L σ1) (nO:wQ B i tm=true) (hσ:zw B i σ):
  aI ⟨n,tm,σ,G⟩ ⟨n,tm,bQ σ1 B (g,ij B g sz (bs.set i L)),G⟩:=by
 intro rd O w0 a w ⟨rd',φ,hx,h⟩;have hb:=h.heap;have oZ:rowAt σ B g []=some ⟨1,(fS B g sz bs).set i [c],0,false⟩:=by unfold rowAt;rw[hl];simp[V0]
 have HW:∀j,rowAt σ B g [j]=(bs[j]?).map fun b=>⟨sz,b,2,false⟩:=by
  intro j;unfold rowAt;rw[hl];simp only[if_true,qD,dB];rw[if_neg (by simp),yF]
 obtain⟨uO,qh,mX⟩:=hb.rows _ _ _ _ oZ;have hle:(fS B g sz bs).length=bs.length:=rE
 have g9:∃cV:Pl,ma rd' φ w cV ⟨sz,L,2,false⟩∧(∀v,aL rd' φ c v→∃A,v=.slice A L.length (cV.cap - 0)∧(cV.cap - 0=0∨A=cV.ad.map fun x=>cI x.1 (x.2+0 * sz))∧L.length≤cV.cap - 0)∧
   (∀b q,cV.ad=some (b,q)→∃r2 g2 p2 bD cX q2,rowAt σ r2 g2 p2=some bD∧φ r2 g2 p2=some cX∧cX.ad=some (b,q2)∧bD.ao=false∧((r2=B∧p2=[i])∨(p2=[]∧r2≠B∧bI σ1 r2=none))):=by
  cases hc with
  | nil=>
   refine⟨⟨none,0⟩,⟨fun e he=>(by cases he),aQ _,fun e he=>(by cases he),fun _=>rfl,fun b q h=>(by cases h),fun b q h=>(by cases h),fun ha=>(by cases ha),lj (by show(2:Nat)<3;decide)⟩,fun v hv=>?_,fun b q h=>(by cases h)⟩;cases hv;exact⟨none,rfl,.inl rfl,Nat.le_refl _⟩
  | shift x _ ub=>
   have cj:=HW i;rw[ub]at cj;obtain⟨pl,hφ,ok⟩:=hb.rows _ _ _ _ cj;have rb:L.length+1≤pl.cap:=by have:=ok.len;simpa using this
   refine⟨⟨pl.ad.map fun y=>(y.1,y.2+sz),pl.cap - 1⟩,⟨fun e he=>ok.wide e (List.mem_cons_of_mem _ he),by show L.length≤pl.cap - 1;omega,fun e he=>ok.kind e (List.mem_cons_of_mem _ he),fun hn=>?_,fun b q aK k hk=>?_,fun b q aK k j c' aU=>?_,fun ha=>(by cases ha),lj (by show(2:Nat)<3;decide)⟩,fun v hv=>?_,fun b q aK=>?_⟩
   ·have:pl.ad=none:=by simpa using hn
    have:=ok.nil this;omega
   ·obtain⟨⟨b0,q0⟩,hy,he⟩:=cJ aK;simp only[Prod.mk.injEq]at he;obtain⟨rfl,rfl⟩:=he;have:=ok.room b0 q0 hy (sz+k) (by
     show sz+k<pl.cap * sz
     have:pl.cap * sz=(pl.cap - 1) * sz+sz:=by rw[←Nat.succ_mul];congr 1;omega
     have hk:k<(pl.cap - 1) * sz:=hk;omega)
    rw[←Nat.add_assoc]at this;exact this
   ·obtain⟨⟨b0,q0⟩,hy,he⟩:=cJ aK;simp only[Prod.mk.injEq]at he;obtain⟨rfl,rfl⟩:=he;obtain⟨v,h1,h2⟩:=ok.cells b0 q0 hy (k+1) j c' (by simpa using aU);refine⟨v,?_,h2⟩;have e:q0+(k+1) * sz+j=q0+sz+k * sz+j:=by rw[Nat.succ_mul];omega
    show w.cell? (cI b0 (q0+sz+k * sz+j))=some v
    rw[←e];exact h1
   ·cases hv with
    | au _ _ _ _ _ _ cX A h1 hA hlen=>
     rw[hφ]at h1;cases h1;refine⟨A,rfl,?_,by show L.length≤pl.cap - 1 - 0;omega⟩;rcases hA with hA|hA
     ·exact .inl hA
     refine .inr ?_;rw[hA];cases pl.ad with
     | none=>rfl
     | some y=>simp[Option.map]
   obtain⟨⟨b0,q0⟩,hy,he⟩:=cJ aK;simp only[Prod.mk.injEq]at he;obtain⟨rfl,rfl⟩:=he;exact⟨B,g,[i],_,pl,q0,cj,hφ,hy,rfl,.inl ⟨rfl,rfl⟩⟩
  | row d gd _ hd q8=>
   have cj:rowAt σ d gd []=some ⟨sz,L,2,false⟩:=by unfold rowAt;rw[q8];simp[one]
   obtain⟨pl,hφ,ok⟩:=hb.rows _ _ _ _ cj;refine⟨pl,ok,fun v hv=>?_,fun b q aK=>⟨d,gd,[],_,pl,q,cj,hφ,aK,rfl,.inr ⟨rfl,hd,by rw[tN,if_pos rfl]⟩⟩⟩;cases hv with
   | au _ _ _ _ _ _ cX A h1 hA hlen=>
    rw[hφ]at h1;cases h1;exact⟨A,rfl,hA,hlen⟩
 obtain⟨cV,Fv,GM,xU⟩:=g9;have su:∀{k gk fk},bI σ1 k=some (gk,fk)→bI σ k=some (gk,fk):=by
  intro k gk fk hk;cases hc with
  | nil=>exact hk
  | shift=>exact hk
  | row d gd _ hd q8=>
   rw[tN]at hk;split at hk
   ·cases hk
   exact hk
 let φ':b9:=fun r gg p=>if r=B∧gg=g∧p=[i] then some cV else φ r gg p
 have fj:∀r gg p,¬(r=B∧p=[i])→φ' r gg p=φ r gg p:=fun r gg p hn=>by
  show(if r=B∧gg=g∧p=[i] then some cV else φ r gg p)=φ r gg p
  rw[if_neg (fun hh=>hn ⟨hh.1,hh.2.2⟩)]
 have qX:φ' B g [i]=some cV:=by
  show(if B=B∧g=g∧[i]=[i] then some cV else φ B g [i])=some cV
  rw[if_pos ⟨rfl,rfl,rfl⟩]
 have ch:∀{r gg p row},rowAt (bQ σ1 B (g,ij B g sz (bs.set i L))) r gg p=some row→
   (r=B∧gg=g∧p=[]∧row=⟨1,fS B g sz (bs.set i L),0,false⟩)∨(r=B∧gg=g∧p=[i]∧row=⟨sz,L,2,false⟩)∨(r=B∧gg=g∧(∃j,j≠i∧p=[j])∧rowAt σ r gg p=some row∧1≤row.fl)∨
   (r≠B∧p=[]∧rowAt σ r gg p=some row∧zx B i row=true∧bI σ1 r≠none):=by
  intro r gg p row hr;rw[jy]at hr;by_cases mC:r=B
  ·rw[if_pos mC]at hr;by_cases hg:g=gg
   ·rw[if_pos hg]at hr;subst mC hg
    match p,hr with
    | [],hr=>
     rw[Ax]at hr;exact .inl ⟨rfl,rfl,rfl,(Option.some.inj hr).symm⟩
    | [j],hr=>
     rw[yF]at hr;by_cases hj:i=j
     ·subst hj;rw[List.getElem?_set_self hi]at hr;exact .inr (.inl ⟨rfl,rfl,rfl,(Option.some.inj hr).symm⟩)
     rw[List.getElem?_set_ne hj]at hr;refine .inr (.inr (.inl ⟨rfl,rfl,⟨j,fun e=>hj e.symm,rfl⟩,?_,?_⟩))
     ·rw[HW];exact hr
     obtain⟨b,-,rfl⟩:=cJ hr;show 1≤2
     omega
    | _::_::_,hr=>cases hr
   rw[if_neg hg]at hr;cases hr
  rw[if_neg mC]at hr;unfold rowAt at hr;split at hr
  ·rename_i gk fk hk;split at hr
   ·rename_i hg;subst hg;have ng:=su hk;rcases JJ hσ ng with e|⟨kZ,rfl,ho⟩
    ·exact absurd e mC
    obtain⟨rfl,rfl⟩:=pY hr;exact .inr (.inr (.inr ⟨mC,rfl,by unfold rowAt;rw[ng];simp[one],ho,by rw[hk];simp⟩))
   cases hr
  cases hr
 have hold:∀{r gg p row pl b q},rowAt (bQ σ1 B (g,ij B g sz (bs.set i L))) r gg p=some row→φ' r gg p=some pl→pl.ad=some (b,q)→
   ∃r2 g2 p2 bD cX q2,rowAt σ r2 g2 p2=some bD∧φ r2 g2 p2=some cX∧cX.ad=some (b,q2)∧((r2=r∧p2=p)∨(r=B∧p=[i]∧bD.ao=false∧p2=[]∧r2≠B∧bI σ1 r2=none))∧(bD.ao=false∨(bD=row∧cX=pl)):=by
  intro r gg p row pl b q hr hp aK;rcases ch hr with ⟨rfl,rfl,rfl,rfl⟩|⟨rfl,rfl,rfl,rfl⟩|⟨rfl,rfl,⟨j,hj,rfl⟩,fQ,-⟩|⟨bO,rfl,fQ,-,-⟩
  ·rw[fj _ _ _ (by simp)]at hp;rw[qh]at hp;cases hp;exact⟨_,_,_,_,_,_,oZ,qh,aK,.inl ⟨rfl,rfl⟩,.inl rfl⟩
  ·rw[qX]at hp;cases hp;obtain⟨r2,g2,p2,bD,cX,q2,k1,k2,k3,k4,k5⟩:=xU b q aK;rcases k5 with ⟨rfl,rfl⟩|⟨k6,k7,k8⟩
   ·exact⟨_,_,_,_,_,_,k1,k2,k3,.inl ⟨rfl,rfl⟩,.inl k4⟩
   exact⟨_,_,_,_,_,_,k1,k2,k3,.inr ⟨rfl,rfl,k4,k6,k7,k8⟩,.inl k4⟩
  ·rw[fj _ _ _ (by rintro⟨-,e⟩;cases e;exact hj rfl)]at hp;exact⟨_,_,_,_,_,_,fQ,hp,aK,.inl ⟨rfl,rfl⟩,.inr ⟨rfl,rfl⟩⟩
  rw[fj _ _ _ (by rintro⟨e,-⟩;exact bO e)]at hp;exact⟨_,_,_,_,_,_,fQ,hp,aK,.inl ⟨rfl,rfl⟩,.inr ⟨rfl,rfl⟩⟩
 have plain:∀{row:Row} {pl:Pl},ma rd' φ w pl row→1≤row.fl→ma rd' φ' w pl row:=by
  intro row pl ok fA;refine⟨ok.wide,ok.len,ok.kind,ok.nil,ok.room,fun b q aK k j c' aU=>?_,ok.ic,ok.mp⟩;obtain⟨v,h1,h2⟩:=ok.cells b q aK k j c' aU;refine⟨v,h1,h2.lT ?_⟩;cases he:row.es[k]? with
  | none=>rw[he]at aU;cases aU
  | some e=>
   rw[he]at aU;have:=(ok.kind e (dh he)).1 fA c' (dh aU);cases c'<;>first|rfl|cases this
 refine⟨rd',φ',⟨hx.1,fun r p pl e hr=>?_⟩,⟨?_,?_,hb.eh,?_,?_,hb.frame,hb.size,hb.os,hb.tape,hb.output⟩,fun t v hv=>(h.tm t v hv).zy fj (JI nO hv),h.size,h.defers,fun r gg p hp=>?_⟩
 ·rw[fj _ _ _ (by rintro⟨rfl,-⟩;omega)];exact hx.2 r p pl e hr
 ·intro r gg p row hr;rcases ch hr with ⟨rfl,rfl,rfl,rfl⟩|⟨rfl,rfl,rfl,rfl⟩|⟨rfl,rfl,⟨j,hj,rfl⟩,fQ,fA⟩|⟨bO,rfl,fQ,ho,-⟩
  ·refine⟨uO,by rw[fj _ _ _ (by simp)];exact qh,fun e he=>?_,?_,fun e he=>⟨fun hh=>absurd hh (by simp),fun hh=>absurd hh (by simp)⟩,mX.nil,mX.room,fun b q aK k j c' aU=>?_,fun ha=>(by cases ha),lj (by show(0:Nat)<3;decide)⟩
   ·obtain⟨k,hk⟩:=List.getElem?_of_mem he;rw[pI]at hk;obtain⟨y,-,rfl⟩:=cJ hk;rfl
   ·have:=mX.len;simp only[List.length_set,rE]at this ⊢;exact this
   have aU:((fS r gg sz (bs.set i L))[k]?).bind (·[j]?)=some c':=aU;rw[pI]at aU;by_cases hk:i=k
   ·subst hk;rw[List.getElem?_set_self hi]at aU;simp only[Option.map_some,Option.bind_some]at aU;cases j with
    | succ j=>simp at aU
    | zero=>
     simp only[List.getElem?_cons_zero,Option.some.injEq]at aU;subst aU;obtain⟨v,h1,h2⟩:=mX.cells b q aK i 0 c (by rw[List.getElem?_set_self (by rw[rE];exact hi)];rfl);refine⟨v,h1,?_⟩;obtain⟨A,rfl,e2,e3⟩:=GM v h2;exact .au r gg [i] sz 0 L.length cV A qX e2 e3
   rw[List.getElem?_set_ne hk]at aU;obtain⟨v,h1,h2⟩:=mX.cells b q aK k j c' (by rw[List.getElem?_set_ne hk,pI];exact aU);refine⟨v,h1,h2.oj fj ?_⟩;cases gq:bs[k]? with
   | none=>rw[gq]at aU;cases aU
   | some y=>
    rw[gq]at aU;simp only[Option.map_some,Option.bind_some]at aU;cases j with
    | succ j=>simp at aU
    | zero=>
     simp only[List.getElem?_cons_zero,Option.some.injEq]at aU;subst aU;have:([k]==[i])=false:=by simp;omega
     simp[E.oj,this]
  ·exact⟨cV,qX,plain Fv (by show 1≤2;omega)⟩
  ·obtain⟨pl,h1,h2⟩:=hb.rows _ _ _ _ fQ;exact⟨pl,by rw[fj _ _ _ (by rintro⟨-,e⟩;cases e;exact hj rfl)];exact h1,plain h2 fA⟩
  obtain⟨pl,h1,h2⟩:=hb.rows _ _ _ _ fQ;refine⟨pl,by rw[fj _ _ _ (by rintro⟨e,-⟩;exact bO e)];exact h1,?_⟩;unfold zx at ho;split at ho
  ·rename_i fA;exact plain h2 (Nat.le_of_ble_eq_true fA)
  refine⟨h2.wide,h2.len,h2.kind,h2.nil,h2.room,fun b q aK k j c' aU=>?_,h2.ic,h2.mp⟩;obtain⟨v,h3,h4⟩:=h2.cells b q aK k j c' aU;refine⟨v,h3,h4.oj fj ?_⟩;cases he:row.es[k]? with
  | none=>rw[he]at aU;cases aU
  | some e=>
   rw[he]at aU;exact List.all_eq_true.1 (List.all_eq_true.1 ho e (dh he)) c' (dh aU)
 ·intro r1 g1 p1 fg r2 g2 p2 bD iZ cX b q1 q2 e1 e2 e3 e4 e5 e6;obtain⟨s1,t1,u1,x1,y1,z1,m1,m2,m3,m4,-⟩:=hold e1 e3 e5;obtain⟨s2,t2,u2,x2,y2,z2,n1,n2,n3,n4,-⟩:=hold e2 e4 e6;obtain⟨k1,k2⟩:=hb.sep _ _ _ _ _ _ _ _ _ _ _ _ _ m1 n1 m2 n2 m3 n3;have dead:∀{r gg p row},rowAt (bQ σ1 B (g,ij B g sz (bs.set i L))) r gg p=some row→r≠B→bI σ1 r≠none:=by
   intro r gg p row hr bO;rcases ch hr with ⟨rfl,-⟩|⟨rfl,-⟩|⟨rfl,-⟩|⟨-,-,-,-,hh⟩
   ·exact absurd rfl bO
   ·exact absurd rfl bO
   ·exact absurd rfl bO
   exact hh
  rcases m4 with ⟨rfl,rfl⟩|⟨rfl,rfl,-,hm,Cy,pz⟩<;>rcases n4 with ⟨rfl,rfl⟩|⟨rfl,rfl,-,hn,KZ,K3⟩
  ·exact⟨k1,k2⟩
  ·subst k1;exact absurd K3 (dead e1 KZ)
  ·subst k1;exact absurd pz (dead e2 Cy)
  exact⟨rfl,rfl⟩
 ·intro r gg p row pl b q e1 e2 e3 k dD;obtain⟨s1,t1,u1,x1,y1,z1,m1,m2,m3,-,m5⟩:=hold e1 e2 e3;rcases m5 with m5|⟨rfl,rfl⟩
  ·exact hb.et _ _ _ _ _ _ _ m1 m2 m3 k (.inl m5)
  rw[e3]at m3;cases m3;exact hb.et _ _ _ _ _ _ _ m1 m2 e3 k dD
 ·intro r gg p row pl b q e1 e2 e3;obtain⟨s1,t1,u1,x1,y1,z1,m1,m2,m3,-,-⟩:=hold e1 e2 e3;exact hb.own _ _ _ _ _ _ _ m1 m2 m3
 have hp:(if r=B∧gg=g∧p=[i] then some cV else φ r gg p)≠none:=hp;split at hp
 ·rename_i e;obtain⟨rfl,rfl,-⟩:=e;exact h.gen r gg [] (by rw[qh];simp)
 exact h.gen r gg p hp
section
set_option linter.unusedSimpArgs false
structure cK where
 many:Int
 eK:Int
 bB:Int
 room:Int
 inbox:Int
structure aJ where
 kind:Int
 node:Int
 arg:Int
 text:ByteArray
structure dy where
 kind:Int
 node:Int
 br:Int
 sort:Int
 code:Int
 i4:bh
 pt:bh
 proof:List aW
structure ai where
 set:cK
 log:List ByteArray
 ah:List bE
 cls:List bu
 cD:cQ
 up:List Bool
 ak:List (List aB)
 room:Int
 bj:List aB
 book:List dy
 stop:Bool
def dy.cs (e:dy):List AV:=[vI e.kind,vI e.node,vI e.br,vI e.sort,vI e.code,vI e.i4.size,vU e.i4.root.a,vU e.i4.root.b,vU e.i4.root.c,vU e.i4.root.d,vI e.pt.size,vU e.pt.root.a,vU e.pt.root.b,vU e.pt.root.c,vU e.pt.root.d,.ro 4 (e.proof.map aW.cs)]
def bE.rc (w:bE):List AV:=w.cs (.ro 7 (w.aS.map bG.cs))
def bu.rc (c:bu):List AV:=c.cs (.ro 1 (c.bt.map dv))
def cQ.rc (m:cQ):List AV:=m.cs (.ro 1 (m.cl.bt.map dv)) (.ro 1 (m.az.map cY))
def dq (b:Bool):List AV:=[vB b]
def ai.bx (w:ai):List (List (List AV)):=w.ak.map fun b=>b.map aB.cs
def ai.cells (w:ai) (k d:Nat):List AV:=
 [vI w.set.many,vI w.set.eK,vI w.set.bB,vI w.set.room,vI w.set.inbox,.ro 1 (w.log.map cY),.au k 0 [] 15 0 w.ah.length,.au (k+d) 0 [] 15 0 w.cls.length]++(w.cD.rc++
 [.au (k+2 * d) 0 [] 1 0 w.up.length,.au (k+3 * d) 0 [] 1 0 w.ak.length,vI w.room,.ro 3 (w.bj.map aB.cs),.au (k+4 * d) 0 [] 16 0 w.book.length,vB w.stop])
def ai.rows (w:ai) (k d:Nat):aj:=
 [(k,0,one ⟨15,w.ah.map bE.rc,1,false⟩),(k+d,0,one ⟨15,w.cls.map bu.rc,1,false⟩),(k+2 * d,0,one ⟨1,w.up.map dq,2,false⟩),(k+3 * d,0,ij (k+3 * d) 0 3 w.bx),(k+4 * d,0,one ⟨16,w.book.map dy.cs,1,false⟩)]
def lq (w:ai) (x:aB):ai:=if (w.bj.length:Int)≥w.room then w else {w with bj:=w.bj++[x]}
def fG (w:ai) (l:List aB):ai:=l.foldl lq w
def gT (w:ai) (e:dy):ai:={w with book:=w.book++[e]}
def gV (w:ai) (node:Int) (l:List ec):ai:=l.foldl (fun w a=>gT w ⟨4,node,a.br,a.kind,a.code,a.held,a.told,[]⟩) w
def iv (w:ai) (kind node:Int) (l:List bh):ai:=l.foldl (fun w p=>gT w ⟨kind,node,0,0,0,.zero,p,[]⟩) w
def fv (s:cK):Bool:=aT s.many 1 5&&(aT s.eK 1 s.many&&(decide (IntKind.i64.wrap (2 * s.eK)>s.many)&&(aT s.bB 1 3&&(aT s.room 1 64&&aT s.inbox 1 64))))
theorem d7 {s:cK}(h:fv s=true):(1≤s.many∧s.many≤5)∧(1≤s.eK∧s.eK≤s.many)∧s.many<2 * s.eK∧(1≤s.bB∧s.bB≤3)∧(1≤s.room∧s.room≤64)∧(1≤s.inbox∧s.inbox≤64):=by
 simp only[fv,Bool.and_eq_true,cf,decide_eq_true_eq]at h;obtain⟨h1,h2,h3,h4,h5,h6⟩:=h;rw[aV (by omega)]at h3;exact⟨h1,h2,by omega,h4,h5,h6⟩
end
section
set_option maxHeartbeats 4000000
set_option maxRecDepth 10000
set_option linter.unusedSimpArgs false
set_option linter.unusedSectionVars false
def yu:bX:=⟨[],[9,10,11],[24,26,30,44,47,50,51,52,57,58,59,62,76,88,138,185,186,187,253,254,297,311],false⟩
attribute [-go_sem] ei
def cK.cs (s:cK):List AV:=[vI s.many,vI s.eK,vI s.bB,vI s.room,vI s.inbox]
def wS (w:ai) (k d:Nat):aj:=(1000000,0,one ⟨35,[w.cells k d],0,false⟩)::w.rows k d
def eB (w:ai):aj:=wS w 1000001 1
def im (w:ai):aj:=wS w 0 1
def eA:AV:=.ptr 1000000 0 [] 35 0 0
attribute [go_sem] cK.cs wS eB im eA ai.cells ai.rows cQ.rc
theorem QM {r g:Nat}:∀{l:List (List AV)},(∀e∈l,qN e=[(r,g)])→xc [(r,g)] l=[(r,g)]
 | [],_=>rfl
 | e::l,h=>by
  have he:=h e (List.mem_cons_self ..);have:xI (qN e) [(r,g)]=[(r,g)]:=by
   rw[he];simp[xI,Gf]
  show xc (xI (qN e) [(r,g)]) l=[(r,g)]
  rw[this];exact QM fun x hx=>h x (List.mem_cons_of_mem _ hx)
theorem aaO {r g:Nat}{l:List (List AV)}(hl:0<l.length) (h:∀e∈l,qN e=[(r,g)]):ei l=[(r,g)]:=by
 cases l with
 | nil=>exact absurd hl (by decide)
 | cons e l=>
  cases l with
  | nil=>exact h e (List.mem_cons_self ..)
  | cons e' l=>
   show xc (xI (qN e) []) (e'::l)=_
   rw[h e (List.mem_cons_self ..)];exact QM fun x hx=>h x (List.mem_cons_of_mem _ hx)
theorem dL {bs:List (List (List AV))}(h:0<bs.length):∀r g sz,ei (fS r g sz bs)=[(r,g)]:=by
 intro r g sz;refine aaO (by rw[rE];exact h) fun e he=>?_
 obtain⟨i,hi⟩:=List.getElem?_of_mem he;rw[pI]at hi;obtain⟨b,-,rfl⟩:=cJ hi;rfl
def bxN (N:NF) (r g sz:Nat) (bs:List (List (List AV))):dZ:=iD N (ij r g sz bs)
def V3 (sz:Nat) (bs:List (List (List AV))) (f:dZ):Option (Nat × Nat)→dZ
 | some x=>ij x.1 x.2 sz bs
 | none=>f
theorem abh {N:NF}{r g sz:Nat}{bs:List (List (List AV))}:iD N (ij r g sz bs)=V3 sz bs (bxN N r g sz bs) (N r g):=by
 cases h:N r g with
 | none=>rfl
 | some x=>exact J8 h
theorem aaQ:ei []=[]:=rfl
theorem aaP {e:List AV}:ei [e]=qN e:=rfl
theorem aaN {e e':List AV}{l:List (List AV)}:ei (e::e'::l)=xc [] (e::e'::l):=rfl
attribute [go_sem] aaQ aaP aaN Ax yF pI rE abh V3
theorem de (w:ai):w.bx.length=w.ak.length:=List.length_map _
theorem As (s:cK):aR Tryz.prog 72 [.agg s.cs] (vB (fv s)) []:=by
 refine aA yu false Tryz.f72 ?_;conv=>enter[1];reduce
 refine bf Tryz.f72 36 [.tmp 2] (by kernel_rfl) (by decide +kernel) rfl ?_;unfold fv;simp -implicitDefEqProofs only[go_sem]
 repeat' first|(refine aq.intro (by first|exact dG _ _ _) ?_;try simp -implicitDefEqProofs only[go_sem,bc])|(refine aD.intro (by first|exact dG _ _ _) ?_;try simp -implicitDefEqProofs only[go_sem,bc])|(refine ew (fun h=>?_) (fun h=>?_)<;>try simp -implicitDefEqProofs only[go_sem,bc,h])|(refine b8 (fun h=>?_) (fun h=>?_)<;>try simp -implicitDefEqProofs only[go_sem,bc,h])
 all_goals first
  | exact⟨rfl,rfl⟩
  | (simp_all;done)
theorem Dx (s:cK):aR Tryz.prog 40 [.agg s.cs] (vB (fv s)) []:=by
 refine aA yu false Tryz.f40 ?_;conv=>enter[1];reduce
 refine bf Tryz.f40 36 [.tmp 2] (by kernel_rfl) (by decide +kernel) rfl ?_;unfold fv;simp -implicitDefEqProofs only[go_sem]
 repeat' first|(refine aq.intro (by first|exact e9 _ _ _) ?_;try simp -implicitDefEqProofs only[go_sem,bc])|(refine aD.intro (by first|exact e9 _ _ _) ?_;try simp -implicitDefEqProofs only[go_sem,bc])|(refine ew (fun h=>?_) (fun h=>?_)<;>try simp -implicitDefEqProofs only[go_sem,bc,h])|(refine b8 (fun h=>?_) (fun h=>?_)<;>try simp -implicitDefEqProofs only[go_sem,bc,h])
 all_goals first
  | exact⟨rfl,rfl⟩
  | (simp_all;done)
theorem UQ (s:cK) (h:fv s=true):aR Tryz.prog 74 [.agg s.cs] (vI (s.many+s.bB+1)) []:=by
 refine aA yu false Tryz.f74 ?_;conv=>enter[1];reduce
 refine bf Tryz.f74 12 [.tmp 2] (by kernel_rfl) (by decide +kernel) rfl ?_;have hs:=d7 h;have h1:IntKind.i64.wrap (s.many+s.bB)=s.many+s.bB:=aV (by omega);have h2:IntKind.i64.wrap (s.many+s.bB+1)=s.many+s.bB+1:=aV (by omega);refine aw ?_;refine aq.intro (As s) ?_;rw[h];exact dk h1 h2
theorem agW (w:ai) (h:fv w.set=true) (hb:0<w.ak.length):bb Tryz.prog 106 (eB w) [eA] (vI (w.set.many+w.set.bB+1)) (eB w):=by
 refine aA yu false Tryz.f106 ?_;conv=>enter[1];reduce
 refine bT Tryz.f106 8 [.tmp 2] (by kernel_rfl) (by decide +kernel) rfl ?_;have hx:=dL (bs:=w.bx) (by rw[de];exact hb);refine aw ?_;refine aq.intro (UQ w.set h) ?_;exact er hx
theorem agX (w:ai) (n:Int) (hb:0<w.ak.length):bb Tryz.prog 105 (eB w) [eA,vI n] (vB (aT n 1 w.set.many)) (eB w):=by
 refine aA yu false Tryz.f105 ?_;conv=>enter[1];reduce
 refine bT Tryz.f105 12 [.tmp 4] (by kernel_rfl) (by decide +kernel) rfl ?_;have hx:=dL (bs:=w.bx) (by rw[de];exact hb);refine aw ?_;refine aq.intro (dG _ _ _) ?_;exact er hx
theorem HP (w:ai) (n:Int) (hs:fv w.set=true) (hn:0≤n∧n≤1000) (hb:0<w.ak.length):bb Tryz.prog 107 (eB w) [eA,vI n] (vI (if aT n (w.set.many+1) (w.set.many+w.set.bB) then n - w.set.many - 1 else -1)) (eB w):=by
 refine aA yu false Tryz.f107 ?_;conv=>enter[1];reduce
 refine bT Tryz.f107 33 [.tmp 4] (by kernel_rfl) (by decide +kernel) rfl ?_;have hx:=dL (bs:=w.bx) (by rw[de];exact hb);have h:=d7 hs;have h1:IntKind.i64.wrap (w.set.many+w.set.bB)=w.set.many+w.set.bB:=aV (by omega);have h2:IntKind.i64.wrap (w.set.many+1)=w.set.many+1:=aV (by omega);have h3:IntKind.i64.wrap (n - w.set.many)=n - w.set.many:=aV (by omega);have h4:IntKind.i64.wrap (n - w.set.many - 1)=n - w.set.many - 1:=aV (by omega);refine cg h1 h2 ?_;refine aq.intro (dG _ _ _) ?_;cases hc:aT n (w.set.many+1) (w.set.many+w.set.bB) with
 | true=>simp -implicitDefEqProofs only[go_sem,h3,h4,hx]
 | false=>simp -implicitDefEqProofs only[go_sem,hx]
def dy.Fv (l:List dy):Prop:=l.length≤4000000000
theorem dy.wide (l:List dy):fp 16 (l.map dy.cs)=true:=by
 induction l with
 | nil=>rfl
 | cons a l ih=>simp only[List.map_cons,fp,ih,dy.cs];rfl
attribute [go_sem] dy.wide
theorem TH (l:List dy) (h:l.length≤4000000000):∀x,(l.map dy.cs++[x]).length≤maxLen∧(l.map dy.cs++[x]).length * 144≤140737488355328:=fun x=>du (E:=dy.cs) (l:=l) (xs:=[x]) (b:=144) (n:=4000000001) (by simp;omega) (by omega) (by omega)
theorem VG (w:ai) (e:dy) (h:w.book.length≤4000000000) (hb:0<w.ak.length):bb Tryz.prog 166 (eB w) [eA,.agg e.cs] (.ba []) (im (gT w e)):=by
 refine aA yu false Tryz.f166 ?_;conv=>enter[1];reduce
 refine bT Tryz.f166 14 [] (by kernel_rfl) (by decide +kernel) rfl ?_;have hx:=dL (bs:=w.bx) (by rw[de];exact hb);have ha:=TH w.book h;unfold gT;simp -implicitDefEqProofs only[go_sem,ha,dy.cs,hx];simp only[gj,dy.cs];rfl
end
def jg (σ:aj):AV→Option (aj × AV)
 | .ba vs=>(oP σ vs).map fun x=>(x.1,.ba x.2)
 | v=>ic σ v
theorem To {rd:RD}{φ:b9}{O:Nat→Prop}{w0 w:World}{σ σ':aj}{c c':AV}{v:Value}(h:bp rd φ O w0 σ w) (hv:aL rd φ c v) (hf:jg σ c=some (σ',c')):
  rJ rd φ O w0 w σ' fun rd'=>∀φ',aL rd' φ' c' v:=by
 cases c with
 | ba vs=>
  obtain⟨arr,rfl,hp⟩:=PW.tE hv;simp only[jg]at hf;obtain⟨⟨σ1,uo⟩,h1,hf⟩:=cJ hf;cases hf;obtain⟨d9,x1,k1,v1⟩:=G4 h hp h1;refine⟨d9,x1,k1,fun φ'=>?_⟩;have hq:=v1 φ';refine .ba uo arr (fun j=>arr.getD j undef) (by rw[hq.1];simp) (fun j c hc=>?_) (fun j c hc=>?_)
  ·obtain⟨u,hu,hr⟩:=hq.2 j c hc;have hu:arr[j]?=some u:=by simpa using hu
   rw[hu,Array.getD_eq_getD_getElem?,hu];rfl
  obtain⟨u,hu,hr⟩:=hq.2 j c hc;have hu:arr[j]?=some u:=by simpa using hu
  rw[Array.getD_eq_getD_getElem?,hu];exact hr
 | _=>exact C1 h hv hf
def C7 (σ:aj) (r i j:Nat):Option aj:=(bI σ r).bind fun gf=>(gf.2 []).bind fun row=>(row.es[i]?).bind fun e=>(e[j]?).bind fun c=>rj r gf.1 [] i j c σ
def sM (σ:aj) (r:Nat):Option aj:=(bI σ r).bind fun gf=>(gf.2 []).bind fun row=>match row.es.all fun e=>e.all gE,Nat.beq row.fl 0,row.ao with
 | true,true,false=>some (bQ σ r (gf.1,dB gf.2 [] ⟨row.sz,row.es,1,false⟩))
 | _,_,_=>none
theorem bp.sM {rd:RD}{φ:b9}{O:Nat→Prop}{w0 w:World}{σ σ':aj}{r:Nat}(h:bp rd φ O w0 σ w) (hf:E.sM σ r=some σ'):bp rd φ O w0 σ' w:=by
 unfold E.sM at hf;obtain⟨⟨g,f⟩,hl,hf⟩:=cw hf;obtain⟨row,hr,hf⟩:=cw hf;split at hf
 case h_2=>cases hf
 rename_i h1 h2 h3;cases hf;have fQ:f []=some row:=hr;have cj:rowAt σ r g []=some row:=by unfold rowAt;rw[hl];simp[fQ]
 obtain⟨pl,hφ,aF⟩:=h.rows r g [] row cj;have ch:=fun {r2 g2 p2 bD} (hr:rowAt (bQ σ r (g,dB f [] ⟨row.sz,row.es,1,false⟩)) r2 g2 p2=some bD)=>wI hl hr
 have lD:∀{r2 g2 p2 bD},rowAt (bQ σ r (g,dB f [] ⟨row.sz,row.es,1,false⟩)) r2 g2 p2=some bD→∃x,rowAt σ r2 g2 p2=some x:=by
  intro r2 g2 p2 bD hr;rcases ch hr with ⟨rfl,rfl,rfl,rfl⟩|⟨h1,_⟩
  ·exact⟨_,cj⟩
  exact⟨_,h1⟩
 refine⟨?_,?_,h.eh,?_,?_,h.frame,h.size,h.os,h.tape,h.output⟩
 ·intro r2 g2 p2 bD hr;rcases ch hr with ⟨rfl,rfl,rfl,rfl⟩|⟨hr,bO⟩
  ·exact⟨pl,hφ,aF.wide,aF.len,fun e he=>⟨fun _ c hc=>List.all_eq_true.1 (List.all_eq_true.1 h1 e he) c hc,fun h=>absurd h (by simp)⟩,aF.nil,aF.room,aF.cells,fun ha=>(by cases ha),lj (by show(1:Nat)<3;decide)⟩
  exact h.rows _ _ _ _ hr
 ·intro r1 g1 p1 fg r2 g2 p2 bD iZ cX b q1 q2 h1 h2 h3 h4 h5 h6;obtain⟨x1,e1⟩:=lD h1;obtain⟨x2,e2⟩:=lD h2;exact h.sep _ _ _ _ _ _ _ _ _ _ _ _ _ e1 e2 h3 h4 h5 h6
 ·intro r2 g2 p2 bD cX b2 q2 h1 h2 oL k dD;rcases ch h1 with ⟨rfl,rfl,rfl,rfl⟩|⟨h1,_⟩
  ·exact h.et _ _ _ _ _ _ _ cj h2 oL k (.inl h3)
  exact h.et _ _ _ _ _ _ _ h1 h2 oL k dD
 intro r1 g1 p1 fg iZ b q1 h1 h2 h3;obtain⟨x1,e1⟩:=lD h1;exact h.own _ _ _ _ _ _ _ e1 h2 h3
def kH (σ:aj):List (Nat × Nat × Nat)→Option aj
 | []=>some σ
 | (r,i,j)::l=>(C7 σ r i j).bind fun σ'=>(sM σ' r).bind fun σ''=>kH σ'' l
theorem adJ {rd:RD}{φ:b9}{O:Nat→Prop}{w0 w:World}{σ σ':aj}{r i j:Nat}(h:bp rd φ O w0 σ w) (hf:C7 σ r i j=some σ'):∃rd',Ext O w0 rd rd'∧bp rd' φ O w0 σ' w:=by
 unfold C7 at hf;obtain⟨⟨g,f⟩,hl,hf⟩:=cw hf;obtain⟨row,hr,hf⟩:=cw hf;obtain⟨e,he,hf⟩:=cw hf;obtain⟨c,hc,hf⟩:=cw hf;exact h.rj hl hr he hc hf
theorem OI {φ:b9}{O:Nat→Prop}{w0 w:World}:∀{l:List (Nat × Nat × Nat)}{rd:RD}{σ σ':aj},bp rd φ O w0 σ w→kH σ l=some σ'→∃rd',Ext O w0 rd rd'∧bp rd' φ O w0 σ' w
 | [],rd,σ,σ',h,hf=>by cases hf;exact⟨rd,.refl,h⟩
 | (r,i,j)::l,rd,σ,σ',h,hf=>by
  simp only[kH]at hf;obtain⟨σ1,h1,hf⟩:=cw hf;obtain⟨σ2,h2,hf⟩:=cw hf;obtain⟨d9,x1,k1⟩:=adJ h h1;obtain⟨dO,x2,k2⟩:=OI (k1.sM h2) hf;exact⟨dO,x1.trans x2,k2⟩
theorem bb.val {P:Program}{n:Nat}{σin:aj}{args:List AV}{res BA:AV}{σout σ':aj}(l:List (Nat × Nat × Nat)) (h:bb P n σin args res σout) (hf:((kH σout l).bind fun σ=>jg σ res)=some (σ',BA)):bb P n σin args BA []:=by
 obtain⟨σ1,h1,h2⟩:=cw hf;refine⟨h.1,fun w rd φ eg qn hh eY=>(h.2 w rd φ eg qn hh eY).mono ?_⟩;rintro e w' ⟨v,rd',φ',rfl,x2,hm,h3,xR⟩;obtain⟨d9,x3,h4⟩:=OI h3 h1;obtain⟨dO,x4,h5,hv⟩:=To h4 (xR.mono x3.1 (fun _ _ _ _ h=>h)) h2;exact⟨v,dO,φ',rfl,(x2.trans x3).trans x4,hm,h5.less (fun r g p row hr=>by simp[rowAt,bI]at hr),hv φ'⟩
def Pj (l:List AV):Bool:=l.all sf
theorem aR.val {P:Program}{n:Nat}{args:List AV}{res BA:AV}{rf:List (List Nat × Row)}{σ':aj}(h:aR P n args res rf) (ha:Pj args=true) (hf:jg (kK rf) res=some (σ',BA)):bb P n [] args BA []:=by
 refine⟨h.1,fun w rd φ eg qn hh eY=>(h.2 w rd eg hh.eh ⟨eY.1,fun j c hc=>?_⟩).mono ?_⟩
 ·obtain⟨v,hv,hr⟩:=eY.2 j c hc;exact⟨v,hv,hr.lT (List.all_eq_true.1 ha c (dh hc))⟩
 rintro e w' ⟨v,rd',ψ,rfl,x2,h3,xR⟩;obtain⟨dO,x4,h5,hv⟩:=To h3 xR hf;have hx:=x2.trans x4;have hO:∀b,¬gO φ [] b:=by
  rintro b ⟨r,g,p,row,pl,q,hr,-⟩;simp[rowAt,bI]at hr
 refine⟨v,dO,φ,rfl,⟨hx.1,fun b o hb _=>hx.2 b o hb (fun h=>h)⟩,fun r p pl hp _=>hp,?_,hv φ⟩;have eH:∀{r g p row},rowAt ([]:aj) r g p=some row→False:=by
  intro r g p row hr;simp[rowAt,bI]at hr
 exact⟨fun r g p row hr=>(eH hr).elim,fun r g p row r' g' p' cq pl cV b q q' hr=>(eH hr).elim,h5.eh,fun r g p row pl b q hr=>(eH hr).elim,fun r g p row pl b q hr=>(eH hr).elim,fun b hb _=>h5.frame b hb (fun h=>h),h5.size,h5.os,h5.tape,h5.output⟩
section
set_option maxHeartbeats 4000000
set_option maxRecDepth 10000
set_option linter.unusedSimpArgs false
set_option linter.unusedSectionVars false
def ajj:bX:=⟨[(122,.cm [false])],[9,10,11],[24,26,30,44,47,50,51,52,57,58,59,62,76,88,138,185,186,187,253,254,297,311],false⟩
def cU.rv (t:cU):AV:=.agg (t.cs (.ro 1 (t.cl.bt.map dv)) (.ro 3 (t.bM.map aB.cs)) (.ro 13 (t.dI.map ec.cs)) (.ro 5 (t.acc.map bh.cs)))
theorem EF (t:cU):∃σ,((kH t.rZ []).bind fun σ=>jg σ t.ta)=some (σ,t.rv):=by
 have h:(((kH t.rZ []).bind fun σ=>jg σ t.ta).map fun x=>x.2)=some t.rv:=by
  simp -implicitDefEqProofs only[go_sem,kH,jg,cU.rv,sub]
 obtain⟨⟨σ,v⟩,h1,h2⟩:=cJ h;cases h2;exact⟨σ,h1⟩
theorem XS (c:bu) (me:Int) (hl:c.bt.length≤maxLen):bb Tryz.prog 228 [] [c.ro,vI me] (fP c me).rv []:=by
 obtain⟨σ,h⟩:=EF (fP c me);exact(Vl c me hl).val [] h
end
end Go.Proofs.YtobpfkgabdeefaaGreat.E
