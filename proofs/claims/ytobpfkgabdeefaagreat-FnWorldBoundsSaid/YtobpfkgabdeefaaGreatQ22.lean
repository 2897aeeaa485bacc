/- Boxes: a row whose elements are slices, each of a row of its own; The world in plain data: its parts; Contracts: a world in its rows; what reads it; what is noted; Results by value: what a function hands back in rows of its own, read-only from then on; Contracts by value: clients that hear and tick -/
import Derived.Test.YtobpfkgabdeefaaGreatQ21
import Derived.Test.YtobpfkgabdeefaaGreatQ15
import Derived.Test.YtobpfkgabdeefaaGreatQ20
namespace Go.Proofs.YtobpfkgabdeefaaGreat.E
open Go Go.RowKit
set_option linter.unusedVariables false
def gi (r g sz:Nat) (bs:List (List (List AV))):List (List AV):=bs.mapIdx fun i b=>[.aw r g [i] sz 0 b.length]
def iy (r g sz:Nat) (bs:List (List (List AV))):d9:=fun p=>match p with
 | []=>some ⟨1,gi r g sz bs,0,false⟩
 | [i]=>(bs[i]?).map fun b=>⟨sz,b,2,false⟩
 | _=>none
theorem Ar {r g sz:Nat}{bs:List (List (List AV))}:iy r g sz bs []=some ⟨1,gi r g sz bs,0,false⟩:=rfl
theorem yC {r g sz i:Nat}{bs:List (List (List AV))}:iy r g sz bs [i]=(bs[i]?).map fun b=>⟨sz,b,2,false⟩:=rfl
theorem p7 {r g sz i:Nat}{bs:List (List (List AV))}:(gi r g sz bs)[i]?=(bs[i]?).map fun b=>[.aw r g [i] sz 0 b.length]:=by unfold gi;rw[List.getElem?_mapIdx]
theorem rX {r g sz:Nat}{bs:List (List (List AV))}:(gi r g sz bs).length=bs.length:=by unfold gi;rw[List.length_mapIdx]
def qR (r g sz:Nat) (bs:List (List (List AV))) (i:Nat) (c:AV):d9:=dF (iy r g sz bs) [] ⟨1,(gi r g sz bs).set i [c],0,false⟩
theorem ahn {r g sz i:Nat}{bs:List (List (List AV))}{c:AV}:dF (iy r g sz bs) [] ⟨1,(gi r g sz bs).set i [c],0,false⟩=qR r g sz bs i c:=rfl
theorem M7 {N:NF}{r g r' g' sz:Nat}{bs:List (List (List AV))}(h:N r g=some (r',g')):(gi r g sz bs).map (fun e=>e.map (oO N))=gi r' g' sz bs:=by
 apply List.ext_getElem?;intro k;rw[List.getElem?_map,p7,p7];cases bs[k]? with
 | none=>rfl
 | some b=>simp[oO,h]
theorem J3 {N:NF}{r g r' g' sz:Nat}{bs:List (List (List AV))}(h:N r g=some (r',g')):iP N (iy r g sz bs)=iy r' g' sz bs:=by
 funext p;unfold iP;cases p with
 | nil=>
  rw[Ar,Ar];simp only[ma,Nat.ble];rw[M7 h]
 | cons i p=>
  cases p with
  | nil=>
   rw[yC,yC];cases bs[i]? with
   | none=>rfl
   | some b=>simp[ma,Nat.ble]
  | cons=>rfl
theorem Rq {N:NF}{f:d9}{p:List Nat}{row:Row}:iP N (dF f p row)=dF (iP N f) p (ma N row):=by
 funext q;unfold iP dF;by_cases h:q=p
 ·rw[if_pos h,if_pos h]
 rw[if_neg h,if_neg h]
theorem abx {N:NF}{r g r' g' sz i:Nat}{bs:List (List (List AV))}{c:AV}(h:N r g=some (r',g')):iP N (qR r g sz bs i c)=qR r' g' sz bs i (oO N c):=by
 unfold qR;rw[Rq,J3 h];congr 1;simp only[ma,Nat.ble];congr 1;rw[List.map_set,M7 h];rfl
theorem V4 {r g sz i:Nat}{bs:List (List (List AV))}{c:AV}:qR r g sz bs i c []=some ⟨1,(gi r g sz bs).set i [c],0,false⟩:=by unfold qR;simp[dF]
inductive r9 (σ:ak) (B g sz:Nat) (bs:List (List (List AV))) (i:Nat):AV->List (List AV)->ak->Prop
 | nil:r9 σ B g sz bs i .aG [] σ
 | shift (x:List AV) (L:List (List AV)) (h:bs[i]?=some (x::L)):r9 σ B g sz bs i (.aw B g [i] sz 1 L.length) L σ
 | row (d gd:Nat) (L:List (List AV)) (hd:d≠B) (h:bE σ d=some (gd,one ⟨sz,L,2,false⟩)):r9 σ B g sz bs i (.aw d gd [] sz 0 L.length) L (p6 σ d)
def oK (B i:Nat):AV->Bool
 | .aw r _ p _ _ _|.ptr r _ p _ _ _|.mr r _ p=>!(r==B&&p==[i])
 | .agg _|.aZ _=>false
 | _=>true
def zq (B i:Nat):AV->Bool
 | .agg cs|.aZ cs=>cs.all (oK B i)
 | v=>oK B i v
def di (B i:Nat) (row:Row):Bool:=match Nat.ble 1 row.fl with
 | true=>true
 | false=>row.es.all fun e=>e.all (oK B i)
theorem aL.oK {rd:RD}{φ φ':cj}{B i:Nat}(hφ:∀r g p,¬(r=B/\p=[i])->φ' r g p=φ r g p) {c:AV}{v:Value}(h:aL rd φ c v) (ho:E.oK B i c=true):aL rd φ' c v:=by
 have key:∀{r:Nat} {p:List Nat},(!(r==B&&p==[i]))=true->¬(r=B/\p=[i]):=by
  intro r p hk hh;rw[hh.1,hh.2]at hk;simp at hk
 cases h with
 | aw r g p sz off len pl A h1 hA hl=>exact .aw r g p sz off len pl A (by rw[hφ r g p (key ho)];exact h1) hA hl
 | ptr r g p sz i o pl b q h1 aK=>exact .ptr r g p sz i o pl b q (by rw[hφ r g p (key ho)];exact h1) aK
 | mr r g p pl b h1 aK=>exact .mr r g p pl b (by rw[hφ r g p (key ho)];exact h1) aK
 | dead v=>exact .dead v
 | sc v h=>exact .sc v h
 | aG=>exact .aG
 | iC sz A cap=>exact .iC sz A cap
 | ro sz es b q cap f hc hs hr hv=>exact(aL.ro sz es b q cap f hc hs hr hv).l9 rfl
 | rp cs b q f hs hr hv=>exact(aL.rp cs b q f hs hr hv).l9 rfl
 | agg=>cases ho
 | aZ=>cases ho
 | it r=>exact .it r
theorem aL.zq {rd:RD}{φ φ':cj}{B i:Nat}(hφ:∀r g p,¬(r=B/\p=[i])->φ' r g p=φ r g p) {c:AV}{v:Value}(h:aL rd φ c v) (ho:E.zq B i c=true):aL rd φ' c v:=by
 cases c with
 | agg cs=>
  cases h with
  | agg _ arr f hs hg hv=>exact .agg cs arr f hs hg fun j c hc=>(hv j c hc).oK hφ (List.all_eq_true.1 ho c (dk hc))
 | aZ cs=>
  cases h with
  | aZ _ arr f hs hg hv=>exact .aZ cs arr f hs hg fun j c hc=>(hv j c hc).oK hφ (List.all_eq_true.1 ho c (dk hc))
 | _=>exact h.oK hφ ho
def xj (B i:Nat):List (Nat × AV)->Bool
 | []=>true
 | x::l=>E.zq B i x.2&&xj B i l
theorem JD {B i:Nat}:∀{tm:List (Nat × AV)}{t:Nat}{v:AV},xj B i tm=true->bE tm t=some v->E.zq B i v=true
 | [],_,_,_,h=>by cases h
 | (k,u)::l,t,v,ho,h=>by
  simp only[xj,Bool.and_eq_true]at ho;simp only[gR]at h;split at h
  ·cases h;exact ho.1
  exact JD ho.2 h
def zp (B i:Nat):ak->Prop
 | []=>True
 | (k,_,f)::l=>(k=B\/∃row,f=one row/\di B i row=true)/\zp B i l
theorem JE {B i:Nat}:∀{σ:ak}{k g:Nat}{f:d9},zp B i σ->bE σ k=some (g,f)->k=B\/∃row,f=one row/\di B i row=true
 | [],_,_,_,_,h=>by cases h
 | (k0,g0,f0)::l,k,g,f,ho,h=>by
  simp only[gR]at h;split at h
  ·rename_i e;cases h;subst e;exact ho.1
  exact JE ho.2 h
theorem aB.Zx {n G:Nat}{tm:List (Nat × AV)}{σ σ1:ak}{B g sz:Nat}{bs:List (List (List AV))}{i:Nat}{c:AV}{L:List (List AV)}(hB:B<1000000)
  (hl:bE σ B=some (g,qR B g sz bs i c)) (hi:i<bs.length) (hc:r9 σ B g sz bs i c L σ1) (oj:xj B i tm=true) (hσ:zp B i σ):
  aB ⟨n,tm,σ,G⟩ ⟨n,tm,bT σ1 B (g,iy B g sz (bs.set i L)),G⟩:=by
 intro rd O w0 a w ⟨rd',φ,hx,h⟩;have hb:=h.heap;have pj:rowAt σ B g []=some ⟨1,(gi B g sz bs).set i [c],0,false⟩:=by unfold rowAt;rw[hl];simp[V4]
 have HW:∀j,rowAt σ B g [j]=(bs[j]?).map fun b=>⟨sz,b,2,false⟩:=by
  intro j;unfold rowAt;rw[hl];simp only[if_true,qR,dF];rw[if_neg (by simp),yC]
 obtain⟨uZ,qx,nt⟩:=hb.rows _ _ _ _ pj;have hle:(gi B g sz bs).length=bs.length:=rX
 have gU:∃cZ:Pl,mF rd' φ w cZ ⟨sz,L,2,false⟩/\(∀v,aL rd' φ c v->∃A,v=.slice A L.length (cZ.cap - 0)/\(cZ.cap - 0=0\/A=cZ.ad.map fun x=>cM x.1 (x.2+0 * sz))/\L.length<=cZ.cap - 0)/\
   (∀b q,cZ.ad=some (b,q)->∃r2 g2 p2 bt de q2,rowAt σ r2 g2 p2=some bt/\φ r2 g2 p2=some de/\de.ad=some (b,q2)/\bt.ao=false/\((r2=B/\p2=[i])\/(p2=[]/\r2≠B/\bE σ1 r2=none))):=by
  cases hc with
  | nil=>
   refine⟨⟨none,0⟩,⟨fun e he=>(by cases he),aR _,fun e he=>(by cases he),fun _=>rfl,fun b q h=>(by cases h),fun b q h=>(by cases h),fun ha=>(by cases ha),lI (by show(2:Nat)<3;decide)⟩,fun v hv=>?_,fun b q h=>(by cases h)⟩;cases hv;exact⟨none,rfl,.inl rfl,Nat.le_refl _⟩
  | shift x _ pT=>
   have cB:=HW i;rw[pT]at cB;obtain⟨pl,hφ,ok⟩:=hb.rows _ _ _ _ cB;have rG:L.length+1<=pl.cap:=by have:=ok.len;simpa using this
   refine⟨⟨pl.ad.map fun y=>(y.1,y.2+sz),pl.cap - 1⟩,⟨fun e he=>ok.wide e (List.mem_cons_of_mem _ he),by show L.length<=pl.cap - 1;omega,fun e he=>ok.kind e (List.mem_cons_of_mem _ he),fun hn=>?_,fun b q aK k hk=>?_,fun b q aK k j c' aU=>?_,fun ha=>(by cases ha),lI (by show(2:Nat)<3;decide)⟩,fun v hv=>?_,fun b q aK=>?_⟩
   ·have:pl.ad=none:=by simpa using hn
    have:=ok.nil this;omega
   ·obtain⟨⟨b0,q0⟩,hy,he⟩:=cP aK;simp only[Prod.mk.injEq]at he;obtain⟨rfl,rfl⟩:=he;have:=ok.room b0 q0 hy (sz+k) (by
     show sz+k<pl.cap * sz
     have:pl.cap * sz=(pl.cap - 1) * sz+sz:=by rw[<-Nat.succ_mul];congr 1;omega
     have hk:k<(pl.cap - 1) * sz:=hk;omega)
    rw[<-Nat.add_assoc]at this;exact this
   ·obtain⟨⟨b0,q0⟩,hy,he⟩:=cP aK;simp only[Prod.mk.injEq]at he;obtain⟨rfl,rfl⟩:=he;obtain⟨v,h1,h2⟩:=ok.cells b0 q0 hy (k+1) j c' (by simpa using aU);refine⟨v,?_,h2⟩;have e:q0+(k+1) * sz+j=q0+sz+k * sz+j:=by rw[Nat.succ_mul];omega
    show w.cell? (cM b0 (q0+sz+k * sz+j))=some v
    rw[<-e];exact h1
   ·cases hv with
    | aw _ _ _ _ _ _ de A h1 hA hlen=>
     rw[hφ]at h1;cases h1;refine⟨A,rfl,?_,by show L.length<=pl.cap - 1 - 0;omega⟩;rcases hA with hA|hA
     ·exact .inl hA
     refine .inr ?_;rw[hA];cases pl.ad with
     | none=>rfl
     | some y=>simp[Option.map]
   obtain⟨⟨b0,q0⟩,hy,he⟩:=cP aK;simp only[Prod.mk.injEq]at he;obtain⟨rfl,rfl⟩:=he;exact⟨B,g,[i],_,pl,q0,cB,hφ,hy,rfl,.inl ⟨rfl,rfl⟩⟩
  | row d gd _ hd rD=>
   have cB:rowAt σ d gd []=some ⟨sz,L,2,false⟩:=by unfold rowAt;rw[rD];simp[one]
   obtain⟨pl,hφ,ok⟩:=hb.rows _ _ _ _ cB;refine⟨pl,ok,fun v hv=>?_,fun b q aK=>⟨d,gd,[],_,pl,q,cB,hφ,aK,rfl,.inr ⟨rfl,hd,by rw[tY,if_pos rfl]⟩⟩⟩;cases hv with
   | aw _ _ _ _ _ _ de A h1 hA hlen=>
    rw[hφ]at h1;cases h1;exact⟨A,rfl,hA,hlen⟩
 obtain⟨cZ,Fw,GN,xR⟩:=gU;have sP:∀{k gk fk},bE σ1 k=some (gk,fk)->bE σ k=some (gk,fk):=by
  intro k gk fk hk;cases hc with
  | nil=>exact hk
  | shift=>exact hk
  | row d gd _ hd rD=>
   rw[tY]at hk;split at hk
   ·cases hk
   exact hk
 let φ':cj:=fun r gg p=>if r=B/\gg=g/\p=[i] then some cZ else φ r gg p
 have fD:∀r gg p,¬(r=B/\p=[i])->φ' r gg p=φ r gg p:=fun r gg p hn=>by
  show(if r=B/\gg=g/\p=[i] then some cZ else φ r gg p)=φ r gg p
  rw[if_neg (fun hh=>hn ⟨hh.1,hh.2.2⟩)]
 have ru:φ' B g [i]=some cZ:=by
  show(if B=B/\g=g/\[i]=[i] then some cZ else φ B g [i])=some cZ
  rw[if_pos ⟨rfl,rfl,rfl⟩]
 have cA:∀{r gg p row},rowAt (bT σ1 B (g,iy B g sz (bs.set i L))) r gg p=some row->
   (r=B/\gg=g/\p=[]/\row=⟨1,gi B g sz (bs.set i L),0,false⟩)\/(r=B/\gg=g/\p=[i]/\row=⟨sz,L,2,false⟩)\/(r=B/\gg=g/\(∃j,j≠i/\p=[j])/\rowAt σ r gg p=some row/\1<=row.fl)\/
   (r≠B/\p=[]/\rowAt σ r gg p=some row/\di B i row=true/\bE σ1 r≠none):=by
  intro r gg p row hr;rw[jM]at hr;by_cases mR:r=B
  ·rw[if_pos mR]at hr;by_cases hg:g=gg
   ·rw[if_pos hg]at hr;subst mR hg
    match p,hr with
    | [],hr=>
     rw[Ar]at hr;exact .inl ⟨rfl,rfl,rfl,(Option.some.inj hr).symm⟩
    | [j],hr=>
     rw[yC]at hr;by_cases hj:i=j
     ·subst hj;rw[List.getElem?_set_self hi]at hr;exact .inr (.inl ⟨rfl,rfl,rfl,(Option.some.inj hr).symm⟩)
     rw[List.getElem?_set_ne hj]at hr;refine .inr (.inr (.inl ⟨rfl,rfl,⟨j,fun e=>hj e.symm,rfl⟩,?_,?_⟩))
     ·rw[HW];exact hr
     obtain⟨b,-,rfl⟩:=cP hr;show 1<=2
     omega
    | _::_::_,hr=>cases hr
   rw[if_neg hg]at hr;cases hr
  rw[if_neg mR]at hr;unfold rowAt at hr;split at hr
  ·rename_i gk fk hk;split at hr
   ·rename_i hg;subst hg;have mw:=sP hk;rcases JE hσ mw with e|⟨lE,rfl,ho⟩
    ·exact absurd e mR
    obtain⟨rfl,rfl⟩:=ql hr;exact .inr (.inr (.inr ⟨mR,rfl,by unfold rowAt;rw[mw];simp[one],ho,by rw[hk];simp⟩))
   cases hr
  cases hr
 have hold:∀{r gg p row pl b q},rowAt (bT σ1 B (g,iy B g sz (bs.set i L))) r gg p=some row->φ' r gg p=some pl->pl.ad=some (b,q)->
   ∃r2 g2 p2 bt de q2,rowAt σ r2 g2 p2=some bt/\φ r2 g2 p2=some de/\de.ad=some (b,q2)/\((r2=r/\p2=p)\/(r=B/\p=[i]/\bt.ao=false/\p2=[]/\r2≠B/\bE σ1 r2=none))/\(bt.ao=false\/(bt=row/\de=pl)):=by
  intro r gg p row pl b q hr hp aK;rcases cA hr with ⟨rfl,rfl,rfl,rfl⟩|⟨rfl,rfl,rfl,rfl⟩|⟨rfl,rfl,⟨j,hj,rfl⟩,fZ,-⟩|⟨bJ,rfl,fZ,-,-⟩
  ·rw[fD _ _ _ (by simp)]at hp;rw[qx]at hp;cases hp;exact⟨_,_,_,_,_,_,pj,qx,aK,.inl ⟨rfl,rfl⟩,.inl rfl⟩
  ·rw[ru]at hp;cases hp;obtain⟨r2,g2,p2,bt,de,q2,k1,k2,k3,k4,k5⟩:=xR b q aK;rcases k5 with ⟨rfl,rfl⟩|⟨k6,k7,k8⟩
   ·exact⟨_,_,_,_,_,_,k1,k2,k3,.inl ⟨rfl,rfl⟩,.inl k4⟩
   exact⟨_,_,_,_,_,_,k1,k2,k3,.inr ⟨rfl,rfl,k4,k6,k7,k8⟩,.inl k4⟩
  ·rw[fD _ _ _ (by rintro⟨-,e⟩;cases e;exact hj rfl)]at hp;exact⟨_,_,_,_,_,_,fZ,hp,aK,.inl ⟨rfl,rfl⟩,.inr ⟨rfl,rfl⟩⟩
  rw[fD _ _ _ (by rintro⟨e,-⟩;exact bJ e)]at hp;exact⟨_,_,_,_,_,_,fZ,hp,aK,.inl ⟨rfl,rfl⟩,.inr ⟨rfl,rfl⟩⟩
 have plain:∀{row:Row} {pl:Pl},mF rd' φ w pl row->1<=row.fl->mF rd' φ' w pl row:=by
  intro row pl ok fK;refine⟨ok.wide,ok.len,ok.kind,ok.nil,ok.room,fun b q aK k j c' aU=>?_,ok.iI,ok.mp⟩;obtain⟨v,h1,h2⟩:=ok.cells b q aK k j c' aU;refine⟨v,h1,h2.l9 ?_⟩;cases he:row.es[k]? with
  | none=>rw[he]at aU;cases aU
  | some e=>
   rw[he]at aU;have:=(ok.kind e (dk he)).1 fK c' (dk aU);cases c'<;>first|rfl|cases this
 refine⟨rd',φ',⟨hx.1,fun r p pl e hr=>?_⟩,⟨?_,?_,hb.eA,?_,?_,hb.frame,hb.size,hb.os,hb.tape,hb.output⟩,fun t v hv=>(h.tm t v hv).zq fD (JD oj hv),h.size,h.defers,fun r gg p hp=>?_⟩
 ·rw[fD _ _ _ (by rintro⟨rfl,-⟩;omega)];exact hx.2 r p pl e hr
 ·intro r gg p row hr;rcases cA hr with ⟨rfl,rfl,rfl,rfl⟩|⟨rfl,rfl,rfl,rfl⟩|⟨rfl,rfl,⟨j,hj,rfl⟩,fZ,fK⟩|⟨bJ,rfl,fZ,ho,-⟩
  ·refine⟨uZ,by rw[fD _ _ _ (by simp)];exact qx,fun e he=>?_,?_,fun e he=>⟨fun hh=>absurd hh (by simp),fun hh=>absurd hh (by simp)⟩,nt.nil,nt.room,fun b q aK k j c' aU=>?_,fun ha=>(by cases ha),lI (by show(0:Nat)<3;decide)⟩
   ·obtain⟨k,hk⟩:=List.getElem?_of_mem he;rw[p7]at hk;obtain⟨y,-,rfl⟩:=cP hk;rfl
   ·have:=nt.len;simp only[List.length_set,rX]at this ⊢;exact this
   have aU:((gi r gg sz (bs.set i L))[k]?).bind (·[j]?)=some c':=aU;rw[p7]at aU;by_cases hk:i=k
   ·subst hk;rw[List.getElem?_set_self hi]at aU;simp only[Option.map_some,Option.bind_some]at aU;cases j with
    | succ j=>simp at aU
    | zero=>
     simp only[List.getElem?_cons_zero,Option.some.injEq]at aU;subst aU;obtain⟨v,h1,h2⟩:=nt.cells b q aK i 0 c (by rw[List.getElem?_set_self (by rw[rX];exact hi)];rfl);refine⟨v,h1,?_⟩;obtain⟨A,rfl,e2,e3⟩:=GN v h2;exact .aw r gg [i] sz 0 L.length cZ A ru e2 e3
   rw[List.getElem?_set_ne hk]at aU;obtain⟨v,h1,h2⟩:=nt.cells b q aK k j c' (by rw[List.getElem?_set_ne hk,p7];exact aU);refine⟨v,h1,h2.oK fD ?_⟩;cases fU:bs[k]? with
   | none=>rw[fU]at aU;cases aU
   | some y=>
    rw[fU]at aU;simp only[Option.map_some,Option.bind_some]at aU;cases j with
    | succ j=>simp at aU
    | zero=>
     simp only[List.getElem?_cons_zero,Option.some.injEq]at aU;subst aU;have:([k]==[i])=false:=by simp;omega
     simp[E.oK,this]
  ·exact⟨cZ,ru,plain Fw (by show 1<=2;omega)⟩
  ·obtain⟨pl,h1,h2⟩:=hb.rows _ _ _ _ fZ;exact⟨pl,by rw[fD _ _ _ (by rintro⟨-,e⟩;cases e;exact hj rfl)];exact h1,plain h2 fK⟩
  obtain⟨pl,h1,h2⟩:=hb.rows _ _ _ _ fZ;refine⟨pl,by rw[fD _ _ _ (by rintro⟨e,-⟩;exact bJ e)];exact h1,?_⟩;unfold di at ho;split at ho
  ·rename_i fK;exact plain h2 (Nat.le_of_ble_eq_true fK)
  refine⟨h2.wide,h2.len,h2.kind,h2.nil,h2.room,fun b q aK k j c' aU=>?_,h2.iI,h2.mp⟩;obtain⟨v,h3,h4⟩:=h2.cells b q aK k j c' aU;refine⟨v,h3,h4.oK fD ?_⟩;cases he:row.es[k]? with
  | none=>rw[he]at aU;cases aU
  | some e=>
   rw[he]at aU;exact List.all_eq_true.1 (List.all_eq_true.1 ho e (dk he)) c' (dk aU)
 ·intro r1 g1 p1 fy r2 g2 p2 bt jm de b q1 q2 e1 e2 e3 e4 e5 e6;obtain⟨s1,t1,u1,x1,y1,z1,m1,m2,m3,m4,-⟩:=hold e1 e3 e5;obtain⟨s2,t2,u2,x2,y2,z2,n1,n2,n3,n4,-⟩:=hold e2 e4 e6;obtain⟨k1,k2⟩:=hb.sep _ _ _ _ _ _ _ _ _ _ _ _ _ m1 n1 m2 n2 m3 n3;have dead:∀{r gg p row},rowAt (bT σ1 B (g,iy B g sz (bs.set i L))) r gg p=some row->r≠B->bE σ1 r≠none:=by
   intro r gg p row hr bJ;rcases cA hr with ⟨rfl,-⟩|⟨rfl,-⟩|⟨rfl,-⟩|⟨-,-,-,-,hh⟩
   ·exact absurd rfl bJ
   ·exact absurd rfl bJ
   ·exact absurd rfl bJ
   exact hh
  rcases m4 with ⟨rfl,rfl⟩|⟨rfl,rfl,-,hm,KU,oq⟩<;>rcases n4 with ⟨rfl,rfl⟩|⟨rfl,rfl,-,hn,KP,KQ⟩
  ·exact⟨k1,k2⟩
  ·subst k1;exact absurd KQ (dead e1 KP)
  ·subst k1;exact absurd oq (dead e2 KU)
  exact⟨rfl,rfl⟩
 ·intro r gg p row pl b q e1 e2 e3 k dI;obtain⟨s1,t1,u1,x1,y1,z1,m1,m2,m3,-,m5⟩:=hold e1 e2 e3;rcases m5 with m5|⟨rfl,rfl⟩
  ·exact hb.eF _ _ _ _ _ _ _ m1 m2 m3 k (.inl m5)
  rw[e3]at m3;cases m3;exact hb.eF _ _ _ _ _ _ _ m1 m2 e3 k dI
 ·intro r gg p row pl b q e1 e2 e3;obtain⟨s1,t1,u1,x1,y1,z1,m1,m2,m3,-,-⟩:=hold e1 e2 e3;exact hb.own _ _ _ _ _ _ _ m1 m2 m3
 have hp:(if r=B/\gg=g/\p=[i] then some cZ else φ r gg p)≠none:=hp;split at hp
 ·rename_i e;obtain⟨rfl,rfl,-⟩:=e;exact h.gen r gg [] (by rw[qx];simp)
 exact h.gen r gg p hp
section
set_option linter.unusedSimpArgs false
structure et where
 many:Int
 eH:Int
 bB:Int
 room:Int
 inbox:Int
structure bQ where
 kind:Int
 node:Int
 arg:Int
 text:ByteArray
structure dK where
 kind:Int
 node:Int
 bh:Int
 sort:Int
 code:Int
 jn:cg
 pt:cg
 proof:List aX
structure ae where
 set:et
 log:List ByteArray
 aj:List bz
 cls:List bw
 cS:c9
 up:List Bool
 ai:List (List aC)
 room:Int
 aO:List aC
 book:List dK
 stop:Bool
def dK.cs (e:dK):List AV:=[vI e.kind,vI e.node,vI e.bh,vI e.sort,vI e.code,vI e.jn.size,vU e.jn.root.a,vU e.jn.root.b,vU e.jn.root.c,vU e.jn.root.d,vI e.pt.size,vU e.pt.root.a,vU e.pt.root.b,vU e.pt.root.c,vU e.pt.root.d,.ro 4 (e.proof.map aX.cs)]
def bz.rc (w:bz):List AV:=w.cs (.ro 7 (w.aQ.map bD.cs))
def bw.rc (c:bw):List AV:=c.cs (.ro 1 (c.bj.map dz))
def c9.rc (m:c9):List AV:=m.cs (.ro 1 (m.cl.bj.map dz)) (.ro 1 (m.az.map cF))
def dw (b:Bool):List AV:=[vB b]
def ae.bx (w:ae):List (List (List AV)):=w.ai.map fun b=>b.map aC.cs
def ae.cells (w:ae) (k d:Nat):List AV:=
 [vI w.set.many,vI w.set.eH,vI w.set.bB,vI w.set.room,vI w.set.inbox,.ro 1 (w.log.map cF),.aw k 0 [] 15 0 w.aj.length,.aw (k+d) 0 [] 15 0 w.cls.length]++(w.cS.rc++
 [.aw (k+2 * d) 0 [] 1 0 w.up.length,.aw (k+3 * d) 0 [] 1 0 w.ai.length,vI w.room,.ro 3 (w.aO.map aC.cs),.aw (k+4 * d) 0 [] 16 0 w.book.length,vB w.stop])
def ae.rows (w:ae) (k d:Nat):ak:=
 [(k,0,one ⟨15,w.aj.map bz.rc,1,false⟩),(k+d,0,one ⟨15,w.cls.map bw.rc,1,false⟩),(k+2 * d,0,one ⟨1,w.up.map dw,2,false⟩),(k+3 * d,0,iy (k+3 * d) 0 3 w.bx),(k+4 * d,0,one ⟨16,w.book.map dK.cs,1,false⟩)]
def lK (w:ae) (x:aC):ae:=if (w.aO.length:Int)>=w.room then w else {w with aO:=w.aO++[x]}
def fP (w:ae) (l:List aC):ae:=l.foldl lK w
def ik (w:ae) (e:dK):ae:={w with book:=w.book++[e]}
def il (w:ae) (node:Int) (l:List ez):ae:=l.foldl (fun w a=>ik w ⟨4,node,a.bh,a.kind,a.code,a.held,a.told,[]⟩) w
def iD (w:ae) (kind node:Int) (l:List cg):ae:=l.foldl (fun w p=>ik w ⟨kind,node,0,0,0,.zero,p,[]⟩) w
def ij (s:et):Bool:=aS s.many 1 5&&(aS s.eH 1 s.many&&(decide (IntKind.i64.wrap (2 * s.eH)>s.many)&&(aS s.bB 1 3&&(aS s.room 1 64&&aS s.inbox 1 64))))
theorem ea {s:et}(h:ij s=true):(1<=s.many/\s.many<=5)/\(1<=s.eH/\s.eH<=s.many)/\s.many<2 * s.eH/\(1<=s.bB/\s.bB<=3)/\(1<=s.room/\s.room<=64)/\(1<=s.inbox/\s.inbox<=64):=by
 simp only[ij,Bool.and_eq_true,cr,decide_eq_true_eq]at h;obtain⟨h1,h2,h3,h4,h5,h6⟩:=h;rw[aN (by omega)]at h3;exact⟨h1,h2,by omega,h4,h5,h6⟩
end
section
set_option maxHeartbeats 4000000
set_option maxRecDepth 10000
set_option linter.unusedSimpArgs false
set_option linter.unusedSectionVars false
def yp:cc:=⟨[],cw,cz,false⟩
attribute [-go_sem] ei
def et.cs (s:et):List AV:=[vI s.many,vI s.eH,vI s.bB,vI s.room,vI s.inbox]
def wS (w:ae) (k d:Nat):ak:=(1000000,0,one ⟨35,[w.cells k d],0,false⟩)::w.rows k d
def eL (w:ae):ak:=wS w 1000001 1
def iA (w:ae):ak:=wS w 0 1
def eI:AV:=.ptr 1000000 0 [] 35 0 0
attribute [go_sem] et.cs wS eL iA eI ae.cells ae.rows c9.rc
theorem QT {r g:Nat}:∀{l:List (List AV)},(∀e∈l,q8 e=[(r,g)])->xn [(r,g)] l=[(r,g)]
 | [],_=>rfl
 | e::l,h=>by
  have he:=h e (List.mem_cons_self ..);have:xD (q8 e) [(r,g)]=[(r,g)]:=by
   rw[he];simp[xD,Gg]
  show xn (xD (q8 e) [(r,g)]) l=[(r,g)]
  rw[this];exact QT fun x hx=>h x (List.mem_cons_of_mem _ hx)
theorem aa2 {r g:Nat}{l:List (List AV)}(hl:0<l.length) (h:∀e∈l,q8 e=[(r,g)]):ei l=[(r,g)]:=by
 cases l with
 | nil=>exact absurd hl (by decide)
 | cons e l=>
  cases l with
  | nil=>exact h e (List.mem_cons_self ..)
  | cons e' l=>
   show xn (xD (q8 e) []) (e'::l)=_
   rw[h e (List.mem_cons_self ..)];exact QT fun x hx=>h x (List.mem_cons_of_mem _ hx)
theorem dR {bs:List (List (List AV))}(h:0<bs.length):∀r g sz,ei (gi r g sz bs)=[(r,g)]:=by
 intro r g sz;refine aa2 (by rw[rX];exact h) fun e he=>?_
 obtain⟨i,hi⟩:=List.getElem?_of_mem he;rw[p7]at hi;obtain⟨b,-,rfl⟩:=cP hi;rfl
def bxN (N:NF) (r g sz:Nat) (bs:List (List (List AV))):d9:=iP N (iy r g sz bs)
def V7 (sz:Nat) (bs:List (List (List AV))) (f:d9):Option (Nat × Nat)->d9
 | some x=>iy x.1 x.2 sz bs
 | none=>f
theorem aby {N:NF}{r g sz:Nat}{bs:List (List (List AV))}:iP N (iy r g sz bs)=V7 sz bs (bxN N r g sz bs) (N r g):=by
 cases h:N r g with
 | none=>rfl
 | some x=>exact J3 h
theorem aa4:ei []=[]:=rfl
theorem aa3 {e:List AV}:ei [e]=q8 e:=rfl
theorem aa1 {e e':List AV}{l:List (List AV)}:ei (e::e'::l)=xn [] (e::e'::l):=rfl
attribute [go_sem] aa4 aa3 aa1 Ar yC p7 rX aby V7
theorem dh (w:ae):w.bx.length=w.ai.length:=List.length_map _
theorem UX (s:et):ba Tryz.prog 72 [.agg s.cs] (vB (ij s)) []:=by
 refine aF yp false Tryz.f72 ?_;conv=>enter[1];reduce
 refine bu Tryz.f72 36 [.tmp 2] (by kernel_rfl) (by decide +kernel) rfl ?_;unfold ij;simp -implicitDefEqProofs only[go_sem]
 repeat' first|(refine aq.intro (by first|exact dQ _ _ _) ?_;try simp -implicitDefEqProofs only[go_sem,bb])|(refine aE.intro (by first|exact dQ _ _ _) ?_;try simp -implicitDefEqProofs only[go_sem,bb])|(refine fv (fun h=>?_) (fun h=>?_)<;>try simp -implicitDefEqProofs only[go_sem,bb,h])|(refine bX (fun h=>?_) (fun h=>?_)<;>try simp -implicitDefEqProofs only[go_sem,bb,h])
 all_goals first
  | exact⟨rfl,rfl⟩
  | (simp_all;done)
theorem afQ (s:et):ba Tryz.prog 40 [.agg s.cs] (vB (ij s)) []:=by
 refine aF yp false Tryz.f40 ?_;conv=>enter[1];reduce
 refine bu Tryz.f40 36 [.tmp 2] (by kernel_rfl) (by decide +kernel) rfl ?_;unfold ij;simp -implicitDefEqProofs only[go_sem]
 repeat' first|(refine aq.intro (by first|exact fG _ _ _) ?_;try simp -implicitDefEqProofs only[go_sem,bb])|(refine aE.intro (by first|exact fG _ _ _) ?_;try simp -implicitDefEqProofs only[go_sem,bb])|(refine fv (fun h=>?_) (fun h=>?_)<;>try simp -implicitDefEqProofs only[go_sem,bb,h])|(refine bX (fun h=>?_) (fun h=>?_)<;>try simp -implicitDefEqProofs only[go_sem,bb,h])
 all_goals first
  | exact⟨rfl,rfl⟩
  | (simp_all;done)
theorem UW (s:et) (h:ij s=true):ba Tryz.prog 74 [.agg s.cs] (vI (s.many+s.bB+1)) []:=by
 refine aF yp false Tryz.f74 ?_;conv=>enter[1];reduce
 refine bu Tryz.f74 12 [.tmp 2] (by kernel_rfl) (by decide +kernel) rfl ?_;have hs:=ea h;have h1:IntKind.i64.wrap (s.many+s.bB)=s.many+s.bB:=aN (by omega);have h2:IntKind.i64.wrap (s.many+s.bB+1)=s.many+s.bB+1:=aN (by omega);refine au ?_;refine aq.intro (UX s) ?_;rw[h];exact dp h1 h2
theorem ag9 (w:ae) (h:ij w.set=true) (hb:0<w.ai.length):aY Tryz.prog 106 (eL w) [eI] (vI (w.set.many+w.set.bB+1)) (eL w):=by
 refine aF yp false Tryz.f106 ?_;conv=>enter[1];reduce
 refine bI Tryz.f106 8 [.tmp 2] (by kernel_rfl) (by decide +kernel) rfl ?_;have hx:=dR (bs:=w.bx) (by rw[dh];exact hb);refine au ?_;refine aq.intro (UW w.set h) ?_;exact eE hx
theorem aha (w:ae) (n:Int) (hb:0<w.ai.length):aY Tryz.prog 105 (eL w) [eI,vI n] (vB (aS n 1 w.set.many)) (eL w):=by
 refine aF yp false Tryz.f105 ?_;conv=>enter[1];reduce
 refine bI Tryz.f105 12 [.tmp 4] (by kernel_rfl) (by decide +kernel) rfl ?_;have hx:=dR (bs:=w.bx) (by rw[dh];exact hb);refine au ?_;refine aq.intro (dQ _ _ _) ?_;exact eE hx
theorem HO (w:ae) (n:Int) (hs:ij w.set=true) (hn:0<=n/\n<=1000) (hb:0<w.ai.length):aY Tryz.prog 107 (eL w) [eI,vI n] (vI (if aS n (w.set.many+1) (w.set.many+w.set.bB) then n - w.set.many - 1 else -1)) (eL w):=by
 refine aF yp false Tryz.f107 ?_;conv=>enter[1];reduce
 refine bI Tryz.f107 33 [.tmp 4] (by kernel_rfl) (by decide +kernel) rfl ?_;have hx:=dR (bs:=w.bx) (by rw[dh];exact hb);have h:=ea hs;have h1:IntKind.i64.wrap (w.set.many+w.set.bB)=w.set.many+w.set.bB:=aN (by omega);have h2:IntKind.i64.wrap (w.set.many+1)=w.set.many+1:=aN (by omega);have h3:IntKind.i64.wrap (n - w.set.many)=n - w.set.many:=aN (by omega);have h4:IntKind.i64.wrap (n - w.set.many - 1)=n - w.set.many - 1:=aN (by omega);refine b8 h1 h2 ?_;refine aq.intro (dQ _ _ _) ?_;cases hc:aS n (w.set.many+1) (w.set.many+w.set.bB) with
 | true=>simp -implicitDefEqProofs only[go_sem,h3,h4,hx]
 | false=>simp -implicitDefEqProofs only[go_sem,hx]
def dK.Fw (l:List dK):Prop:=l.length<=4000000000
theorem dK.wide (l:List dK):fN 16 (l.map dK.cs)=true:=by
 induction l with
 | nil=>rfl
 | cons a l ih=>simp only[List.map_cons,fN,ih,dK.cs];rfl
attribute [go_sem] dK.wide
theorem TP (l:List dK) (h:l.length<=4000000000):∀x,(l.map dK.cs++[x]).length<=maxLen/\(l.map dK.cs++[x]).length * 144<=140737488355328:=fun x=>ed (E:=dK.cs) (l:=l) (xs:=[x]) (b:=144) (n:=4000000001) (by simp;omega) (by omega) (by omega)
theorem VJ (w:ae) (e:dK) (h:w.book.length<=4000000000) (hb:0<w.ai.length):aY Tryz.prog 166 (eL w) [eI,.agg e.cs] (.aZ []) (iA (ik w e)):=by
 refine aF yp false Tryz.f166 ?_;conv=>enter[1];reduce
 refine bI Tryz.f166 14 [] (by kernel_rfl) (by decide +kernel) rfl ?_;have hx:=dR (bs:=w.bx) (by rw[dh];exact hb);have ha:=TP w.book h;unfold ik;simp -implicitDefEqProofs only[go_sem,ha,dK.cs,hx];simp only[gj,dK.cs];rfl
end
def jZ (σ:ak):AV->Option (ak × AV)
 | .aZ vs=>(o8 σ vs).map fun x=>(x.1,.aZ x.2)
 | v=>iI σ v
theorem Tt {rd:RD}{φ:cj}{O:Nat->Prop}{w0 w:World}{σ σ':ak}{c c':AV}{v:Value}(h:bc rd φ O w0 σ w) (hv:aL rd φ c v) (hf:jZ σ c=some (σ',c')):
  r8 rd φ O w0 w σ' fun rd'=>∀φ',aL rd' φ' c' v:=by
 cases c with
 | aZ vs=>
  obtain⟨arr,rfl,hp⟩:=PW.tS hv;simp only[jZ]at hf;obtain⟨⟨σ1,uy⟩,h1,hf⟩:=cP hf;cases hf;obtain⟨eh,x1,k1,v1⟩:=Hb h hp h1;refine⟨eh,x1,k1,fun φ'=>?_⟩;have hq:=v1 φ';refine .aZ uy arr (fun j=>arr.getD j undef) (by rw[hq.1];simp) (fun j c hc=>?_) (fun j c hc=>?_)
  ·obtain⟨u,hu,hr⟩:=hq.2 j c hc;have hu:arr[j]?=some u:=by simpa using hu
   rw[hu,Array.getD_eq_getD_getElem?,hu];rfl
  obtain⟨u,hu,hr⟩:=hq.2 j c hc;have hu:arr[j]?=some u:=by simpa using hu
  rw[Array.getD_eq_getD_getElem?,hu];exact hr
 | _=>exact C2 h hv hf
def C8 (σ:ak) (r i j:Nat):Option ak:=(bE σ r).bind fun gf=>(gf.2 []).bind fun row=>(row.es[i]?).bind fun e=>(e[j]?).bind fun c=>rK r gf.1 [] i j c σ
def tc (σ:ak) (r:Nat):Option ak:=(bE σ r).bind fun gf=>(gf.2 []).bind fun row=>match row.es.all fun e=>e.all kb,Nat.beq row.fl 0,row.ao with
 | true,true,false=>some (bT σ r (gf.1,dF gf.2 [] ⟨row.sz,row.es,1,false⟩))
 | _,_,_=>none
theorem bc.tc {rd:RD}{φ:cj}{O:Nat->Prop}{w0 w:World}{σ σ':ak}{r:Nat}(h:bc rd φ O w0 σ w) (hf:E.tc σ r=some σ'):bc rd φ O w0 σ' w:=by
 unfold E.tc at hf;obtain⟨⟨g,f⟩,hl,hf⟩:=cG hf;obtain⟨row,hr,hf⟩:=cG hf;split at hf
 case h_2=>cases hf
 rename_i h1 h2 h3;cases hf;have fZ:f []=some row:=hr;have cB:rowAt σ r g []=some row:=by unfold rowAt;rw[hl];simp[fZ]
 obtain⟨pl,hφ,aI⟩:=h.rows r g [] row cB;have cA:=fun {r2 g2 p2 bt} (hr:rowAt (bT σ r (g,dF f [] ⟨row.sz,row.es,1,false⟩)) r2 g2 p2=some bt)=>xc hl hr
 have lP:∀{r2 g2 p2 bt},rowAt (bT σ r (g,dF f [] ⟨row.sz,row.es,1,false⟩)) r2 g2 p2=some bt->∃x,rowAt σ r2 g2 p2=some x:=by
  intro r2 g2 p2 bt hr;rcases cA hr with ⟨rfl,rfl,rfl,rfl⟩|⟨h1,_⟩
  ·exact⟨_,cB⟩
  exact⟨_,h1⟩
 refine⟨?_,?_,h.eA,?_,?_,h.frame,h.size,h.os,h.tape,h.output⟩
 ·intro r2 g2 p2 bt hr;rcases cA hr with ⟨rfl,rfl,rfl,rfl⟩|⟨hr,bJ⟩
  ·exact⟨pl,hφ,aI.wide,aI.len,fun e he=>⟨fun _ c hc=>List.all_eq_true.1 (List.all_eq_true.1 h1 e he) c hc,fun h=>absurd h (by simp)⟩,aI.nil,aI.room,aI.cells,fun ha=>(by cases ha),lI (by show(1:Nat)<3;decide)⟩
  exact h.rows _ _ _ _ hr
 ·intro r1 g1 p1 fy r2 g2 p2 bt jm de b q1 q2 h1 h2 h3 h4 h5 h6;obtain⟨x1,e1⟩:=lP h1;obtain⟨x2,e2⟩:=lP h2;exact h.sep _ _ _ _ _ _ _ _ _ _ _ _ _ e1 e2 h3 h4 h5 h6
 ·intro r2 g2 p2 bt de b2 q2 h1 h2 nJ k dI;rcases cA h1 with ⟨rfl,rfl,rfl,rfl⟩|⟨h1,_⟩
  ·exact h.eF _ _ _ _ _ _ _ cB h2 nJ k (.inl h3)
  exact h.eF _ _ _ _ _ _ _ h1 h2 nJ k dI
 intro r1 g1 p1 fy jm b q1 h1 h2 h3;obtain⟨x1,e1⟩:=lP h1;exact h.own _ _ _ _ _ _ _ e1 h2 h3
def kU (σ:ak):List (Nat × Nat × Nat)->Option ak
 | []=>some σ
 | (r,i,j)::l=>(C8 σ r i j).bind fun σ'=>(tc σ' r).bind fun σ''=>kU σ'' l
theorem adZ {rd:RD}{φ:cj}{O:Nat->Prop}{w0 w:World}{σ σ':ak}{r i j:Nat}(h:bc rd φ O w0 σ w) (hf:C8 σ r i j=some σ'):∃rd',Ext O w0 rd rd'/\bc rd' φ O w0 σ' w:=by
 unfold C8 at hf;obtain⟨⟨g,f⟩,hl,hf⟩:=cG hf;obtain⟨row,hr,hf⟩:=cG hf;obtain⟨e,he,hf⟩:=cG hf;obtain⟨c,hc,hf⟩:=cG hf;exact h.rK hl hr he hc hf
theorem Ow {φ:cj}{O:Nat->Prop}{w0 w:World}:∀{l:List (Nat × Nat × Nat)}{rd:RD}{σ σ':ak},bc rd φ O w0 σ w->kU σ l=some σ'->∃rd',Ext O w0 rd rd'/\bc rd' φ O w0 σ' w
 | [],rd,σ,σ',h,hf=>by cases hf;exact⟨rd,.refl,h⟩
 | (r,i,j)::l,rd,σ,σ',h,hf=>by
  simp only[kU]at hf;obtain⟨σ1,h1,hf⟩:=cG hf;obtain⟨σ2,h2,hf⟩:=cG hf;obtain⟨eh,x1,k1⟩:=adZ h h1;obtain⟨dV,x2,k2⟩:=Ow (k1.tc h2) hf;exact⟨dV,x1.trans x2,k2⟩
theorem aY.val {P:Program}{n:Nat}{σin:ak}{args:List AV}{res Bt:AV}{σout σ':ak}(l:List (Nat × Nat × Nat)) (h:aY P n σin args res σout) (hf:((kU σout l).bind fun σ=>jZ σ res)=some (σ',Bt)):aY P n σin args Bt []:=by
 obtain⟨σ1,h1,h2⟩:=cG hf;refine⟨h.1,fun w rd φ ew qC hh fL=>(h.2 w rd φ ew qC hh fL).mono ?_⟩;rintro e w' ⟨v,rd',φ',rfl,x2,hm,h3,xO⟩;obtain⟨eh,x3,h4⟩:=Ow h3 h1;obtain⟨dV,x4,h5,hv⟩:=Tt h4 (xO.mono x3.1 (fun _ _ _ _ h=>h)) h2;exact⟨v,dV,φ',rfl,(x2.trans x3).trans x4,hm,h5.less (fun r g p row hr=>by simp[rowAt,bE]at hr),hv φ'⟩
def YY (l:List AV):Bool:=l.all sf
theorem ba.val {P:Program}{n:Nat}{args:List AV}{res Bt:AV}{rf:List (List Nat × Row)}{σ':ak}(h:ba P n args res rf) (ha:YY args=true) (hf:jZ (l5 rf) res=some (σ',Bt)):aY P n [] args Bt []:=by
 refine⟨h.1,fun w rd φ ew qC hh fL=>(h.2 w rd ew hh.eA ⟨fL.1,fun j c hc=>?_⟩).mono ?_⟩
 ·obtain⟨v,hv,hr⟩:=fL.2 j c hc;exact⟨v,hv,hr.l9 (List.all_eq_true.1 ha c (dk hc))⟩
 rintro e w' ⟨v,rd',ψ,rfl,x2,h3,xO⟩;obtain⟨dV,x4,h5,hv⟩:=Tt h3 xO hf;have hx:=x2.trans x4;have hO:∀b,¬ic φ [] b:=by
  rintro b ⟨r,g,p,row,pl,q,hr,-⟩;simp[rowAt,bE]at hr
 refine⟨v,dV,φ,rfl,⟨hx.1,fun b o hb _=>hx.2 b o hb (fun h=>h)⟩,fun r p pl hp _=>hp,?_,hv φ⟩;have eU:∀{r g p row},rowAt ([]:ak) r g p=some row->False:=by
  intro r g p row hr;simp[rowAt,bE]at hr
 exact⟨fun r g p row hr=>(eU hr).elim,fun r g p row r' g' p' cC pl cZ b q q' hr=>(eU hr).elim,h5.eA,fun r g p row pl b q hr=>(eU hr).elim,fun r g p row pl b q hr=>(eU hr).elim,fun b hb _=>h5.frame b hb (fun h=>h),h5.size,h5.os,h5.tape,h5.output⟩
section
set_option maxHeartbeats 4000000
set_option maxRecDepth 10000
set_option linter.unusedSimpArgs false
set_option linter.unusedSectionVars false
def cW.rv (t:cW):AV:=.agg (t.cs (.ro 1 (t.cl.bj.map dz)) (.ro 3 (t.bR.map aC.cs)) (.ro 13 (t.dN.map ez.cs)) (.ro 5 (t.acc.map cg.cs)))
theorem EI (t:cW):∃σ,((kU t.sA []).bind fun σ=>jZ σ t.tt)=some (σ,t.rv):=by
 have h:(((kU t.sA []).bind fun σ=>jZ σ t.tt).map fun x=>x.2)=some t.rv:=by
  simp -implicitDefEqProofs only[go_sem,kU,jZ,cW.rv,sub]
 obtain⟨⟨σ,v⟩,h1,h2⟩:=cP h;cases h2;exact⟨σ,h1⟩
theorem X1 (c:bw) (me:Int) (hl:c.bj.length<=maxLen):aY Tryz.prog 228 [] [c.ro,vI me] (fY c me).rv []:=by
 obtain⟨σ,h⟩:=EI (fY c me);exact(Vl c me hl).val [] h
end
end Go.Proofs.YtobpfkgabdeefaaGreat.E
