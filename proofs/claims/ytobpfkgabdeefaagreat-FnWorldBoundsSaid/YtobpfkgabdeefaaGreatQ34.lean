/- Boxes folded anew, whatever was appended to; cuts put into a text where one wants them; Contracts: the first letter of a box; Contracts: a node hears the first letter of its box (the log, clients, the monitor); Contracts: a node hears the first letter of its box (witnesses); Contracts: the first letter of a box, in the reference; Rows in which nil slices are told as slices of nothing -/
import Derived.Test.YtobpfkgabdeefaaGreatQ33
namespace Go.Proofs.YtobpfkgabdeefaaGreat.E
open Go Go.RowKit
set_option linter.unusedVariables false
theorem bO.step {M:St->Prop}{s s':St}(h:aB s s') (k:bO M s'):bO M s:=by
 obtain⟨eO,h1,h2⟩:=k;exact⟨eO,h.trans h1,h2⟩
theorem r9.Pa {σ:ak}{B g sz:Nat}{bs:List (List (List AV))}{i n:Nat}(x:List AV) {L:List (List AV)}(h:bs[i]?=some (x::L)) (hn:L.length=n):r9 σ B g sz bs i (.aw B g [i] sz 1 n) L σ:=hn▸.shift x L h
theorem r9.cC {σ:ak}{B g sz:Nat}{bs:List (List (List AV))}{i n d gd:Nat}{L:List (List AV)}(hd:d≠B) (h:bE σ d=some (gd,one ⟨sz,L,2,false⟩)) (hn:L.length=n):r9 σ B g sz bs i (.aw d gd [] sz 0 n) L (p6 σ d):=hn▸.row d gd L hd h
def dO (P:Program) (rs:List ResultVar) (res:AV) (σout:ak) (s:St):Prop:=bO (mG P rs · res σout) s
theorem dO.intro {P:Program}{rs:List ResultVar}{res:AV}{σout:ak}{s s':St}(h:aB s s') (k:mG P rs s' res σout):dO P rs res σout s:=⟨s',h,k⟩
theorem dO.step {P:Program}{rs:List ResultVar}{res:AV}{σout:ak}{s s':St}(h:aB s s') (k:dO P rs res σout s'):dO P rs res σout s:=bO.step h k
def Jb (P:Program) (rs:List ResultVar) (res:AV) (σout:ak):Exit->St->Prop:=ze P rs res σout
theorem Zp {P:Program}{rs:List ResultVar}{res:AV}{σout:ak}{s:St}:Jb P rs res σout .ret s=dO P rs res σout s:=rfl
theorem Zq {P:Program}{rs:List ResultVar}{res:AV}{σout:ak}{s:St}:Jb P rs res σout .normal s=dO P rs res σout s:=rfl
theorem rl {P:Program}{n:Nat}{c:SC J}(fn:Func) (N:Nat) (rs:List ResultVar) {σin:ak}{args:List AV}{res:AV}{σout:ak}
  (h:(P.funcs[n]?,fn.body.map strip,fn.name== "runtime.NumGoroutine",fn.ntmps,fn.results.toList,P.follows .mixedOrders)=(some fn,some (fx c),false,N,rs,true)) (hd:kL c=true) (hs:Kt c=true) (hlen:Nat.ble args.length N=true)
  (hv:jv P c ⟨N,mB 0 args,σin,1⟩ (Jb P rs res σout)):yK c (aY P n σin args res σout):=acx fn N rs h hd hs hlen hv
theorem aci {ks:List Nat}{n G:Nat}{tm:List (Nat × AV)}{σ:ak}:Gc ks ⟨n,tm,σ,G⟩=⟨n,qu ks tm,σ,G⟩:=rfl
attribute [go_sem] Zp Zq aci
def rS:List Nat->SC J->SC J
 | [],.sq _ a b=>.ct a b
 | [],.seq a b=>.ct a b
 | 0::l,.sq ks a b=>.sq ks a (rS l b)
 | 0::l,.seq a b=>.seq a (rS l b)
 | 0::l,.ct a b=>.ct a (rS l b)
 | 1::l,.sq ks a b=>.sq ks (rS l a) b
 | 1::l,.seq a b=>.seq (rS l a) b
 | 1::l,.ct a b=>.ct (rS l a) b
 | 1::l,.block id a=>.block id (rS l a)
 | 1::l,.lp ks a=>.lp ks (rS l a)
 | 1::l,.cond c a b=>.cond c (rS l a) b
 | 2::l,.cond c a b=>.cond c a (rS l b)
 | _,c=>c
def Uv:List (List Nat)->SC J->SC J
 | [],c=>c
 | x::l,c=>Uv l (rS x c)
theorem yV {G:Prop}(l:List (List Nat)) (D:cc) (ct:Bool) (fn:Func) (h:yK (Uv l (Ua D ct fn)) G):G:=h
def Ks (B i:Nat):AV->Bool
 | .aw r _ p _ _ _=>Nat.beq r B&&(p==[i])
 | _=>false
theorem aB.Zw {n G:Nat}{tm:List (Nat × AV)}{σ σ1:ak}{B g sz:Nat}{bs:List (List (List AV))}{i:Nat}{c:AV}{L:List (List AV)}(hB:B<1000000)
  (F:d9) (hl:bE σ B=some (g,F)) (hF0:F []=some ⟨1,(gi B g sz bs).set i [c],0,false⟩) (hFj:∀j,j≠i->F [j]=(bs[j]?).map fun b=>⟨sz,b,2,false⟩) (CU:Ks B i c=true->F [i]=(bs[i]?).map fun b=>⟨sz,b,2,false⟩) (hi:i<bs.length) (hc:r9 σ B g sz bs i c L σ1) (oj:xj B i tm=true) (hσ:zp B i σ):
  aB ⟨n,tm,σ,G⟩ ⟨n,tm,bT σ1 B (g,iy B g sz (bs.set i L)),G⟩:=by
 intro rd O w0 a w ⟨rd',φ,hx,h⟩;have hb:=h.heap;have pj:rowAt σ B g []=some ⟨1,(gi B g sz bs).set i [c],0,false⟩:=by unfold rowAt;rw[hl];simp[hF0]
 have HW:∀j,j≠i->rowAt σ B g [j]=(bs[j]?).map fun b=>⟨sz,b,2,false⟩:=by
  intro j hj;unfold rowAt;rw[hl];simp only[if_true];exact hFj j hj
 obtain⟨uZ,qx,nt⟩:=hb.rows _ _ _ _ pj;have hle:(gi B g sz bs).length=bs.length:=rX
 have gU:∃cZ:Pl,mF rd' φ w cZ ⟨sz,L,2,false⟩/\(∀v,aL rd' φ c v->∃A,v=.slice A L.length (cZ.cap - 0)/\(cZ.cap - 0=0\/A=cZ.ad.map fun x=>cM x.1 (x.2+0 * sz))/\L.length<=cZ.cap - 0)/\
   (∀b q,cZ.ad=some (b,q)->∃r2 g2 p2 bt de q2,rowAt σ r2 g2 p2=some bt/\φ r2 g2 p2=some de/\de.ad=some (b,q2)/\bt.ao=false/\((r2=B/\p2=[i])\/(p2=[]/\r2≠B/\bE σ1 r2=none))):=by
  cases hc with
  | nil=>
   refine⟨⟨none,0⟩,⟨fun e he=>(by cases he),aR _,fun e he=>(by cases he),fun _=>rfl,fun b q h=>(by cases h),fun b q h=>(by cases h),fun ha=>(by cases ha),lI (by show(2:Nat)<3;decide)⟩,fun v hv=>?_,fun b q h=>(by cases h)⟩;cases hv;exact⟨none,rfl,.inl rfl,Nat.le_refl _⟩
  | shift x _ pT=>
   have cB:rowAt σ B g [i]=(bs[i]?).map fun b=>⟨sz,b,2,false⟩:=by
    unfold rowAt;rw[hl];simp only[if_true];exact CU (by simp[Ks])
   rw[pT]at cB;obtain⟨pl,hφ,ok⟩:=hb.rows _ _ _ _ cB;have rG:L.length+1<=pl.cap:=by have:=ok.len;simpa using this
   refine⟨⟨pl.ad.map fun y=>(y.1,y.2+sz),pl.cap - 1⟩,⟨fun e he=>ok.wide e (List.mem_cons_of_mem _ he),by show L.length<=pl.cap - 1;omega,fun e he=>ok.kind e (List.mem_cons_of_mem _ he),fun hn=>?_,fun b q aK k hk=>?_,fun b q aK k j c' aU=>?_,fun ha=>(by cases ha),lI (by show(2:Nat)<3;decide)⟩,fun v hv=>?_,fun b q aK=>?_⟩
   ·have:pl.ad=none:=by simpa using hn
    have:=ok.nil this;omega
   ·obtain⟨⟨b0,q0⟩,hy,he⟩:=cP aK;simp only[Prod.mk.injEq]at he;obtain⟨rfl,rfl⟩:=he;have:=ok.room b0 q0 hy (sz+k) (by
     show sz+k<pl.cap * sz
     have:pl.cap * sz=(pl.cap - 1) * sz+sz:=by rw[<-Nat.succ_mul];congr 1;omega
     have hk:k<(pl.cap - 1) * sz:=hk;omega)
    rw[<-Nat.add_assoc]at this;exact this
   ·obtain⟨⟨b0,q0⟩,hy,he⟩:=cP aK;simp only[Prod.mk.injEq]at he;obtain⟨rfl,rfl⟩:=he;obtain⟨v,h1,h2⟩:=ok.cells b0 q0 hy (k+1) j c' (by simpa using aU);refine⟨v,?_,h2⟩;have e:q0+(k+1) * sz+j=q0+sz+k * sz+j:=by rw[Nat.succ_mul];omega
    show w.cell? (cM b0 (q0+sz+k * sz+j))=some v
    rw[<-e];exact h1
   ·cases hv with
    | aw _ _ _ _ _ _ de A h1 hA hlen=>
     rw[hφ]at h1;cases h1;refine⟨A,rfl,?_,by show L.length<=pl.cap - 1 - 0;omega⟩;rcases hA with hA|hA
     ·exact .inl hA
     refine .inr ?_;rw[hA];cases pl.ad with
     | none=>rfl
     | some y=>simp[Option.map]
   obtain⟨⟨b0,q0⟩,hy,he⟩:=cP aK;simp only[Prod.mk.injEq]at he;obtain⟨rfl,rfl⟩:=he;exact⟨B,g,[i],_,pl,q0,cB,hφ,hy,rfl,.inl ⟨rfl,rfl⟩⟩
  | row d gd _ hd rD=>
   have cB:rowAt σ d gd []=some ⟨sz,L,2,false⟩:=by unfold rowAt;rw[rD];simp[one]
   obtain⟨pl,hφ,ok⟩:=hb.rows _ _ _ _ cB;refine⟨pl,ok,fun v hv=>?_,fun b q aK=>⟨d,gd,[],_,pl,q,cB,hφ,aK,rfl,.inr ⟨rfl,hd,by rw[tY,if_pos rfl]⟩⟩⟩;cases hv with
   | aw _ _ _ _ _ _ de A h1 hA hlen=>
    rw[hφ]at h1;cases h1;exact⟨A,rfl,hA,hlen⟩
 obtain⟨cZ,Fw,GN,xR⟩:=gU;have sP:∀{k gk fk},bE σ1 k=some (gk,fk)->bE σ k=some (gk,fk):=by
  intro k gk fk hk;cases hc with
  | nil=>exact hk
  | shift=>exact hk
  | row d gd _ hd rD=>
   rw[tY]at hk;split at hk
   ·cases hk
   exact hk
 let φ':cj:=fun r gg p=>if r=B/\gg=g/\p=[i] then some cZ else φ r gg p
 have fD:∀r gg p,¬(r=B/\p=[i])->φ' r gg p=φ r gg p:=fun r gg p hn=>by
  show(if r=B/\gg=g/\p=[i] then some cZ else φ r gg p)=φ r gg p
  rw[if_neg (fun hh=>hn ⟨hh.1,hh.2.2⟩)]
 have ru:φ' B g [i]=some cZ:=by
  show(if B=B/\g=g/\[i]=[i] then some cZ else φ B g [i])=some cZ
  rw[if_pos ⟨rfl,rfl,rfl⟩]
 have cA:∀{r gg p row},rowAt (bT σ1 B (g,iy B g sz (bs.set i L))) r gg p=some row->
   (r=B/\gg=g/\p=[]/\row=⟨1,gi B g sz (bs.set i L),0,false⟩)\/(r=B/\gg=g/\p=[i]/\row=⟨sz,L,2,false⟩)\/(r=B/\gg=g/\(∃j,j≠i/\p=[j])/\rowAt σ r gg p=some row/\1<=row.fl)\/
   (r≠B/\p=[]/\rowAt σ r gg p=some row/\di B i row=true/\bE σ1 r≠none):=by
  intro r gg p row hr;rw[jM]at hr;by_cases mR:r=B
  ·rw[if_pos mR]at hr;by_cases hg:g=gg
   ·rw[if_pos hg]at hr;subst mR hg
    match p,hr with
    | [],hr=>
     rw[Ar]at hr;exact .inl ⟨rfl,rfl,rfl,(Option.some.inj hr).symm⟩
    | [j],hr=>
     rw[yC]at hr;by_cases hj:i=j
     ·subst hj;rw[List.getElem?_set_self hi]at hr;exact .inr (.inl ⟨rfl,rfl,rfl,(Option.some.inj hr).symm⟩)
     rw[List.getElem?_set_ne hj]at hr;refine .inr (.inr (.inl ⟨rfl,rfl,⟨j,fun e=>hj e.symm,rfl⟩,?_,?_⟩))
     ·rw[HW j fun e=>hj e.symm];exact hr
     obtain⟨b,-,rfl⟩:=cP hr;show 1<=2
     omega
    | _::_::_,hr=>cases hr
   rw[if_neg hg]at hr;cases hr
  rw[if_neg mR]at hr;unfold rowAt at hr;split at hr
  ·rename_i gk fk hk;split at hr
   ·rename_i hg;subst hg;have mw:=sP hk;rcases JE hσ mw with e|⟨lE,rfl,ho⟩
    ·exact absurd e mR
    obtain⟨rfl,rfl⟩:=ql hr;exact .inr (.inr (.inr ⟨mR,rfl,by unfold rowAt;rw[mw];simp[one],ho,by rw[hk];simp⟩))
   cases hr
  cases hr
 have hold:∀{r gg p row pl b q},rowAt (bT σ1 B (g,iy B g sz (bs.set i L))) r gg p=some row->φ' r gg p=some pl->pl.ad=some (b,q)->
   ∃r2 g2 p2 bt de q2,rowAt σ r2 g2 p2=some bt/\φ r2 g2 p2=some de/\de.ad=some (b,q2)/\((r2=r/\p2=p)\/(r=B/\p=[i]/\bt.ao=false/\p2=[]/\r2≠B/\bE σ1 r2=none))/\(bt.ao=false\/(bt=row/\de=pl)):=by
  intro r gg p row pl b q hr hp aK;rcases cA hr with ⟨rfl,rfl,rfl,rfl⟩|⟨rfl,rfl,rfl,rfl⟩|⟨rfl,rfl,⟨j,hj,rfl⟩,fZ,-⟩|⟨bJ,rfl,fZ,-,-⟩
  ·rw[fD _ _ _ (by simp)]at hp;rw[qx]at hp;cases hp;exact⟨_,_,_,_,_,_,pj,qx,aK,.inl ⟨rfl,rfl⟩,.inl rfl⟩
  ·rw[ru]at hp;cases hp;obtain⟨r2,g2,p2,bt,de,q2,k1,k2,k3,k4,k5⟩:=xR b q aK;rcases k5 with ⟨rfl,rfl⟩|⟨k6,k7,k8⟩
   ·exact⟨_,_,_,_,_,_,k1,k2,k3,.inl ⟨rfl,rfl⟩,.inl k4⟩
   exact⟨_,_,_,_,_,_,k1,k2,k3,.inr ⟨rfl,rfl,k4,k6,k7,k8⟩,.inl k4⟩
  ·rw[fD _ _ _ (by rintro⟨-,e⟩;cases e;exact hj rfl)]at hp;exact⟨_,_,_,_,_,_,fZ,hp,aK,.inl ⟨rfl,rfl⟩,.inr ⟨rfl,rfl⟩⟩
  rw[fD _ _ _ (by rintro⟨e,-⟩;exact bJ e)]at hp;exact⟨_,_,_,_,_,_,fZ,hp,aK,.inl ⟨rfl,rfl⟩,.inr ⟨rfl,rfl⟩⟩
 have plain:∀{row:Row} {pl:Pl},mF rd' φ w pl row->1<=row.fl->mF rd' φ' w pl row:=by
  intro row pl ok fK;refine⟨ok.wide,ok.len,ok.kind,ok.nil,ok.room,fun b q aK k j c' aU=>?_,ok.iI,ok.mp⟩;obtain⟨v,h1,h2⟩:=ok.cells b q aK k j c' aU;refine⟨v,h1,h2.l9 ?_⟩;cases he:row.es[k]? with
  | none=>rw[he]at aU;cases aU
  | some e=>
   rw[he]at aU;have:=(ok.kind e (dk he)).1 fK c' (dk aU);cases c'<;>first|rfl|cases this
 refine⟨rd',φ',⟨hx.1,fun r p pl e hr=>?_⟩,⟨?_,?_,hb.eA,?_,?_,hb.frame,hb.size,hb.os,hb.tape,hb.output⟩,fun t v hv=>(h.tm t v hv).zq fD (JD oj hv),h.size,h.defers,fun r gg p hp=>?_⟩
 ·rw[fD _ _ _ (by rintro⟨rfl,-⟩;omega)];exact hx.2 r p pl e hr
 ·intro r gg p row hr;rcases cA hr with ⟨rfl,rfl,rfl,rfl⟩|⟨rfl,rfl,rfl,rfl⟩|⟨rfl,rfl,⟨j,hj,rfl⟩,fZ,fK⟩|⟨bJ,rfl,fZ,ho,-⟩
  ·refine⟨uZ,by rw[fD _ _ _ (by simp)];exact qx,fun e he=>?_,?_,fun e he=>⟨fun hh=>absurd hh (by simp),fun hh=>absurd hh (by simp)⟩,nt.nil,nt.room,fun b q aK k j c' aU=>?_,fun ha=>(by cases ha),lI (by show(0:Nat)<3;decide)⟩
   ·obtain⟨k,hk⟩:=List.getElem?_of_mem he;rw[p7]at hk;obtain⟨y,-,rfl⟩:=cP hk;rfl
   ·have:=nt.len;simp only[List.length_set,rX]at this ⊢;exact this
   have aU:((gi r gg sz (bs.set i L))[k]?).bind (·[j]?)=some c':=aU;rw[p7]at aU;by_cases hk:i=k
   ·subst hk;rw[List.getElem?_set_self hi]at aU;simp only[Option.map_some,Option.bind_some]at aU;cases j with
    | succ j=>simp at aU
    | zero=>
     simp only[List.getElem?_cons_zero,Option.some.injEq]at aU;subst aU;obtain⟨v,h1,h2⟩:=nt.cells b q aK i 0 c (by rw[List.getElem?_set_self (by rw[rX];exact hi)];rfl);refine⟨v,h1,?_⟩;obtain⟨A,rfl,e2,e3⟩:=GN v h2;exact .aw r gg [i] sz 0 L.length cZ A ru e2 e3
   rw[List.getElem?_set_ne hk]at aU;obtain⟨v,h1,h2⟩:=nt.cells b q aK k j c' (by rw[List.getElem?_set_ne hk,p7];exact aU);refine⟨v,h1,h2.oK fD ?_⟩;cases fU:bs[k]? with
   | none=>rw[fU]at aU;cases aU
   | some y=>
    rw[fU]at aU;simp only[Option.map_some,Option.bind_some]at aU;cases j with
    | succ j=>simp at aU
    | zero=>
     simp only[List.getElem?_cons_zero,Option.some.injEq]at aU;subst aU;have:([k]==[i])=false:=by simp;omega
     simp[E.oK,this]
  ·exact⟨cZ,ru,plain Fw (by show 1<=2;omega)⟩
  ·obtain⟨pl,h1,h2⟩:=hb.rows _ _ _ _ fZ;exact⟨pl,by rw[fD _ _ _ (by rintro⟨-,e⟩;cases e;exact hj rfl)];exact h1,plain h2 fK⟩
  obtain⟨pl,h1,h2⟩:=hb.rows _ _ _ _ fZ;refine⟨pl,by rw[fD _ _ _ (by rintro⟨e,-⟩;exact bJ e)];exact h1,?_⟩;unfold di at ho;split at ho
  ·rename_i fK;exact plain h2 (Nat.le_of_ble_eq_true fK)
  refine⟨h2.wide,h2.len,h2.kind,h2.nil,h2.room,fun b q aK k j c' aU=>?_,h2.iI,h2.mp⟩;obtain⟨v,h3,h4⟩:=h2.cells b q aK k j c' aU;refine⟨v,h3,h4.oK fD ?_⟩;cases he:row.es[k]? with
  | none=>rw[he]at aU;cases aU
  | some e=>
   rw[he]at aU;exact List.all_eq_true.1 (List.all_eq_true.1 ho e (dk he)) c' (dk aU)
 ·intro r1 g1 p1 fy r2 g2 p2 bt jm de b q1 q2 e1 e2 e3 e4 e5 e6;obtain⟨s1,t1,u1,x1,y1,z1,m1,m2,m3,m4,-⟩:=hold e1 e3 e5;obtain⟨s2,t2,u2,x2,y2,z2,n1,n2,n3,n4,-⟩:=hold e2 e4 e6;obtain⟨k1,k2⟩:=hb.sep _ _ _ _ _ _ _ _ _ _ _ _ _ m1 n1 m2 n2 m3 n3;have dead:∀{r gg p row},rowAt (bT σ1 B (g,iy B g sz (bs.set i L))) r gg p=some row->r≠B->bE σ1 r≠none:=by
   intro r gg p row hr bJ;rcases cA hr with ⟨rfl,-⟩|⟨rfl,-⟩|⟨rfl,-⟩|⟨-,-,-,-,hh⟩
   ·exact absurd rfl bJ
   ·exact absurd rfl bJ
   ·exact absurd rfl bJ
   exact hh
  rcases m4 with ⟨rfl,rfl⟩|⟨rfl,rfl,-,hm,KU,oq⟩<;>rcases n4 with ⟨rfl,rfl⟩|⟨rfl,rfl,-,hn,KP,KQ⟩
  ·exact⟨k1,k2⟩
  ·subst k1;exact absurd KQ (dead e1 KP)
  ·subst k1;exact absurd oq (dead e2 KU)
  exact⟨rfl,rfl⟩
 ·intro r gg p row pl b q e1 e2 e3 k dI;obtain⟨s1,t1,u1,x1,y1,z1,m1,m2,m3,-,m5⟩:=hold e1 e2 e3;rcases m5 with m5|⟨rfl,rfl⟩
  ·exact hb.eF _ _ _ _ _ _ _ m1 m2 m3 k (.inl m5)
  rw[e3]at m3;cases m3;exact hb.eF _ _ _ _ _ _ _ m1 m2 e3 k dI
 ·intro r gg p row pl b q e1 e2 e3;obtain⟨s1,t1,u1,x1,y1,z1,m1,m2,m3,-,-⟩:=hold e1 e2 e3;exact hb.own _ _ _ _ _ _ _ m1 m2 m3
 have hp:(if r=B/\gg=g/\p=[i] then some cZ else φ r gg p)≠none:=hp;split at hp
 ·rename_i e;obtain⟨rfl,rfl,-⟩:=e;exact h.gen r gg [] (by rw[qx];simp)
 exact h.gen r gg p hp
def rW (r g sz:Nat) (bs:List (List (List AV))) (i:Nat) (c:AV):d9:=dF (td (iy r g sz bs) [i]) [] ⟨1,(gi r g sz bs).set i [c],0,false⟩
theorem ahl {r g sz i:Nat}{bs:List (List (List AV))}{c:AV}:dF (td (iy r g sz bs) [i]) [] ⟨1,(gi r g sz bs).set i [c],0,false⟩=rW r g sz bs i c:=rfl
theorem V2 {r g sz i:Nat}{bs:List (List (List AV))}{c:AV}:rW r g sz bs i c []=some ⟨1,(gi r g sz bs).set i [c],0,false⟩:=by unfold rW;simp[dF]
theorem aeo {r g sz i:Nat}{bs:List (List (List AV))}:td (iy r g sz bs) [i] []=some ⟨1,gi r g sz bs,0,false⟩:=by unfold td;simp[Ar]
theorem abt {N:NF}{f:d9}{p:List Nat}:iP N (td f p)=td (iP N f) p:=by
 funext q;unfold iP td;by_cases h:q=p
 ·rw[if_pos h,if_pos h]
 rw[if_neg h,if_neg h]
theorem abv {N:NF}{r g r' g' sz i:Nat}{bs:List (List (List AV))}{c:AV}(h:N r g=some (r',g')):iP N (rW r g sz bs i c)=rW r' g' sz bs i (oO N c):=by
 unfold rW;rw[Rq,abt,J3 h];congr 1;simp only[ma,Nat.ble];congr 1;rw[List.map_set,M7 h];rfl
def aho (N:NF) (r g sz:Nat) (bs:List (List (List AV))) (i:Nat) (c:AV):d9:=iP N (qR r g sz bs i c)
def V5 (sz:Nat) (bs:List (List (List AV))) (i:Nat) (c:AV) (f:d9):Option (Nat × Nat)->d9
 | some x=>qR x.1 x.2 sz bs i c
 | none=>f
theorem abw {N:NF}{r g sz i:Nat}{bs:List (List (List AV))}{c:AV}:iP N (qR r g sz bs i c)=V5 sz bs i (oO N c) (aho N r g sz bs i c) (N r g):=by
 cases h:N r g with
 | none=>rfl
 | some x=>exact abx h
def ahm (N:NF) (r g sz:Nat) (bs:List (List (List AV))) (i:Nat) (c:AV):d9:=iP N (rW r g sz bs i c)
def V3 (sz:Nat) (bs:List (List (List AV))) (i:Nat) (c:AV) (f:d9):Option (Nat × Nat)->d9
 | some x=>rW x.1 x.2 sz bs i c
 | none=>f
theorem abu {N:NF}{r g sz i:Nat}{bs:List (List (List AV))}{c:AV}:iP N (rW r g sz bs i c)=V3 sz bs i (oO N c) (ahm N r g sz bs i c) (N r g):=by
 cases h:N r g with
 | none=>rfl
 | some x=>exact abv h
attribute [go_sem] ahn V4 ahl V2 aeo abw V5 abu V3
theorem aB.yj {n G:Nat}{tm:List (Nat × AV)}{σ σ1:ak}{B g sz:Nat}{bs:List (List (List AV))}{i:Nat}{c:AV}{L:List (List AV)}(hB:B<1000000)
  (hl:bE σ B=some (g,qR B g sz bs i c)) (hi:i<bs.length) (hc:r9 σ B g sz bs i c L σ1) (oj:xj B i tm=true) (hσ:zp B i σ):
  aB ⟨n,tm,σ,G⟩ ⟨n,tm,bT σ1 B (g,iy B g sz (bs.set i L)),G⟩:=aB.Zx hB hl hi hc oj hσ
theorem aB.Tz {n G:Nat}{tm:List (Nat × AV)}{σ σ1:ak}{B g sz:Nat}{bs:List (List (List AV))}{i:Nat}{c:AV}{L:List (List AV)}(hB:B<1000000)
  (hl:bE σ B=some (g,rW B g sz bs i c)) (hs:Ks B i c=false) (hi:i<bs.length) (hc:r9 σ B g sz bs i c L σ1) (oj:xj B i tm=true) (hσ:zp B i σ):
  aB ⟨n,tm,σ,G⟩ ⟨n,tm,bT σ1 B (g,iy B g sz (bs.set i L)),G⟩:=
 aB.Zw hB _ hl V2 (fun j hj=>by
  unfold rW dF td;rw[if_neg (by simp),if_neg (by simpa using hj)];rfl) (fun h=>by rw[hs]at h;cases h) hi hc oj hσ
section
set_option maxHeartbeats 4000000
set_option maxRecDepth 10000
set_option linter.unusedSimpArgs false
set_option linter.unusedSectionVars false
def ae6:cc:=⟨[],cw,cz,false⟩
attribute [-go_sem] ei
theorem HJ (w:ae) (n:Nat) (x:aC) (l:List aC) (h:w.ai[n]?=some (x::l)):aY Tryz.prog 160 (eL w) [eI,vI n] (.agg x.cs) (iA {w with ai:=w.ai.set n l}):=by
 refine aF ae6 false Tryz.f160 ?_;conv=>enter[1];reduce
 refine rl Tryz.f160 33 [.cell 4 116] (by kernel_rfl) (by decide +kernel) rfl rfl ?_;have hn:n<w.ai.length:=(List.getElem?_eq_some_iff.1 h).1;have hx:=dR (bs:=w.bx) (by rw[dh];omega);have hg:w.bx[n]?=some (x.cs::l.map aC.cs):=by unfold ae.bx;rw[List.getElem?_map,h];rfl
 have lR:(n:Int)<(w.ai.length:Int):=by omega
 have dX:w.bx.length=w.ai.length:=dh w;have sS:(0:Int)<((l.length+1:Nat):Int):=by omega
 have kI:(1:Int)<=((l.length+1:Nat):Int):=by omega
 simp -implicitDefEqProofs only[go_sem,hx,hg,hn,lR,dX,sS,kI,Nat.add_sub_cancel];refine dO.step (aB.tO _ 1000004) ?_;refine aA hx ?_;refine dO.step (aB.yj (B:=900100) (i:=n) (L:=l.map aC.cs) (by decide) rfl (by rw[dX];exact hn) (.Pa x.cs hg (List.length_map _)) rfl (by repeat' first
  | exact trivial
  | refine And.intro (.inl rfl) ?_
  | refine And.intro (.inr ⟨_,rfl,rfl⟩) ?_)) ?_
 have hb:w.bx.set n (l.map aC.cs)=ae.bx {w with ai:=w.ai.set n l}:=by unfold ae.bx;rw[List.map_set]
 refine b8 hx hb ?_;have aW:=dR (bs:=ae.bx {w with ai:=w.ai.set n l}) (by rw[dh];show 0<(w.ai.set n l).length;rw[List.length_set];omega);refine dO.intro (aB.refl _) ?_;exact AT aW
end
section
set_option maxHeartbeats 4000000
set_option maxRecDepth 10000
set_option linter.unusedSimpArgs false
set_option linter.unusedSectionVars false
def Mh:cc:=⟨[(105,.cm [true,false]),(106,.cm [true]),(107,.cm [true,false]),(160,.cm [true,false]),(162,.cm [true,false]),(163,.cm [false,false,false]),(164,.cm [true,false,false]),(165,.cm [false]),(166,.cm [true,false]),(167,.cm [true,false,false]),(168,.cm [true,false]),(169,.cm [false,false,false]),(170,.cm [true,false,false]),(171,.cm [false,false,false])],cw,cz,false⟩
attribute [-go_sem] ei
theorem De {w:ae}{n:Nat}{x:aC}{l:List aC}(h:w.ai[n]?=some (x::l)):jI w n=({w with ai:=w.ai.set n l},x):=by
 unfold jI;rw[h]
structure ae.wl (w:ae):Prop where
 so:ij w.set=true
 nw:(w.aj.length:Int)=w.set.many
 nc:(w.cls.length:Int)=w.set.bB
 nu:w.up.length=w.aj.length+w.cls.length+2
 nb:w.ai.length=w.aj.length+w.cls.length+2
theorem ae.wf.wl {w:ae}(h:w.wf):w.wl:=⟨h.so,h.nw,h.nc,h.nu,h.nb⟩
theorem ae.wl.dM {w:ae}(h:w.wl):0<w.ai.length:=by have:=h.nb;omega
theorem ae.wl.hx {w:ae}(h:w.wl):∀r g sz,ei (gi r g sz w.bx)=[(r,g)]:=dR (by rw[dh];exact h.dM)
theorem ae.wl.last {w:ae}(h:w.wl):w.set.many+w.set.bB+1=((w.aj.length+w.cls.length+1:Nat):Int):=by
 have h1:=h.nw;have h2:=h.nc;omega
theorem ae.wl.rL {w v:ae}(h:w.wl) (k:iN w v):v.wl:=
 ⟨by rw[k.set];exact h.so,by rw[k.set,k.aj];exact h.nw,by rw[k.set,k.cls];exact h.nc,by rw[k.up,k.aj,k.cls];exact h.nu,by rw[k.ai,k.aj,k.cls];exact h.nb⟩
theorem ae.wl.up {w:ae}(h:w.wl) (n:Nat) (b:Bool):ae.wl {w with up:=w.up.set n b}:=
 ⟨h.so,h.nw,h.nc,by show(w.up.set n b).length=_;rw[List.length_set];exact h.nu,h.nb⟩
theorem ae.wl.box {w:ae}(h:w.wl) (n:Nat) (b:List aC):ae.wl {w with ai:=w.ai.set n b}:=
 ⟨h.so,h.nw,h.nc,h.nu,by show(w.ai.set n b).length=_;rw[List.length_set];exact h.nb⟩
theorem ae.wl.qf {w:ae}(h:w.wl) (n:Nat) (b:bz):ae.wl {w with aj:=w.aj.set n b}:=
 ⟨h.so,by show((w.aj.set n b).length:Int)=_;rw[List.length_set];exact h.nw,h.nc,by show _=(w.aj.set n b).length+_+2;rw[List.length_set];exact h.nu,by show _=(w.aj.set n b).length+_+2;rw[List.length_set];exact h.nb⟩
theorem ae.wl.fresh {w:ae}(h:w.wl) (n:Nat):(eQ w n).wl:=by
 unfold eQ;split
 ·exact⟨h.so,h.nw,h.nc,h.nu,h.nb⟩
 split
 ·exact h.qf _ _
 split
 ·exact⟨h.so,h.nw,by show((w.cls.set _ _).length:Int)=_;rw[List.length_set];exact h.nc,by show _=_+(w.cls.set _ _).length+2;rw[List.length_set];exact h.nu,by show _=_+(w.cls.set _ _).length+2;rw[List.length_set];exact h.nb⟩
 exact⟨h.so,h.nw,h.nc,h.nu,h.nb⟩
theorem zC {w:ae}(h:w.wl) (n:Nat):aY Tryz.prog 105 (eL w) [eI,vI n] (vB (decide (1<=n/\n<=w.aj.length))) (eL w):=by
 have e:=aha w n h.dM;have hk:=h.nw;have:aS n 1 w.set.many=decide (1<=n/\n<=w.aj.length):=by
  rw[Bool.eq_iff_iff,cr,decide_eq_true_iff];omega
 rw[this]at e;exact e
theorem adw (w v:ae) (n:Nat) (x:aC) (l:List aC) (h:w.ai[n]?=some (x::l)) (hv:v.wf) (gT:df x=true) (e:{w with ai:=w.ai.set n l}=v) (h0:n=0) (iW:0<w.ai.length):
  aY Tryz.prog 113 (eL w) [eI,vI n] (.aZ []) (iA (fA v n x)):=by
 refine aF Mh false Tryz.f113 ?_;conv=>enter[1];reduce
 refine bI Tryz.f113 132 [] (by kernel_rfl) (by decide +kernel) rfl ?_;have hx:=dR (bs:=w.bx) (by rw[dh];exact iW);have hf:=HJ w n x l h;rw[e]at hf;have c8:=hv.hx;have pK:=(gB hv.lg).1;have vz:=agN v.log x (by unfold maxLen;omega);subst h0;have z:(((0:Nat):Int)==0)=true:=rfl;unfold fA;rw[if_pos rfl];refine aA hx ?_;refine eK hf c8 z ?_;cases hk:(i7 v.log x).2 with
 | true=>
  have iU:=F3 hk;have hs:=DC v [(i7 v.log x).1] hv (fun y hy=>by rw[List.mem_singleton.1 hy];exact iU) (by show 1<=1000;omega);have oe:=hv.Bh iU;have es:fP v [(i7 v.log x).1]=lK v (i7 v.log x).1:=rfl;rw[es]at hs;rw[if_pos rfl];generalize i7 v.log x=A at *;generalize lK v A.1=u at *;have fB:=oe.hx;refine And.intro ?_ ?_<;>
  ·refine aq.intro vz ?_;refine b8 hk c8 ?_;refine aE.intro hs ?_;exact dp c8 fB
 | false=>
  rw[if_neg (by decide)];generalize i7 v.log x=A at *;refine And.intro ?_ ?_<;>
  ·refine aq.intro vz ?_;exact dp hk c8
theorem adu (w v:ae) (n:Nat) (x:aC) (l:List aC) (h:w.ai[n]?=some (x::l)) (hv:v.wf) (gT:df x=true) (e:{w with ai:=w.ai.set n l}=v) (hn:n=v.aj.length+v.cls.length+1) (iW:0<w.ai.length) (fU:v.book.length<=3700000000):
  aY Tryz.prog 113 (eL w) [eI,vI n] (.aZ []) (iA (fA v n x)):=by
 refine aF Mh false Tryz.f113 ?_;conv=>enter[1];reduce
 refine bI Tryz.f113 132 [] (by kernel_rfl) (by decide +kernel) rfl ?_;have hx:=dR (bs:=w.bx) (by rw[dh];exact iW);have hf:=HJ w n x l h;rw[e]at hf;have c8:=hv.hx;have hs:=ea hv.so;have fR:=hv.nw;have jV:=hv.nc;have kr:aS n 1 20=true:=cr.2 (by omega);have hm:=j7.of hv.mn;have hq:=(BT hv.mn gT kr);have dZ:=zC hv.wl n;rw[decide_eq_false (by omega)]at dZ;have gZ:=t6 (n:=n) hv.so hv.dM (by rw[hv.last,hn]);have mU:=(ra hv.mn).1;have xS:=X6 v.cS n x (by have:=mU.a;unfold maxLen;omega) (by have:=(gB mU.l).1;unfold maxLen;omega);have xH:=VI v n (jr v.cS n x) hv hn (j7.mk' hq.1.ok) hq.2 (Rf hv.mn gT kr) (by omega);have hu:(fA v n x).wf:=hv.CM (by omega) gT;unfold fA at hu ⊢;rw[if_neg (by omega),if_neg (by omega),if_neg (by omega)]at hu ⊢;have z:((n:Int)==0)=false:=by rw[beq_eq_false_iff_ne];omega
 have z2:((n:Int)==(n:Int))=true:=by rw[beq_self_eq_true]
 generalize jr v.cS n x=T at *;generalize oP v n T=u at *;have fB:=hu.hx;refine aA hx ?_;refine eK hf c8 z ?_;refine eW dZ c8 ?_;refine eK gZ c8 z2 ?_;refine eW xS c8 ?_;refine aE.intro xH ?_;exact dp c8 fB
theorem adx (w v:ae) (n:Nat) (x:aC) (l:List aC) (h:w.ai[n]?=some (x::l)) (hv:v.wf) (gT:df x=true) (e:{w with ai:=w.ai.set n l}=v) (hn:v.aj.length<n/\n<=v.aj.length+v.cls.length) (iW:0<w.ai.length) (fU:v.book.length<=3700000000):
  aY Tryz.prog 113 (eL w) [eI,vI n] (.aZ []) (iA (fA v n x)):=by
 refine aF Mh false Tryz.f113 ?_;conv=>enter[1];reduce
 refine bI Tryz.f113 132 [] (by kernel_rfl) (by decide +kernel) rfl ?_;have hx:=dR (bs:=w.bx) (by rw[dh];exact iW);have hf:=HJ w n x l h;rw[e]at hf;have c8:=hv.hx;have hs:=ea hv.so;have fR:=hv.nw;have jV:=hv.nc;have kr:aS n 1 20=true:=cr.2 (by omega);have dZ:=zC hv.wl n;rw[decide_eq_false (by omega)]at dZ;have gZ:=t6 hv.so hv.dM hv.last;have hk:n - v.aj.length - 1<v.cls.length:=by omega
 have mY:=HO v n hv.so (by omega) hv.dM;rw[cr.2 (by omega),if_pos rfl,show(n:Int) - v.set.many - 1=((n - v.aj.length - 1:Nat):Int) by omega]at mY;have hg:v.cls[n - v.aj.length - 1]?=some (v.cls.getD (n - v.aj.length - 1) (dW v.set)):=by rw[List.getD_eq_getElem?_getD,bm hk];rfl
 have hc:=hv.cl _ (je (l:=v.cls) (i:=n - v.aj.length - 1) (d:=dW v.set) hk);have hu:(fA v n x).wf:=hv.CM (by omega) gT;unfold fA at hu ⊢;rw[if_neg (by omega),if_neg (by omega),if_pos (by omega)]at hu ⊢;have z:((n:Int)==0)=false:=by rw[beq_eq_false_iff_ne];omega
 have z2:((n:Int)==((v.aj.length+v.cls.length+1:Nat):Int))=false:=by rw[beq_eq_false_iff_ne];omega
 generalize v.cls.getD (n - v.aj.length - 1) (dW v.set)=c at *;have ho:jc c n x=true:=by unfold jc;rw[hc,gT,kr];rfl
 have q:=xA ho;have lV:=(rT hc).2;have mX:=X5 c n x (by unfold maxLen;omega);have ja:=VH v n (jH c n x) hv hn q.ok (Ga hc q (by omega)) (Lg ho) (by omega);generalize jH c n x=T at *;generalize oQ v n T=u at *;generalize nH:n - v.aj.length - 1=k at *;have bV:(k:Int)<(v.cls.length:Int):=by omega
 have fB:=hu.hx;refine aA hx ?_;refine eK hf c8 z ?_;refine eW dZ c8 ?_;refine eK gZ c8 z2 ?_;refine aE.intro mY ?_;simp -implicitDefEqProofs only[go_sem,c8,hk,bV,hg,bw.rc];refine eW mX c8 ?_;refine aE.intro ja ?_;exact dp c8 fB
end
section
set_option maxHeartbeats 4000000
set_option maxRecDepth 10000
set_option linter.unusedSimpArgs false
set_option linter.unusedSectionVars false
def ae3:cc:=⟨[(105,.cm [true,false]),(106,.cm [true]),(107,.cm [true,false]),(160,.cm [true,false]),(162,.cm [true,false]),(163,.cm [false,false,false]),(164,.cm [true,false,false]),(165,.cm [false]),(166,.cm [true,false]),(167,.cm [true,false,false]),(168,.cm [true,false]),(169,.cm [false,false,false]),(170,.cm [true,false,false]),(171,.cm [false,false,false])],cw,cz,false⟩
attribute [-go_sem] ei
attribute [go_sem] fm.rv
def fm.iH (H:fm):List AV:=H.aH.cs++[.ro 7 (H.aQ.map bD.cs),.ro 3 (H.eG.map cR.cs),.ro 11 (H.kept.toList.map iZ.rc),.ro 3 (H.bR.map aC.cs),.ro 13 (H.dN.map ez.cs)]
theorem adt (w v:ae) (n:Nat) (x:aC) (l:List aC) (h:w.ai[n]?=some (x::l)) (hv:v.wf) (gT:df x=true) (e:{w with ai:=w.ai.set n l}=v) (hn:1<=n/\n<=v.aj.length) (iW:0<w.ai.length) (fU:v.book.length<=3700000000):
  aY Tryz.prog 113 (eL w) [eI,vI n] (.aZ []) (iA (fA v n x)):=by
 refine aF ae3 false Tryz.f113 ?_;conv=>enter[1];reduce
 refine bI Tryz.f113 132 [] (by kernel_rfl) (by decide +kernel) rfl ?_;have hx:=dR (bs:=w.bx) (by rw[dh];exact iW);have hf:=HJ w n x l h;rw[e]at hf;have c8:=hv.hx;have hs:=ea hv.so;have fR:=hv.nw;have jV:=hv.nc;have kr:aS n 1 20=true:=cr.2 (by omega);have dZ:=zC hv.wl n;rw[decide_eq_true hn]at dZ;have hk:n - 1<v.aj.length:=by omega
 have hg:v.aj[n - 1]?=some (v.aj.getD (n - 1) cJ):=by rw[List.getD_eq_getElem?_getD,bm hk];rfl
 obtain⟨w1,w2,w3⟩:=hv.wt _ (je (l:=v.aj) (i:=n - 1) (d:=cJ) hk);unfold fA;rw[if_neg (by omega),if_pos (by omega)];have z:((n:Int)==0)=false:=by rw[beq_eq_false_iff_ne];omega
 have z2:IntKind.i64.wrap ((n:Int) - 1)=((n - 1:Nat):Int):=by rw[aN (by omega)];omega
 generalize v.aj.getD (n - 1) cJ=y at *;have ir:=tH w2;have mX:=Oy y n x w1 (by unfold maxLen;omega);have hm:=uR (me:=(n:Int)) (l:=x) w1 w3;have ht:=(Iy (me:=(n:Int)) (l:=x) w2 gT kr w3).1;have hl:=Iz (w:=y) (me:=(n:Int)) (l:=x) (by omega);generalize fX y n x=T at *;unfold B3;have k1:=hv.qf (i:=n - 1) (x:=⟨T.aH,T.aQ⟩) ⟨hm.d,ht.ok,hm.x w3⟩;have aD:=sh v.aj (n - 1) T.aH T.aQ;generalize n - 1=k at *;have bV:(k:Int)<(v.aj.length:Int):=by omega
 have KZ:=yX T.kept;have dY:=hm.l;have CR:=hm.a;have c1:=VK {v with aj:=v.aj.set k ⟨T.aH,T.aQ⟩} n T.kept.toList (by show v.book.length<=3900000000;omega) k1.dM (by omega) (vl hm);have b1:=(wo {v with aj:=v.aj.set k ⟨T.aH,T.aQ⟩} n T.kept.toList (vl hm)).len;have b1:(fC {v with aj:=v.aj.set k ⟨T.aH,T.aQ⟩} n T.kept.toList).book.length<=v.book.length+T.kept.toList.length:=b1;have k2:=Sf k1 n T.kept.toList;generalize fC {v with aj:=v.aj.set k ⟨T.aH,T.aQ⟩} n T.kept.toList=u at *;have k3:=WE k2 n T.bR;have b2:=(DI u n T.bR).len;have c3:=DC (iE u n T.bR) T.bR k3 hl (by omega);have b3:=(rY (iE u n T.bR) T.bR).len;have k4:=k3.send hl;have c4:=MY (fP (iE u n T.bR) T.bR) n T.dN (by omega) k4.dM (by omega);have k5:=Wy k4 n T.dN;generalize hA:iE u n T.bR=A at *;generalize fP A T.bR=S at *;generalize il S n T.dN=Z at *;have fB:=k2.hx;have Cg:=k3.hx;have Cf:=k4.hx;have ry:=k5.hx;have oq:T.bR.length<=maxLen:=by unfold maxLen;omega
 simp only[cX.cs,List.cons_append,List.nil_append]at aD;refine aA hx ?_;refine eK hf c8 z ?_;refine aE.intro dZ ?_;simp -implicitDefEqProofs only[go_sem,c8,z2,hk,bV,hg,bz.rc];refine And.intro ?_ ?_;all_goals
  refine aE.intro mX ?_;simp -implicitDefEqProofs only[go_sem,c8,z2,hk,bV,hg,bz.rc,aD];refine aE.intro (res:=.aZ []) (σout:=iA u) (by simp -implicitDefEqProofs only[go_sem,List.length_set]at c1 ⊢;exact c1) ?_;refine aA fB ?_;refine im (fun m s=>∃(i:Nat),i<=T.bR.length/\m=T.bR.length - i/\s=⟨132,[(0,eI),(1,vI n),(7,.ptr 7 0 [] 19 0 0),(77,.ro 3 (T.bR.map aC.cs)),(78,vI T.bR.length),(79,vI i)],wS (iE u n (T.bR.take i)) 900000 1++[(7,0,one ⟨19,[T.iH],0,false⟩)],1⟩) T.bR.length (bO.intro (aB.b9 [1000000] [0,1,7,77,78,79] _) ?_) ?_
  ·refine aA fB ?_;exact⟨0,aR _,rfl,rfl⟩
  rintro m s ⟨i,hi,rfl,rfl⟩;rcases bp i T.bR.length with ab|bM
  ·have ah:(i:Int)<(T.bR.length:Int):=by omega
   have jb:T.bR[i]?=some T.bR[i]:=bm ab;have hw:=dx ab oq;have Sm:=qK u n (T.bR.take i);have nH:=(DI u n (T.bR.take i)).len;rw[List.length_take]at nH;have iu:=WG u n T.bR ab;generalize iE u n (T.bR.take i)=a at *;have aW:=Sm.hx k2.dM;have dv:=(xy (hl _ (List.getElem_mem ab))).2.2;have xG:=DB T.bR[i].text (by omega);unfold xC Ny at iu;have hc:=BK a ⟨3,n,T.bR[i].iB,0,0,.zero,⟨(cf T.bR[i].text).1.size,(cf T.bR[i].text).1.root⟩,[]⟩ (by omega) (by rw[Sm.ai];exact k2.dM) rfl;have dH:=qK u n (T.bR.take (i+1));generalize hq:iE u n (T.bR.take (i+1))=q at *;have cD:=dH.hx k2.dM;generalize cf T.bR[i].text=W at *;unfold fm.iH;refine dP ah jb hw aW ?_;refine aE.intro xG ?_;cases o4:(W.2.1==0) with
   | false=>
    rw[if_neg (by rw[o4,Bool.false_and];decide)]at iu;simp -implicitDefEqProofs only[go_sem,o4,ah,jb,hw,aW,eD,eC];refine fh.intro (T.bR.length - (i+1)) (by omega) (aB.b9 [1000000] [0,1,7,77,78,79] _) ?_;refine aA aW ?_;refine⟨i+1,ab,rfl,?_⟩;subst hq;rw[iu];try rfl
   | true=>
    cases ug:(W.1.kind==6) with
    | true=>
     rw[if_pos (by rw[o4,ug];rfl)]at iu;rw[<-iu]at hc;simp -implicitDefEqProofs only[go_sem,o4,ug,ah,jb,hw,aW,eD,eC];refine ji hc hw aW cD ?_;refine fh.intro (T.bR.length - (i+1)) (by omega) (aB.b9 [1000000] [0,1,7,77,78,79] _) ?_;refine aA cD ?_;refine⟨i+1,ab,rfl,?_⟩;subst hq;try rfl
    | false=>
     rw[if_neg (by rw[o4,ug];decide)]at iu;simp -implicitDefEqProofs only[go_sem,o4,ug,ah,jb,hw,aW,eD,eC];refine fh.intro (T.bR.length - (i+1)) (by omega) (aB.b9 [1000000] [0,1,7,77,78,79] _) ?_;refine aA aW ?_;refine⟨i+1,ab,rfl,?_⟩;subst hq;rw[iu];try rfl
  have hi:i=T.bR.length:=by omega
  subst hi;have ah:¬((T.bR.length:Int)<(T.bR.length:Int)):=by omega
  rw[List.take_length,hA];unfold fm.iH;refine b8 ah Cg ?_;refine eK c3 Cg Cf ?_;refine aE.intro c4 ?_;exact dp Cf ry
theorem VS (w:ae) (n:Nat) (x:aC) (l:List aC) (hw:w.wf) (h:w.ai[n]?=some (x::l)) (fU:w.book.length<=3700000000):aY Tryz.prog 113 (eL w) [eI,vI n] (.aZ []) (iA (js w n)):=by
 have hf:=hw.first n;unfold js;rw[De h]at hf ⊢;have hn:=(List.getElem?_eq_some_iff.1 h).1;have jW:=hw.nb;simp only at hf ⊢;have kI:ae.aj {w with ai:=w.ai.set n l}=w.aj:=rfl;have mo:ae.cls {w with ai:=w.ai.set n l}=w.cls:=rfl;have ou:ae.book {w with ai:=w.ai.set n l}=w.book:=rfl;generalize he:({w with ai:=w.ai.set n l}:ae)=v at *;by_cases c0:n=0
 ·exact adw w v n x l h hf.1 hf.2 he c0 hw.dM
 by_cases c1:n<=v.aj.length
 ·exact adt w v n x l h hf.1 hf.2 he (by omega) hw.dM (by rw[ou];exact fU)
 by_cases c2:n<=v.aj.length+v.cls.length
 ·exact adx w v n x l h hf.1 hf.2 he (by omega) hw.dM (by rw[ou];exact fU)
 exact adu w v n x l h hf.1 hf.2 he (by rw[kI,mo]at *;omega) hw.dM (by rw[ou];exact fU)
end
section
set_option maxHeartbeats 4000000
set_option maxRecDepth 10000
set_option linter.unusedSimpArgs false
set_option linter.unusedSectionVars false
def ae5:cc:=⟨[],cw,cz,false⟩
attribute [-go_sem] ei
theorem ahg (w:ae) (n:Nat) (l:List aC):w.bx.set n (l.map aC.cs)=ae.bx {w with ai:=w.ai.set n l}:=by unfold ae.bx;rw[List.map_set]
theorem DA (w:ae) (n:Nat) (x:aC) (l:List aC) (h:w.ai[n]?=some (x::l)) (hl:l.length<=1000):aY Tryz.prog 181 (gJ w) [vA w 1000000,vI n] (.aZ [vA {w with ai:=w.ai.set n l} 0,.agg x.cs]) (eX {w with ai:=w.ai.set n l}):=by
 refine aF ae5 false Tryz.f181 ?_;conv=>enter[1];reduce
 refine rl Tryz.f181 49 [.cell 4 64,.cell 5 116] (by kernel_rfl) (by decide +kernel) rfl rfl ?_;have hn:n<w.ai.length:=(List.getElem?_eq_some_iff.1 h).1;have hx:=dR (bs:=w.bx) (by rw[dh];omega);have hg:w.bx[n]?=some (x.cs::l.map aC.cs):=by unfold ae.bx;rw[List.getElem?_map,h];rfl
 have dX:w.bx.length=w.ai.length:=dh w;have lR:(n:Int)<(w.ai.length:Int):=by omega
 have sS:(0:Int)<((l.length+1:Nat):Int):=by omega
 have kI:(1:Int)<=((l.length+1:Nat):Int):=by omega
 have hm:l.length+1<=maxLen:=by unfold maxLen;omega
 simp -implicitDefEqProofs only[go_sem,hx,hg,hn,lR,dX,sS,kI,Nat.add_sub_cancel];refine dq (fun m s=>∃(i:Nat),i<=l.length/\m=l.length - i/\s=⟨49,[(1,vI n),(2,.ptr 2 0 [] 35 0 0),(4,.ptr 4 0 [] 35 0 0),(5,.ptr 5 0 [] 3 0 0),(6,.ptr 6 0 [] 3 0 0),(7,.aw 7 0 [] 3 0 (l.take i).length),(8,vI ((i+1:Nat):Int))],w.rows 1000000 1++[(2,0,one ⟨35,[w.cells 1000000 1],0,false⟩),(4,0,one ⟨35,[jL],0,false⟩),(5,0,one ⟨3,[Eg.cs],0,false⟩),(6,0,one ⟨3,[x.cs],0,false⟩),(7,0,one ⟨3,(l.take i).map aC.cs,2,false⟩)],1⟩) l.length ?_ ?_
 ·refine aA hx ?_;exact⟨0,aR _,rfl,rfl⟩
 rintro m s ⟨i,hi,rfl,rfl⟩;rcases bp i l.length with ab|bM
 ·have ah:((i+1:Nat):Int)<((l.length+1:Nat):Int):=by omega
  have jb:(x.cs::l.map aC.cs)[i+1]?=some l[i].cs:=by rw[List.getElem?_cons_succ,List.getElem?_map,bm ab];rfl
  have hw:=dx (i:=i+1) (n:=l.length+1) (by omega) hm;have gv:=tZ (l.take i) (by rw[List.length_take];omega);have oi:=Bb ab;generalize l[i]=y at *;simp only[aC.cs]at jb;simp -implicitDefEqProofs only[go_sem,hx,hg,hn,lR,dX,ah,jb,hw,gv];refine⟨_,by omega,i+1,ab,rfl,?_⟩;rw[oi];simp only[gj,aC.cs];try rfl
 have hi:i=l.length:=by omega
 subst hi;have ah:¬(((l.length+1:Nat):Int)<((l.length+1:Nat):Int)):=by omega
 rw[List.take_length];refine nS ah hx hg hn lR dX ?_;refine dO.step (aB.tO _ 1000003) ?_;refine aA hx ?_;refine dO.step (aB.yj (B:=900100) (i:=n) (L:=l.map aC.cs) (by decide) rfl (by rw[dX];exact hn) (.cC (d:=7) (gd:=0) (by decide) rfl (List.length_map _)) rfl (by repeat' first|exact trivial|refine And.intro (.inl rfl) ?_|refine And.intro (.inr ⟨_,rfl,rfl⟩) ?_)) ?_;have hb:=ahg w n l;refine b8 hx hb ?_;have aW:=dR (bs:=ae.bx {w with ai:=w.ai.set n l}) (by rw[dh];show 0<(w.ai.set n l).length;rw[List.length_set];omega);refine dO.intro (aB.refl _) ?_;exact AT aW
end
inductive hY:List (List AV)->List (List AV)->Prop
 | nil:hY [] []
 | cons {e e':List AV} {l l':List (List AV)} (h:kP e e') (t:hY l l'):hY (e::l) (e'::l')
theorem hY.refl:∀l:List (List AV),hY l l
 | []=>.nil
 | e::l=>.cons (kP.refl e) (hY.refl l)
theorem hY.len {l l':List (List AV)}(h:hY l l'):l.length=l'.length:=by
 induction h with
 | nil=>rfl
 | cons _ _ ih=>simp[ih]
theorem hY.get {l l':List (List AV)}(h:hY l l'):∀(i:Nat) (e:List AV),l[i]?=some e->∃e',l'[i]?=some e'/\kP e e':=by
 induction h with
 | nil=>intro i e he;simp at he
 | cons h t ih=>
  intro i e he;cases i with
  | zero=>simp at he;subst he;exact⟨_,rfl,h⟩
  | succ i=>simpa using ih i e (by simpa using he)
theorem hY.set {e e':List AV}(h:kP e e'):∀(l:List (List AV)) (i:Nat),hY (l.set i e) (l.set i e')
 | [],_=>.nil
 | x::l,0=>.cons h (hY.refl l)
 | x::l,i+1=>.cons (kP.refl x) (hY.set h l i)
theorem acb {fl:Nat}(fK:fl<=1) {e e':List AV}(h:kP e e') (k:iM fl e'):iM fl e:=by
 refine⟨fun hf c hc=>?_,fun h2=>by omega⟩;obtain⟨j,hj⟩:=List.getElem?_of_mem hc;obtain⟨c',h1,h2⟩:=h.get j c hj;rcases h2 with rfl|⟨-,sz,rfl⟩
 ·exact k.1 hf c (dk h1)
 rfl
theorem aB.tG {n G:Nat}{tm:List (Nat × AV)}{σ:ak}{r g sz fl:Nat}{es:List (List AV)}(iw:List (List AV)) (fK:fl<=1) (hl:bE σ r=some (g,one ⟨sz,es,fl,false⟩)) (hw:hY iw es):
  aB ⟨n,tm,σ,G⟩ ⟨n,tm,bT σ r (g,one ⟨sz,iw,fl,false⟩),G⟩:=by
 intro rd O w0 a w ⟨rd',φ,hx,h⟩;have hb:=h.heap;have pj:rowAt σ r g []=some ⟨sz,es,fl,false⟩:=by unfold rowAt;rw[hl];simp[one]
 have cA:∀{r2 g2 p2 row},rowAt (bT σ r (g,one ⟨sz,iw,fl,false⟩)) r2 g2 p2=some row->(r2=r/\g2=g/\p2=[]/\row=⟨sz,iw,fl,false⟩)\/rowAt σ r2 g2 p2=some row:=by
  intro r2 g2 p2 row hr;rw[jM]at hr;by_cases lh:r2=r
  ·rw[if_pos lh]at hr;by_cases hg:g=g2
   ·rw[if_pos hg]at hr;obtain⟨rfl,rfl⟩:=ql hr;exact .inl ⟨lh,hg.symm,rfl,rfl⟩
   rw[if_neg hg]at hr;cases hr
  rw[if_neg lh]at hr;exact .inr hr
 have hold:∀{r2 g2 p2 row},rowAt (bT σ r (g,one ⟨sz,iw,fl,false⟩)) r2 g2 p2=some row->∃lE,rowAt σ r2 g2 p2=some lE/\(lE=row\/lE.ao=false):=by
  intro r2 g2 p2 row hr;rcases cA hr with ⟨rfl,rfl,rfl,rfl⟩|h
  ·exact⟨_,pj,.inr rfl⟩
  exact⟨_,h,.inl rfl⟩
 refine⟨rd',φ,hx,⟨?_,?_,hb.eA,?_,?_,hb.frame,hb.size,hb.os,hb.tape,hb.output⟩,h.tm,h.size,h.defers,h.gen⟩
 ·intro r2 g2 p2 row hr;rcases cA hr with ⟨rfl,rfl,rfl,rfl⟩|hr
  ·obtain⟨pl,hφ,ok⟩:=hb.rows _ _ _ _ pj;refine⟨pl,hφ,⟨fun e he=>?_,?_,fun e he=>?_,ok.nil,ok.room,fun b q aK i j c hc=>?_,fun ha=>(by cases ha),lI (by show fl<3;omega)⟩⟩
   ·obtain⟨i,hi⟩:=List.getElem?_of_mem he;obtain⟨e0,h1,h2⟩:=hw.get i e hi;show e.length=sz
    rw[h2.len];exact ok.wide e0 (dk h1)
   ·show iw.length<=pl.cap
    rw[hw.len];exact ok.len
   ·obtain⟨i,hi⟩:=List.getElem?_of_mem he;obtain⟨e0,h1,h2⟩:=hw.get i e hi;exact acb fK h2 (ok.kind e0 (dk h1))
   have hc:(iw[i]?).bind (·[j]?)=some c:=hc;obtain⟨e,he,Lf⟩:=cG hc;obtain⟨e0,h1,h2⟩:=hw.get i e he;obtain⟨c0,h3,h4⟩:=h2.get j c Lf;obtain⟨v,h5,h6⟩:=ok.cells b q aK i j c0 (by show(es[i]?).bind (·[j]?)=some c0;rw[h1];exact h3);exact⟨v,h5,h6.wk h4⟩
  exact hb.rows _ _ _ _ hr
 ·intro r1 g1 p1 fy r2 g2 p2 bt jm de b q1 q2 e1 e2 e3 e4 e5 e6;obtain⟨x1,y1,-⟩:=hold e1;obtain⟨x2,y2,-⟩:=hold e2;exact hb.sep _ _ _ _ _ _ _ _ _ _ _ _ _ y1 y2 e3 e4 e5 e6
 ·intro r2 g2 p2 row pl b q e1 e2 e3 k dI;obtain⟨x1,y1,y2⟩:=hold e1;rcases y2 with rfl|y2
  ·exact hb.eF _ _ _ _ _ _ _ y1 e2 e3 k dI
  exact hb.eF _ _ _ _ _ _ _ y1 e2 e3 k (.inl y2)
 intro r2 g2 p2 row pl b q e1 e2 e3;obtain⟨x1,y1,-⟩:=hold e1;exact hb.own _ _ _ _ _ _ _ y1 e2 e3
theorem aca {fl Ac:Nat}(fK:fl<=1) (hle:fl<=Ac) {e e':List AV}(h:kP e e') (k:iM Ac e'):iM fl e:=by
 refine⟨fun hf c hc=>?_,fun h2=>by omega⟩;obtain⟨j,hj⟩:=List.getElem?_of_mem hc;obtain⟨c',h1,h2⟩:=h.get j c hj;rcases h2 with rfl|⟨-,sz,rfl⟩
 ·exact k.1 (by omega) c (dk h1)
 rfl
theorem aB.qe {n G:Nat}{tm:List (Nat × AV)}{σ:ak}{r g sz Ac:Nat}{es:List (List AV)}(iw:List (List AV)) (fl:Nat) (fK:fl<=1) (hle:fl<=Ac) (hl:bE σ r=some (g,one ⟨sz,es,Ac,false⟩)) (hw:hY iw es):
  aB ⟨n,tm,σ,G⟩ ⟨n,tm,bT σ r (g,one ⟨sz,iw,fl,false⟩),G⟩:=by
 intro rd O w0 a w ⟨rd',φ,hx,h⟩;have hb:=h.heap;have pj:rowAt σ r g []=some ⟨sz,es,Ac,false⟩:=by unfold rowAt;rw[hl];simp[one]
 have cA:∀{r2 g2 p2 row},rowAt (bT σ r (g,one ⟨sz,iw,fl,false⟩)) r2 g2 p2=some row->(r2=r/\g2=g/\p2=[]/\row=⟨sz,iw,fl,false⟩)\/rowAt σ r2 g2 p2=some row:=by
  intro r2 g2 p2 row hr;rw[jM]at hr;by_cases lh:r2=r
  ·rw[if_pos lh]at hr;by_cases hg:g=g2
   ·rw[if_pos hg]at hr;obtain⟨rfl,rfl⟩:=ql hr;exact .inl ⟨lh,hg.symm,rfl,rfl⟩
   rw[if_neg hg]at hr;cases hr
  rw[if_neg lh]at hr;exact .inr hr
 have hold:∀{r2 g2 p2 row},rowAt (bT σ r (g,one ⟨sz,iw,fl,false⟩)) r2 g2 p2=some row->∃lE,rowAt σ r2 g2 p2=some lE/\(lE=row\/lE.ao=false):=by
  intro r2 g2 p2 row hr;rcases cA hr with ⟨rfl,rfl,rfl,rfl⟩|h
  ·exact⟨_,pj,.inr rfl⟩
  exact⟨_,h,.inl rfl⟩
 refine⟨rd',φ,hx,⟨?_,?_,hb.eA,?_,?_,hb.frame,hb.size,hb.os,hb.tape,hb.output⟩,h.tm,h.size,h.defers,h.gen⟩
 ·intro r2 g2 p2 row hr;rcases cA hr with ⟨rfl,rfl,rfl,rfl⟩|hr
  ·obtain⟨pl,hφ,ok⟩:=hb.rows _ _ _ _ pj;refine⟨pl,hφ,⟨fun e he=>?_,?_,fun e he=>?_,ok.nil,ok.room,fun b q aK i j c hc=>?_,fun ha=>(by cases ha),lI (by show fl<3;omega)⟩⟩
   ·obtain⟨i,hi⟩:=List.getElem?_of_mem he;obtain⟨e0,h1,h2⟩:=hw.get i e hi;show e.length=sz
    rw[h2.len];exact ok.wide e0 (dk h1)
   ·show iw.length<=pl.cap
    rw[hw.len];exact ok.len
   ·obtain⟨i,hi⟩:=List.getElem?_of_mem he;obtain⟨e0,h1,h2⟩:=hw.get i e hi;exact aca fK hle h2 (ok.kind e0 (dk h1))
   have hc:(iw[i]?).bind (·[j]?)=some c:=hc;obtain⟨e,he,Lf⟩:=cG hc;obtain⟨e0,h1,h2⟩:=hw.get i e he;obtain⟨c0,h3,h4⟩:=h2.get j c Lf;obtain⟨v,h5,h6⟩:=ok.cells b q aK i j c0 (by show(es[i]?).bind (·[j]?)=some c0;rw[h1];exact h3);exact⟨v,h5,h6.wk h4⟩
  exact hb.rows _ _ _ _ hr
 ·intro r1 g1 p1 fy r2 g2 p2 bt jm de b q1 q2 e1 e2 e3 e4 e5 e6;obtain⟨x1,y1,-⟩:=hold e1;obtain⟨x2,y2,-⟩:=hold e2;exact hb.sep _ _ _ _ _ _ _ _ _ _ _ _ _ y1 y2 e3 e4 e5 e6
 ·intro r2 g2 p2 row pl b q e1 e2 e3 k dI;obtain⟨x1,y1,y2⟩:=hold e1;rcases y2 with rfl|y2
  ·exact hb.eF _ _ _ _ _ _ _ y1 e2 e3 k dI
  exact hb.eF _ _ _ _ _ _ _ y1 e2 e3 k (.inl y2)
 intro r2 g2 p2 row pl b q e1 e2 e3;obtain⟨x1,y1,-⟩:=hold e1;exact hb.own _ _ _ _ _ _ _ y1 e2 e3
theorem nn {c:AV}:Wk c c:=.inl rfl
theorem np {sz:Nat}:Wk (.ro sz []) .aG:=.inr ⟨rfl,sz,rfl⟩
end Go.Proofs.YtobpfkgabdeefaaGreat.E
