/- Boxes folded anew, whatever was appended to; cuts put into a text where one wants them; Contracts: the first letter of a box; Contracts: a node hears the first letter of its box (the log, clients, the monitor); Contracts: a node hears the first letter of its box (witnesses); Contracts: the first letter of a box, in the reference; Rows in which nil slices are told as slices of nothing -/
import Derived.Test.YtobpfkgabdeefaaGreatP22
import Derived.Test.YtobpfkgabdeefaaGreatP33
import Derived.Test.YtobpfkgabdeefaaGreatP28
import Derived.Test.YtobpfkgabdeefaaGreatP31
import Derived.Test.YtobpfkgabdeefaaGreatP11
namespace Go.Proofs.YtobpfkgabdeefaaGreat.E
open Go Go.RowKit
set_option linter.unusedVariables false
theorem cO.step {M:St→Prop}{s s':St}(h:aI s s') (k:cO M s'):cO M s:=by
 obtain⟨gG,h1,h2⟩:=k;exact⟨gG,h.trans h1,h2⟩
theorem rK.Ph {σ:aj}{B g sz:Nat}{bs:List (List (List AV))}{i n:Nat}(x:List AV) {L:List (List AV)}(h:bs[i]?=some (x::L)) (hn:L.length=n):rK σ B g sz bs i (.au B g [i] sz 1 n) L σ:=hn▸.shift x L h
theorem rK.cq {σ:aj}{B g sz:Nat}{bs:List (List (List AV))}{i n d gd:Nat}{L:List (List AV)}(hd:d≠B) (h:bI σ d=some (gd,one ⟨sz,L,2,false⟩)) (hn:L.length=n):rK σ B g sz bs i (.au d gd [] sz 0 n) L (pH σ d):=hn▸.row d gd L hd h
def dK (P:Program) (rs:List ResultVar) (res:AV) (σout:aj) (s:St):Prop:=cO (mR P rs · res σout) s
theorem dK.intro {P:Program}{rs:List ResultVar}{res:AV}{σout:aj}{s s':St}(h:aI s s') (k:mR P rs s' res σout):dK P rs res σout s:=⟨s',h,k⟩
theorem dK.step {P:Program}{rs:List ResultVar}{res:AV}{σout:aj}{s s':St}(h:aI s s') (k:dK P rs res σout s'):dK P rs res σout s:=cO.step h k
def Jg (P:Program) (rs:List ResultVar) (res:AV) (σout:aj):Exit→St→Prop:=zj P rs res σout
theorem Zd {P:Program}{rs:List ResultVar}{res:AV}{σout:aj}{s:St}:Jg P rs res σout .ret s=dK P rs res σout s:=rfl
theorem Ze {P:Program}{rs:List ResultVar}{res:AV}{σout:aj}{s:St}:Jg P rs res σout .normal s=dK P rs res σout s:=rfl
theorem qV {P:Program}{n:Nat}{c:SC J}(fn:Func) (N:Nat) (rs:List ResultVar) {σin:aj}{args:List AV}{res:AV}{σout:aj}
  (h:(P.funcs[n]?,fn.body.map strip,fn.name== "runtime.NumGoroutine",fn.ntmps,fn.results.toList,P.follows .mixedOrders)=(some fn,some (ie c),false,N,rs,true)) (hd:lN c=true) (hs:KD c=true) (hlen:Nat.ble args.length N=true)
  (hv:jv P c ⟨N,nj 0 args,σin,1⟩ (Jg P rs res σout)):AP c (bb P n σin args res σout):=ab8 fn N rs h hd hs hlen hv
theorem abW {ks:List Nat}{n G:Nat}{tm:List (Nat × AV)}{σ:aj}:Ga ks ⟨n,tm,σ,G⟩=⟨n,qf ks tm,σ,G⟩:=rfl
attribute [go_sem] Zd Ze abW
def rB:List Nat→SC J→SC J
 | [],.sq _ a b=>.ct a b
 | [],.seq a b=>.ct a b
 | 0::l,.sq ks a b=>.sq ks a (rB l b)
 | 0::l,.seq a b=>.seq a (rB l b)
 | 0::l,.ct a b=>.ct a (rB l b)
 | 1::l,.sq ks a b=>.sq ks (rB l a) b
 | 1::l,.seq a b=>.seq (rB l a) b
 | 1::l,.ct a b=>.ct (rB l a) b
 | 1::l,.block id a=>.block id (rB l a)
 | 1::l,.lp ks a=>.lp ks (rB l a)
 | 1::l,.cond c a b=>.cond c (rB l a) b
 | 2::l,.cond c a b=>.cond c a (rB l b)
 | _,c=>c
def Uo:List (List Nat)→SC J→SC J
 | [],c=>c
 | x::l,c=>Uo l (rB x c)
theorem IM {G:Prop}(l:List (List Nat)) (D:bX) (ct:Bool) (fn:Func) (h:AP (Uo l (T3 D ct fn)) G):G:=h
def KC (B i:Nat):AV→Bool
 | .au r _ p _ _ _=>Nat.beq r B&&(p==[i])
 | _=>false
theorem aI.Zk {n G:Nat}{tm:List (Nat × AV)}{σ σ1:aj}{B g sz:Nat}{bs:List (List (List AV))}{i:Nat}{c:AV}{L:List (List AV)}(hB:B<1000000)
  (F:dZ) (hl:bI σ B=some (g,F)) (hF0:F []=some ⟨1,(fS B g sz bs).set i [c],0,false⟩) (hFj:∀j,j≠i→F [j]=(bs[j]?).map fun b=>⟨sz,b,2,false⟩) (CS:KC B i c=true→F [i]=(bs[i]?).map fun b=>⟨sz,b,2,false⟩) (hi:i<bs.length) (hc:rK σ B g sz bs i c L σ1) (nO:wQ B i tm=true) (hσ:zw B i σ):
  aI ⟨n,tm,σ,G⟩ ⟨n,tm,bQ σ1 B (g,ij B g sz (bs.set i L)),G⟩:=by
 intro rd O w0 a w ⟨rd',φ,hx,h⟩;have hb:=h.heap;have oZ:rowAt σ B g []=some ⟨1,(fS B g sz bs).set i [c],0,false⟩:=by unfold rowAt;rw[hl];simp[hF0]
 have HW:∀j,j≠i→rowAt σ B g [j]=(bs[j]?).map fun b=>⟨sz,b,2,false⟩:=by
  intro j hj;unfold rowAt;rw[hl];simp only[if_true];exact hFj j hj
 obtain⟨uO,qh,mX⟩:=hb.rows _ _ _ _ oZ;have hle:(fS B g sz bs).length=bs.length:=rE
 have g9:∃cV:Pl,ma rd' φ w cV ⟨sz,L,2,false⟩∧(∀v,aL rd' φ c v→∃A,v=.slice A L.length (cV.cap - 0)∧(cV.cap - 0=0∨A=cV.ad.map fun x=>cI x.1 (x.2+0 * sz))∧L.length≤cV.cap - 0)∧
   (∀b q,cV.ad=some (b,q)→∃r2 g2 p2 bD cX q2,rowAt σ r2 g2 p2=some bD∧φ r2 g2 p2=some cX∧cX.ad=some (b,q2)∧bD.ao=false∧((r2=B∧p2=[i])∨(p2=[]∧r2≠B∧bI σ1 r2=none))):=by
  cases hc with
  | nil=>
   refine⟨⟨none,0⟩,⟨fun e he=>(by cases he),aQ _,fun e he=>(by cases he),fun _=>rfl,fun b q h=>(by cases h),fun b q h=>(by cases h),fun ha=>(by cases ha),lj (by show(2:Nat)<3;decide)⟩,fun v hv=>?_,fun b q h=>(by cases h)⟩;cases hv;exact⟨none,rfl,.inl rfl,Nat.le_refl _⟩
  | shift x _ ub=>
   have cj:rowAt σ B g [i]=(bs[i]?).map fun b=>⟨sz,b,2,false⟩:=by
    unfold rowAt;rw[hl];simp only[if_true];exact CS (by simp[KC])
   rw[ub]at cj;obtain⟨pl,hφ,ok⟩:=hb.rows _ _ _ _ cj;have rb:L.length+1≤pl.cap:=by have:=ok.len;simpa using this
   refine⟨⟨pl.ad.map fun y=>(y.1,y.2+sz),pl.cap - 1⟩,⟨fun e he=>ok.wide e (List.mem_cons_of_mem _ he),by show L.length≤pl.cap - 1;omega,fun e he=>ok.kind e (List.mem_cons_of_mem _ he),fun hn=>?_,fun b q aK k hk=>?_,fun b q aK k j c' aU=>?_,fun ha=>(by cases ha),lj (by show(2:Nat)<3;decide)⟩,fun v hv=>?_,fun b q aK=>?_⟩
   ·have:pl.ad=none:=by simpa using hn
    have:=ok.nil this;omega
   ·obtain⟨⟨b0,q0⟩,hy,he⟩:=cJ aK;simp only[Prod.mk.injEq]at he;obtain⟨rfl,rfl⟩:=he;have:=ok.room b0 q0 hy (sz+k) (by
     show sz+k<pl.cap * sz
     have:pl.cap * sz=(pl.cap - 1) * sz+sz:=by rw[←Nat.succ_mul];congr 1;omega
     have hk:k<(pl.cap - 1) * sz:=hk;omega)
    rw[←Nat.add_assoc]at this;exact this
   ·obtain⟨⟨b0,q0⟩,hy,he⟩:=cJ aK;simp only[Prod.mk.injEq]at he;obtain⟨rfl,rfl⟩:=he;obtain⟨v,h1,h2⟩:=ok.cells b0 q0 hy (k+1) j c' (by simpa using aU);refine⟨v,?_,h2⟩;have e:q0+(k+1) * sz+j=q0+sz+k * sz+j:=by rw[Nat.succ_mul];omega
    show w.cell? (cI b0 (q0+sz+k * sz+j))=some v
    rw[←e];exact h1
   ·cases hv with
    | au _ _ _ _ _ _ cX A h1 hA hlen=>
     rw[hφ]at h1;cases h1;refine⟨A,rfl,?_,by show L.length≤pl.cap - 1 - 0;omega⟩;rcases hA with hA|hA
     ·exact .inl hA
     refine .inr ?_;rw[hA];cases pl.ad with
     | none=>rfl
     | some y=>simp[Option.map]
   obtain⟨⟨b0,q0⟩,hy,he⟩:=cJ aK;simp only[Prod.mk.injEq]at he;obtain⟨rfl,rfl⟩:=he;exact⟨B,g,[i],_,pl,q0,cj,hφ,hy,rfl,.inl ⟨rfl,rfl⟩⟩
  | row d gd _ hd q8=>
   have cj:rowAt σ d gd []=some ⟨sz,L,2,false⟩:=by unfold rowAt;rw[q8];simp[one]
   obtain⟨pl,hφ,ok⟩:=hb.rows _ _ _ _ cj;refine⟨pl,ok,fun v hv=>?_,fun b q aK=>⟨d,gd,[],_,pl,q,cj,hφ,aK,rfl,.inr ⟨rfl,hd,by rw[tN,if_pos rfl]⟩⟩⟩;cases hv with
   | au _ _ _ _ _ _ cX A h1 hA hlen=>
    rw[hφ]at h1;cases h1;exact⟨A,rfl,hA,hlen⟩
 obtain⟨cV,Fv,GM,xU⟩:=g9;have su:∀{k gk fk},bI σ1 k=some (gk,fk)→bI σ k=some (gk,fk):=by
  intro k gk fk hk;cases hc with
  | nil=>exact hk
  | shift=>exact hk
  | row d gd _ hd q8=>
   rw[tN]at hk;split at hk
   ·cases hk
   exact hk
 let φ':b9:=fun r gg p=>if r=B∧gg=g∧p=[i] then some cV else φ r gg p
 have fj:∀r gg p,¬(r=B∧p=[i])→φ' r gg p=φ r gg p:=fun r gg p hn=>by
  show(if r=B∧gg=g∧p=[i] then some cV else φ r gg p)=φ r gg p
  rw[if_neg (fun hh=>hn ⟨hh.1,hh.2.2⟩)]
 have qX:φ' B g [i]=some cV:=by
  show(if B=B∧g=g∧[i]=[i] then some cV else φ B g [i])=some cV
  rw[if_pos ⟨rfl,rfl,rfl⟩]
 have ch:∀{r gg p row},rowAt (bQ σ1 B (g,ij B g sz (bs.set i L))) r gg p=some row→
   (r=B∧gg=g∧p=[]∧row=⟨1,fS B g sz (bs.set i L),0,false⟩)∨(r=B∧gg=g∧p=[i]∧row=⟨sz,L,2,false⟩)∨(r=B∧gg=g∧(∃j,j≠i∧p=[j])∧rowAt σ r gg p=some row∧1≤row.fl)∨
   (r≠B∧p=[]∧rowAt σ r gg p=some row∧zx B i row=true∧bI σ1 r≠none):=by
  intro r gg p row hr;rw[jy]at hr;by_cases mC:r=B
  ·rw[if_pos mC]at hr;by_cases hg:g=gg
   ·rw[if_pos hg]at hr;subst mC hg
    match p,hr with
    | [],hr=>
     rw[Ax]at hr;exact .inl ⟨rfl,rfl,rfl,(Option.some.inj hr).symm⟩
    | [j],hr=>
     rw[yF]at hr;by_cases hj:i=j
     ·subst hj;rw[List.getElem?_set_self hi]at hr;exact .inr (.inl ⟨rfl,rfl,rfl,(Option.some.inj hr).symm⟩)
     rw[List.getElem?_set_ne hj]at hr;refine .inr (.inr (.inl ⟨rfl,rfl,⟨j,fun e=>hj e.symm,rfl⟩,?_,?_⟩))
     ·rw[HW j fun e=>hj e.symm];exact hr
     obtain⟨b,-,rfl⟩:=cJ hr;show 1≤2
     omega
    | _::_::_,hr=>cases hr
   rw[if_neg hg]at hr;cases hr
  rw[if_neg mC]at hr;unfold rowAt at hr;split at hr
  ·rename_i gk fk hk;split at hr
   ·rename_i hg;subst hg;have ng:=su hk;rcases JJ hσ ng with e|⟨kZ,rfl,ho⟩
    ·exact absurd e mC
    obtain⟨rfl,rfl⟩:=pY hr;exact .inr (.inr (.inr ⟨mC,rfl,by unfold rowAt;rw[ng];simp[one],ho,by rw[hk];simp⟩))
   cases hr
  cases hr
 have hold:∀{r gg p row pl b q},rowAt (bQ σ1 B (g,ij B g sz (bs.set i L))) r gg p=some row→φ' r gg p=some pl→pl.ad=some (b,q)→
   ∃r2 g2 p2 bD cX q2,rowAt σ r2 g2 p2=some bD∧φ r2 g2 p2=some cX∧cX.ad=some (b,q2)∧((r2=r∧p2=p)∨(r=B∧p=[i]∧bD.ao=false∧p2=[]∧r2≠B∧bI σ1 r2=none))∧(bD.ao=false∨(bD=row∧cX=pl)):=by
  intro r gg p row pl b q hr hp aK;rcases ch hr with ⟨rfl,rfl,rfl,rfl⟩|⟨rfl,rfl,rfl,rfl⟩|⟨rfl,rfl,⟨j,hj,rfl⟩,fQ,-⟩|⟨bO,rfl,fQ,-,-⟩
  ·rw[fj _ _ _ (by simp)]at hp;rw[qh]at hp;cases hp;exact⟨_,_,_,_,_,_,oZ,qh,aK,.inl ⟨rfl,rfl⟩,.inl rfl⟩
  ·rw[qX]at hp;cases hp;obtain⟨r2,g2,p2,bD,cX,q2,k1,k2,k3,k4,k5⟩:=xU b q aK;rcases k5 with ⟨rfl,rfl⟩|⟨k6,k7,k8⟩
   ·exact⟨_,_,_,_,_,_,k1,k2,k3,.inl ⟨rfl,rfl⟩,.inl k4⟩
   exact⟨_,_,_,_,_,_,k1,k2,k3,.inr ⟨rfl,rfl,k4,k6,k7,k8⟩,.inl k4⟩
  ·rw[fj _ _ _ (by rintro⟨-,e⟩;cases e;exact hj rfl)]at hp;exact⟨_,_,_,_,_,_,fQ,hp,aK,.inl ⟨rfl,rfl⟩,.inr ⟨rfl,rfl⟩⟩
  rw[fj _ _ _ (by rintro⟨e,-⟩;exact bO e)]at hp;exact⟨_,_,_,_,_,_,fQ,hp,aK,.inl ⟨rfl,rfl⟩,.inr ⟨rfl,rfl⟩⟩
 have plain:∀{row:Row} {pl:Pl},ma rd' φ w pl row→1≤row.fl→ma rd' φ' w pl row:=by
  intro row pl ok fA;refine⟨ok.wide,ok.len,ok.kind,ok.nil,ok.room,fun b q aK k j c' aU=>?_,ok.ic,ok.mp⟩;obtain⟨v,h1,h2⟩:=ok.cells b q aK k j c' aU;refine⟨v,h1,h2.lT ?_⟩;cases he:row.es[k]? with
  | none=>rw[he]at aU;cases aU
  | some e=>
   rw[he]at aU;have:=(ok.kind e (dh he)).1 fA c' (dh aU);cases c'<;>first|rfl|cases this
 refine⟨rd',φ',⟨hx.1,fun r p pl e hr=>?_⟩,⟨?_,?_,hb.eh,?_,?_,hb.frame,hb.size,hb.os,hb.tape,hb.output⟩,fun t v hv=>(h.tm t v hv).zy fj (JI nO hv),h.size,h.defers,fun r gg p hp=>?_⟩
 ·rw[fj _ _ _ (by rintro⟨rfl,-⟩;omega)];exact hx.2 r p pl e hr
 ·intro r gg p row hr;rcases ch hr with ⟨rfl,rfl,rfl,rfl⟩|⟨rfl,rfl,rfl,rfl⟩|⟨rfl,rfl,⟨j,hj,rfl⟩,fQ,fA⟩|⟨bO,rfl,fQ,ho,-⟩
  ·refine⟨uO,by rw[fj _ _ _ (by simp)];exact qh,fun e he=>?_,?_,fun e he=>⟨fun hh=>absurd hh (by simp),fun hh=>absurd hh (by simp)⟩,mX.nil,mX.room,fun b q aK k j c' aU=>?_,fun ha=>(by cases ha),lj (by show(0:Nat)<3;decide)⟩
   ·obtain⟨k,hk⟩:=List.getElem?_of_mem he;rw[pI]at hk;obtain⟨y,-,rfl⟩:=cJ hk;rfl
   ·have:=mX.len;simp only[List.length_set,rE]at this ⊢;exact this
   have aU:((fS r gg sz (bs.set i L))[k]?).bind (·[j]?)=some c':=aU;rw[pI]at aU;by_cases hk:i=k
   ·subst hk;rw[List.getElem?_set_self hi]at aU;simp only[Option.map_some,Option.bind_some]at aU;cases j with
    | succ j=>simp at aU
    | zero=>
     simp only[List.getElem?_cons_zero,Option.some.injEq]at aU;subst aU;obtain⟨v,h1,h2⟩:=mX.cells b q aK i 0 c (by rw[List.getElem?_set_self (by rw[rE];exact hi)];rfl);refine⟨v,h1,?_⟩;obtain⟨A,rfl,e2,e3⟩:=GM v h2;exact .au r gg [i] sz 0 L.length cV A qX e2 e3
   rw[List.getElem?_set_ne hk]at aU;obtain⟨v,h1,h2⟩:=mX.cells b q aK k j c' (by rw[List.getElem?_set_ne hk,pI];exact aU);refine⟨v,h1,h2.oj fj ?_⟩;cases gq:bs[k]? with
   | none=>rw[gq]at aU;cases aU
   | some y=>
    rw[gq]at aU;simp only[Option.map_some,Option.bind_some]at aU;cases j with
    | succ j=>simp at aU
    | zero=>
     simp only[List.getElem?_cons_zero,Option.some.injEq]at aU;subst aU;have:([k]==[i])=false:=by simp;omega
     simp[E.oj,this]
  ·exact⟨cV,qX,plain Fv (by show 1≤2;omega)⟩
  ·obtain⟨pl,h1,h2⟩:=hb.rows _ _ _ _ fQ;exact⟨pl,by rw[fj _ _ _ (by rintro⟨-,e⟩;cases e;exact hj rfl)];exact h1,plain h2 fA⟩
  obtain⟨pl,h1,h2⟩:=hb.rows _ _ _ _ fQ;refine⟨pl,by rw[fj _ _ _ (by rintro⟨e,-⟩;exact bO e)];exact h1,?_⟩;unfold zx at ho;split at ho
  ·rename_i fA;exact plain h2 (Nat.le_of_ble_eq_true fA)
  refine⟨h2.wide,h2.len,h2.kind,h2.nil,h2.room,fun b q aK k j c' aU=>?_,h2.ic,h2.mp⟩;obtain⟨v,h3,h4⟩:=h2.cells b q aK k j c' aU;refine⟨v,h3,h4.oj fj ?_⟩;cases he:row.es[k]? with
  | none=>rw[he]at aU;cases aU
  | some e=>
   rw[he]at aU;exact List.all_eq_true.1 (List.all_eq_true.1 ho e (dh he)) c' (dh aU)
 ·intro r1 g1 p1 fg r2 g2 p2 bD iZ cX b q1 q2 e1 e2 e3 e4 e5 e6;obtain⟨s1,t1,u1,x1,y1,z1,m1,m2,m3,m4,-⟩:=hold e1 e3 e5;obtain⟨s2,t2,u2,x2,y2,z2,n1,n2,n3,n4,-⟩:=hold e2 e4 e6;obtain⟨k1,k2⟩:=hb.sep _ _ _ _ _ _ _ _ _ _ _ _ _ m1 n1 m2 n2 m3 n3;have dead:∀{r gg p row},rowAt (bQ σ1 B (g,ij B g sz (bs.set i L))) r gg p=some row→r≠B→bI σ1 r≠none:=by
   intro r gg p row hr bO;rcases ch hr with ⟨rfl,-⟩|⟨rfl,-⟩|⟨rfl,-⟩|⟨-,-,-,-,hh⟩
   ·exact absurd rfl bO
   ·exact absurd rfl bO
   ·exact absurd rfl bO
   exact hh
  rcases m4 with ⟨rfl,rfl⟩|⟨rfl,rfl,-,hm,Cy,pz⟩<;>rcases n4 with ⟨rfl,rfl⟩|⟨rfl,rfl,-,hn,KZ,K3⟩
  ·exact⟨k1,k2⟩
  ·subst k1;exact absurd K3 (dead e1 KZ)
  ·subst k1;exact absurd pz (dead e2 Cy)
  exact⟨rfl,rfl⟩
 ·intro r gg p row pl b q e1 e2 e3 k dD;obtain⟨s1,t1,u1,x1,y1,z1,m1,m2,m3,-,m5⟩:=hold e1 e2 e3;rcases m5 with m5|⟨rfl,rfl⟩
  ·exact hb.et _ _ _ _ _ _ _ m1 m2 m3 k (.inl m5)
  rw[e3]at m3;cases m3;exact hb.et _ _ _ _ _ _ _ m1 m2 e3 k dD
 ·intro r gg p row pl b q e1 e2 e3;obtain⟨s1,t1,u1,x1,y1,z1,m1,m2,m3,-,-⟩:=hold e1 e2 e3;exact hb.own _ _ _ _ _ _ _ m1 m2 m3
 have hp:(if r=B∧gg=g∧p=[i] then some cV else φ r gg p)≠none:=hp;split at hp
 ·rename_i e;obtain⟨rfl,rfl,-⟩:=e;exact h.gen r gg [] (by rw[qh];simp)
 exact h.gen r gg p hp
def rD (r g sz:Nat) (bs:List (List (List AV))) (i:Nat) (c:AV):dZ:=dB (sN (ij r g sz bs) [i]) [] ⟨1,(fS r g sz bs).set i [c],0,false⟩
theorem ag6 {r g sz i:Nat}{bs:List (List (List AV))}{c:AV}:dB (sN (ij r g sz bs) [i]) [] ⟨1,(fS r g sz bs).set i [c],0,false⟩=rD r g sz bs i c:=rfl
theorem VY {r g sz i:Nat}{bs:List (List (List AV))}{c:AV}:rD r g sz bs i c []=some ⟨1,(fS r g sz bs).set i [c],0,false⟩:=by unfold rD;simp[dB]
theorem aeb {r g sz i:Nat}{bs:List (List (List AV))}:sN (ij r g sz bs) [i] []=some ⟨1,fS r g sz bs,0,false⟩:=by unfold sN;simp[Ax]
theorem abc {N:NF}{f:dZ}{p:List Nat}:iD N (sN f p)=sN (iD N f) p:=by
 funext q;unfold iD sN;by_cases h:q=p
 ·rw[if_pos h,if_pos h]
 rw[if_neg h,if_neg h]
theorem abe {N:NF}{r g r' g' sz i:Nat}{bs:List (List (List AV))}{c:AV}(h:N r g=some (r',g')):iD N (rD r g sz bs i c)=rD r' g' sz bs i (ot N c):=by
 unfold rD;rw[Rp,abc,J8 h];congr 1;simp only[lU,Nat.ble];congr 1;rw[List.map_set,No h];rfl
def ag9 (N:NF) (r g sz:Nat) (bs:List (List (List AV))) (i:Nat) (c:AV):dZ:=iD N (qD r g sz bs i c)
def V1 (sz:Nat) (bs:List (List (List AV))) (i:Nat) (c:AV) (f:dZ):Option (Nat × Nat)→dZ
 | some x=>qD x.1 x.2 sz bs i c
 | none=>f
theorem abf {N:NF}{r g sz i:Nat}{bs:List (List (List AV))}{c:AV}:iD N (qD r g sz bs i c)=V1 sz bs i (ot N c) (ag9 N r g sz bs i c) (N r g):=by
 cases h:N r g with
 | none=>rfl
 | some x=>exact abg h
def ag7 (N:NF) (r g sz:Nat) (bs:List (List (List AV))) (i:Nat) (c:AV):dZ:=iD N (rD r g sz bs i c)
def VZ (sz:Nat) (bs:List (List (List AV))) (i:Nat) (c:AV) (f:dZ):Option (Nat × Nat)→dZ
 | some x=>rD x.1 x.2 sz bs i c
 | none=>f
theorem abd {N:NF}{r g sz i:Nat}{bs:List (List (List AV))}{c:AV}:iD N (rD r g sz bs i c)=VZ sz bs i (ot N c) (ag7 N r g sz bs i c) (N r g):=by
 cases h:N r g with
 | none=>rfl
 | some x=>exact abe h
attribute [go_sem] ag8 V0 ag6 VY aeb abf V1 abd VZ
theorem aI.yo {n G:Nat}{tm:List (Nat × AV)}{σ σ1:aj}{B g sz:Nat}{bs:List (List (List AV))}{i:Nat}{c:AV}{L:List (List AV)}(hB:B<1000000)
  (hl:bI σ B=some (g,qD B g sz bs i c)) (hi:i<bs.length) (hc:rK σ B g sz bs i c L σ1) (nO:wQ B i tm=true) (hσ:zw B i σ):
  aI ⟨n,tm,σ,G⟩ ⟨n,tm,bQ σ1 B (g,ij B g sz (bs.set i L)),G⟩:=aI.Zl hB hl hi hc nO hσ
theorem aI.Tu {n G:Nat}{tm:List (Nat × AV)}{σ σ1:aj}{B g sz:Nat}{bs:List (List (List AV))}{i:Nat}{c:AV}{L:List (List AV)}(hB:B<1000000)
  (hl:bI σ B=some (g,rD B g sz bs i c)) (hs:KC B i c=false) (hi:i<bs.length) (hc:rK σ B g sz bs i c L σ1) (nO:wQ B i tm=true) (hσ:zw B i σ):
  aI ⟨n,tm,σ,G⟩ ⟨n,tm,bQ σ1 B (g,ij B g sz (bs.set i L)),G⟩:=
 aI.Zk hB _ hl VY (fun j hj=>by
  unfold rD dB sN;rw[if_neg (by simp),if_neg (by simpa using hj)];rfl) (fun h=>by rw[hs]at h;cases h) hi hc nO hσ
section
set_option maxHeartbeats 4000000
set_option maxRecDepth 10000
set_option linter.unusedSimpArgs false
set_option linter.unusedSectionVars false
def aeR:bX:=⟨[],[9,10,11],[24,26,30,44,47,50,51,52,57,58,59,62,76,88,138,185,186,187,253,254,297,311],false⟩
attribute [-go_sem] ei
theorem HJ (w:ai) (n:Nat) (x:aB) (l:List aB) (h:w.ak[n]?=some (x::l)):bb Tryz.prog 160 (eB w) [eA,vI n] (.agg x.cs) (im {w with ak:=w.ak.set n l}):=by
 refine aA aeR false Tryz.f160 ?_;conv=>enter[1];reduce
 refine qV Tryz.f160 33 [.cell 4 116] (by kernel_rfl) (by decide +kernel) rfl rfl ?_;have hn:n<w.ak.length:=(List.getElem?_eq_some_iff.1 h).1;have hx:=dL (bs:=w.bx) (by rw[de];omega);have hg:w.bx[n]?=some (x.cs::l.map aB.cs):=by unfold ai.bx;rw[List.getElem?_map,h];rfl
 have lG:(n:Int)<(w.ak.length:Int):=by omega
 have dR:w.bx.length=w.ak.length:=de w;have t0:(0:Int)<((l.length+1:Nat):Int):=by omega
 have kx:(1:Int)≤((l.length+1:Nat):Int):=by omega
 simp -implicitDefEqProofs only[go_sem,hx,hg,hn,lG,dR,t0,kx,Nat.add_sub_cancel];refine dK.step (aI.tA _ 1000004) ?_;refine aC hx ?_;refine dK.step (aI.yo (B:=900100) (i:=n) (L:=l.map aB.cs) (by decide) rfl (by rw[dR];exact hn) (.Ph x.cs hg (List.length_map _)) rfl (by repeat' first
  | exact trivial
  | refine And.intro (.inl rfl) ?_
  | refine And.intro (.inr ⟨_,rfl,rfl⟩) ?_)) ?_
 have hb:w.bx.set n (l.map aB.cs)=ai.bx {w with ak:=w.ak.set n l}:=by unfold ai.bx;rw[List.map_set]
 refine cg hx hb ?_;have aX:=dL (bs:=ai.bx {w with ak:=w.ak.set n l}) (by rw[de];show 0<(w.ak.set n l).length;rw[List.length_set];omega);refine dK.intro (aI.refl _) ?_;exact AZ aX
end
section
set_option maxHeartbeats 4000000
set_option maxRecDepth 10000
set_option linter.unusedSimpArgs false
set_option linter.unusedSectionVars false
def Mq:bX:=⟨[(105,.cm [true,false]),(106,.cm [true]),(107,.cm [true,false]),(160,.cm [true,false]),(162,.cm [true,false]),(163,.cm [false,false,false]),(164,.cm [true,false,false]),(165,.cm [false]),(166,.cm [true,false]),(167,.cm [true,false,false]),(168,.cm [true,false]),(169,.cm [false,false,false]),(170,.cm [true,false,false]),(171,.cm [false,false,false])],[9,10,11],[24,26,30,44,47,50,51,52,57,58,59,62,76,88,138,185,186,187,253,254,297,311],false⟩
attribute [-go_sem] ei
theorem Df {w:ai}{n:Nat}{x:aB}{l:List aB}(h:w.ak[n]?=some (x::l)):jW w n=({w with ak:=w.ak.set n l},x):=by
 unfold jW;rw[h]
structure ai.wl (w:ai):Prop where
 so:fv w.set=true
 nw:(w.ah.length:Int)=w.set.many
 nc:(w.cls.length:Int)=w.set.bB
 nu:w.up.length=w.ah.length+w.cls.length+2
 nb:w.ak.length=w.ah.length+w.cls.length+2
theorem ai.wf.wl {w:ai}(h:w.wf):w.wl:=⟨h.so,h.nw,h.nc,h.nu,h.nb⟩
theorem ai.wl.dH {w:ai}(h:w.wl):0<w.ak.length:=by have:=h.nb;omega
theorem ai.wl.hx {w:ai}(h:w.wl):∀r g sz,ei (fS r g sz w.bx)=[(r,g)]:=dL (by rw[de];exact h.dH)
theorem ai.wl.last {w:ai}(h:w.wl):w.set.many+w.set.bB+1=((w.ah.length+w.cls.length+1:Nat):Int):=by
 have h1:=h.nw;have h2:=h.nc;omega
theorem ai.wl.rl {w v:ai}(h:w.wl) (k:iC w v):v.wl:=
 ⟨by rw[k.set];exact h.so,by rw[k.set,k.ah];exact h.nw,by rw[k.set,k.cls];exact h.nc,by rw[k.up,k.ah,k.cls];exact h.nu,by rw[k.ak,k.ah,k.cls];exact h.nb⟩
theorem ai.wl.up {w:ai}(h:w.wl) (n:Nat) (b:Bool):ai.wl {w with up:=w.up.set n b}:=
 ⟨h.so,h.nw,h.nc,by show(w.up.set n b).length=_;rw[List.length_set];exact h.nu,h.nb⟩
theorem ai.wl.box {w:ai}(h:w.wl) (n:Nat) (b:List aB):ai.wl {w with ak:=w.ak.set n b}:=
 ⟨h.so,h.nw,h.nc,h.nu,by show(w.ak.set n b).length=_;rw[List.length_set];exact h.nb⟩
theorem ai.wl.pQ {w:ai}(h:w.wl) (n:Nat) (b:bE):ai.wl {w with ah:=w.ah.set n b}:=
 ⟨h.so,by show((w.ah.set n b).length:Int)=_;rw[List.length_set];exact h.nw,h.nc,by show _=(w.ah.set n b).length+_+2;rw[List.length_set];exact h.nu,by show _=(w.ah.set n b).length+_+2;rw[List.length_set];exact h.nb⟩
theorem ai.wl.fresh {w:ai}(h:w.wl) (n:Nat):(eW w n).wl:=by
 unfold eW;split
 ·exact⟨h.so,h.nw,h.nc,h.nu,h.nb⟩
 split
 ·exact h.pQ _ _
 split
 ·exact⟨h.so,h.nw,by show((w.cls.set _ _).length:Int)=_;rw[List.length_set];exact h.nc,by show _=_+(w.cls.set _ _).length+2;rw[List.length_set];exact h.nu,by show _=_+(w.cls.set _ _).length+2;rw[List.length_set];exact h.nb⟩
 exact⟨h.so,h.nw,h.nc,h.nu,h.nb⟩
theorem zM {w:ai}(h:w.wl) (n:Nat):bb Tryz.prog 105 (eB w) [eA,vI n] (vB (decide (1≤n∧n≤w.ah.length))) (eB w):=by
 have e:=agX w n h.dH;have hk:=h.nw;have:aT n 1 w.set.many=decide (1≤n∧n≤w.ah.length):=by
  rw[Bool.eq_iff_iff,cf,decide_eq_true_iff];omega
 rw[this]at e;exact e
theorem adb (w v:ai) (n:Nat) (x:aB) (l:List aB) (h:w.ak[n]?=some (x::l)) (hv:v.wf) (iF:c8 x=true) (e:{w with ak:=w.ak.set n l}=v) (h0:n=0) (iI:0<w.ak.length):
  bb Tryz.prog 113 (eB w) [eA,vI n] (.ba []) (im (fI v n x)):=by
 refine aA Mq false Tryz.f113 ?_;conv=>enter[1];reduce
 refine bT Tryz.f113 132 [] (by kernel_rfl) (by decide +kernel) rfl ?_;have hx:=dL (bs:=w.bx) (by rw[de];exact iI);have hf:=HJ w n x l h;rw[e]at hf;have di:=hv.hx;have lI:=(gI hv.lg).1;have Gy:=agD v.log x (by unfold maxLen;omega);subst h0;have z:(((0:Nat):Int)==0)=true:=rfl;unfold fI;rw[if_pos rfl];refine aC hx ?_;refine ff hf di z ?_;cases hk:(kg v.log x).2 with
 | true=>
  have jt:=Kp hk;have hs:=DG v [(kg v.log x).1] hv (fun y hy=>by rw[List.mem_singleton.1 hy];exact jt) (by show 1≤1000;omega);have mB:=hv.Bo jt;have es:fG v [(kg v.log x).1]=lq v (kg v.log x).1:=rfl;rw[es]at hs;rw[if_pos rfl];generalize kg v.log x=A at *;generalize lq v A.1=u at *;have fD:=mB.hx;refine And.intro ?_ ?_<;>
  ·refine qG Gy hk di ?_;refine aD.intro hs ?_;exact dk di fD
 | false=>
  rw[if_neg (by decide)];generalize kg v.log x=A at *;refine And.intro ?_ ?_<;>
  ·refine aq.intro Gy ?_;exact dk hk di
theorem ada (w v:ai) (n:Nat) (x:aB) (l:List aB) (h:w.ak[n]?=some (x::l)) (hv:v.wf) (iF:c8 x=true) (e:{w with ak:=w.ak.set n l}=v) (hn:n=v.ah.length+v.cls.length+1) (iI:0<w.ak.length) (gq:v.book.length≤3700000000):
  bb Tryz.prog 113 (eB w) [eA,vI n] (.ba []) (im (fI v n x)):=by
 refine aA Mq false Tryz.f113 ?_;conv=>enter[1];reduce
 refine bT Tryz.f113 132 [] (by kernel_rfl) (by decide +kernel) rfl ?_;have hx:=dL (bs:=w.bx) (by rw[de];exact iI);have hf:=HJ w n x l h;rw[e]at hf;have di:=hv.hx;have hs:=d7 hv.so;have ga:=hv.nw;have jD:=hv.nc;have jY:aT n 1 20=true:=cf.2 (by omega);have hm:=jK.of hv.mn;have hq:=(B1 hv.mn iF jY);have dS:=zM hv.wl n;rw[decide_eq_false (by omega)]at dS;have gK:=tQ (n:=n) hv.so hv.dH (by rw[hv.last,hn]);have oF:=(r8 hv.mn).1;have xV:=XX v.cD n x (by have:=oF.a;unfold maxLen;omega) (by have:=(gI oF.l).1;unfold maxLen;omega);have xL:=VF v n (i9 v.cD n x) hv hn (jK.mk' hq.1.ok) hq.2 (Ra hv.mn iF jY) (by omega);have hu:(fI v n x).wf:=hv.CL (by omega) iF;unfold fI at hu ⊢;rw[if_neg (by omega),if_neg (by omega),if_neg (by omega)]at hu ⊢;have z:((n:Int)==0)=false:=by rw[beq_eq_false_iff_ne];omega
 have z2:((n:Int)==(n:Int))=true:=by rw[beq_self_eq_true]
 generalize i9 v.cD n x=T at *;generalize pd v n T=u at *;have fD:=hu.hx;refine aC hx ?_;refine ff hf di z ?_;refine il dS di ?_;refine ff gK di z2 ?_;refine il xV di ?_;refine aD.intro xL ?_;exact dk di fD
theorem ade (w v:ai) (n:Nat) (x:aB) (l:List aB) (h:w.ak[n]?=some (x::l)) (hv:v.wf) (iF:c8 x=true) (e:{w with ak:=w.ak.set n l}=v) (hn:v.ah.length<n∧n≤v.ah.length+v.cls.length) (iI:0<w.ak.length) (gq:v.book.length≤3700000000):
  bb Tryz.prog 113 (eB w) [eA,vI n] (.ba []) (im (fI v n x)):=by
 refine aA Mq false Tryz.f113 ?_;conv=>enter[1];reduce
 refine bT Tryz.f113 132 [] (by kernel_rfl) (by decide +kernel) rfl ?_;have hx:=dL (bs:=w.bx) (by rw[de];exact iI);have hf:=HJ w n x l h;rw[e]at hf;have di:=hv.hx;have hs:=d7 hv.so;have ga:=hv.nw;have jD:=hv.nc;have jY:aT n 1 20=true:=cf.2 (by omega);have dS:=zM hv.wl n;rw[decide_eq_false (by omega)]at dS;have gK:=tQ hv.so hv.dH hv.last;have hk:n - v.ah.length - 1<v.cls.length:=by omega
 have mL:=HP v n hv.so (by omega) hv.dH;rw[cf.2 (by omega),if_pos rfl,show(n:Int) - v.set.many - 1=((n - v.ah.length - 1:Nat):Int) by omega]at mL;have hg:v.cls[n - v.ah.length - 1]?=some (v.cls.getD (n - v.ah.length - 1) (dP v.set)):=by rw[List.getD_eq_getElem?_getD,bz hk];rfl
 have hc:=hv.cl _ (iS (l:=v.cls) (i:=n - v.ah.length - 1) (d:=dP v.set) hk);have hu:(fI v n x).wf:=hv.CL (by omega) iF;unfold fI at hu ⊢;rw[if_neg (by omega),if_neg (by omega),if_pos (by omega)]at hu ⊢;have z:((n:Int)==0)=false:=by rw[beq_eq_false_iff_ne];omega
 have z2:((n:Int)==((v.ah.length+v.cls.length+1:Nat):Int))=false:=by rw[beq_eq_false_iff_ne];omega
 generalize v.cls.getD (n - v.ah.length - 1) (dP v.set)=c at *;have ho:iQ c n x=true:=by unfold iQ;rw[hc,iF,jY];rfl
 have q:=xu ho;have lL:=(sX hc).2;have mK:=XW c n x (by unfold maxLen;omega);have iO:=VE v n (jo c n x) hv hn q.ok (F8 hc q (by omega)) (Lp ho) (by omega);generalize jo c n x=T at *;generalize pe v n T=u at *;generalize nf:n - v.ah.length - 1=k at *;have bW:(k:Int)<(v.cls.length:Int):=by omega
 have fD:=hu.hx;refine aC hx ?_;refine ff hf di z ?_;refine il dS di ?_;refine ff gK di z2 ?_;refine aD.intro mL ?_;simp -implicitDefEqProofs only[go_sem,di,hk,bW,hg,bu.rc];refine il mK di ?_;refine aD.intro iO ?_;exact dk di fD
end
section
set_option maxHeartbeats 4000000
set_option maxRecDepth 10000
set_option linter.unusedSimpArgs false
set_option linter.unusedSectionVars false
def aeO:bX:=⟨[(105,.cm [true,false]),(106,.cm [true]),(107,.cm [true,false]),(160,.cm [true,false]),(162,.cm [true,false]),(163,.cm [false,false,false]),(164,.cm [true,false,false]),(165,.cm [false]),(166,.cm [true,false]),(167,.cm [true,false,false]),(168,.cm [true,false]),(169,.cm [false,false,false]),(170,.cm [true,false,false]),(171,.cm [false,false,false])],[9,10,11],[24,26,30,44,47,50,51,52,57,58,59,62,76,88,138,185,186,187,253,254,297,311],false⟩
attribute [-go_sem] ei
attribute [go_sem] eS.rv
def eS.hQ (H:eS):List AV:=H.aH.cs++[.ro 7 (H.aS.map bG.cs),.ro 3 (H.eu.map cL.cs),.ro 11 (H.kept.toList.map iK.rc),.ro 3 (H.bM.map aB.cs),.ro 13 (H.dI.map ec.cs)]
theorem ac9 (w v:ai) (n:Nat) (x:aB) (l:List aB) (h:w.ak[n]?=some (x::l)) (hv:v.wf) (iF:c8 x=true) (e:{w with ak:=w.ak.set n l}=v) (hn:1≤n∧n≤v.ah.length) (iI:0<w.ak.length) (gq:v.book.length≤3700000000):
  bb Tryz.prog 113 (eB w) [eA,vI n] (.ba []) (im (fI v n x)):=by
 refine aA aeO false Tryz.f113 ?_;conv=>enter[1];reduce
 refine bT Tryz.f113 132 [] (by kernel_rfl) (by decide +kernel) rfl ?_;have hx:=dL (bs:=w.bx) (by rw[de];exact iI);have hf:=HJ w n x l h;rw[e]at hf;have di:=hv.hx;have hs:=d7 hv.so;have ga:=hv.nw;have jD:=hv.nc;have jY:aT n 1 20=true:=cf.2 (by omega);have dS:=zM hv.wl n;rw[decide_eq_true hn]at dS;have hk:n - 1<v.ah.length:=by omega
 have hg:v.ah[n - 1]?=some (v.ah.getD (n - 1) cF):=by rw[List.getD_eq_getElem?_getD,bz hk];rfl
 obtain⟨w1,w2,w3⟩:=hv.wt _ (iS (l:=v.ah) (i:=n - 1) (d:=cF) hk);unfold fI;rw[if_neg (by omega),if_pos (by omega)];have z:((n:Int)==0)=false:=by rw[beq_eq_false_iff_ne];omega
 have z2:IntKind.i64.wrap ((n:Int) - 1)=((n - 1:Nat):Int):=by rw[aV (by omega)];omega
 generalize v.ah.getD (n - 1) cF=y at *;have gX:=uI w2;have mK:=OK y n x w1 (by unfold maxLen;omega);have hm:=uL (me:=(n:Int)) (l:=x) w1 w3;have ht:=(IB (me:=(n:Int)) (l:=x) w2 iF jY w3).1;have hl:=IC (w:=y) (me:=(n:Int)) (l:=x) (by omega);generalize fO y n x=T at *;unfold B7;have k1:=hv.pQ (i:=n - 1) (x:=⟨T.aH,T.aS⟩) ⟨hm.d,ht.ok,hm.x w3⟩;have aE:=rO v.ah (n - 1) T.aH T.aS;generalize n - 1=k at *;have bW:(k:Int)<(v.ah.length:Int):=by omega
 have La:=yY T.kept;have dW:=hm.l;have hal:=hm.a;have c1:=VH {v with ah:=v.ah.set k ⟨T.aH,T.aS⟩} n T.kept.toList (by show v.book.length≤3900000000;omega) k1.dH (by omega) (vd hm);have b1:=(v5 {v with ah:=v.ah.set k ⟨T.aH,T.aS⟩} n T.kept.toList (vd hm)).len;have b1:(fi {v with ah:=v.ah.set k ⟨T.aH,T.aS⟩} n T.kept.toList).book.length≤v.book.length+T.kept.toList.length:=b1;have k2:=Sb k1 n T.kept.toList;generalize fi {v with ah:=v.ah.set k ⟨T.aH,T.aS⟩} n T.kept.toList=u at *;have k3:=Wx k2 n T.bM;have b2:=(DM u n T.bM).len;have c3:=DG (iw u n T.bM) T.bM k3 hl (by omega);have b3:=(rF (iw u n T.bM) T.bM).len;have k4:=k3.send hl;have c4:=Nf (fG (iw u n T.bM) T.bM) n T.dI (by omega) k4.dH (by omega);have k5:=Ws k4 n T.dI;generalize hA:iw u n T.bM=A at *;generalize fG A T.bM=S at *;generalize gV S n T.dI=Z at *;have fD:=k2.hx;have Ci:=k3.hx;have Ch:=k4.hx;have qY:=k5.hx;have pz:T.bM.length≤maxLen:=by unfold maxLen;omega
 simp only[cS.cs,List.cons_append,List.nil_append]at aE;refine aC hx ?_;refine ff hf di z ?_;refine aD.intro dS ?_;simp -implicitDefEqProofs only[go_sem,di,z2,hk,bW,hg,bE.rc];refine And.intro ?_ ?_;all_goals
  refine aD.intro mK ?_;simp -implicitDefEqProofs only[go_sem,di,z2,hk,bW,hg,bE.rc,aE];refine aD.intro (res:=.ba []) (σout:=im u) (by simp -implicitDefEqProofs only[go_sem,List.length_set]at c1 ⊢;exact c1) ?_;refine aC fD ?_;refine iN (fun m s=>∃(i:Nat),i≤T.bM.length∧m=T.bM.length - i∧s=⟨132,[(0,eA),(1,vI n),(7,.ptr 7 0 [] 19 0 0),(77,.ro 3 (T.bM.map aB.cs)),(78,vI T.bM.length),(79,vI i)],wS (iw u n (T.bM.take i)) 900000 1++[(7,0,one ⟨19,[T.hQ],0,false⟩)],1⟩) T.bM.length (cO.intro (aI.dm [1000000] [0,1,7,77,78,79] _) ?_) ?_
  ·refine aC fD ?_;exact⟨0,aQ _,rfl,rfl⟩
  rintro m s ⟨i,hi,rfl,rfl⟩;rcases bm i T.bM.length with ab|bH
  ·have ae:(i:Int)<(T.bM.length:Int):=by omega
   have iP:T.bM[i]?=some T.bM[i]:=bz ab;have hw:=df ab pz;have Sk:=sL u n (T.bM.take i);have nf:=(DM u n (T.bM.take i)).len;rw[List.length_take]at nf;have gY:=Wy u n T.bM ab;generalize iw u n (T.bM.take i)=a at *;have aX:=Sk.hx k2.dH;have dg:=(zL (hl _ (List.getElem_mem ab))).2.2;have tS:=DF T.bM[i].text (by omega);unfold xH NS at gY;have hc:=BR a ⟨3,n,T.bM[i].jx,0,0,.zero,⟨(bV T.bM[i].text).1.size,(bV T.bM[i].text).1.root⟩,[]⟩ (by omega) (by rw[Sk.ak];exact k2.dH) rfl;have dQ:=sL u n (T.bM.take (i+1));generalize hq:iw u n (T.bM.take (i+1))=q at *;have cr:=dQ.hx k2.dH;generalize bV T.bM[i].text=W at *;unfold eS.hQ;refine eI ae iP hw aX ?_;refine aD.intro tS ?_;cases oJ:(W.2.1==0) with
   | false=>
    rw[if_neg (by rw[oJ,Bool.false_and];decide)]at gY;simp -implicitDefEqProofs only[go_sem,oJ,ae,iP,hw,aX,eo,ek];refine fh.intro (T.bM.length - (i+1)) (by omega) (aI.dm [1000000] [0,1,7,77,78,79] _) ?_;refine aC aX ?_;refine⟨i+1,ab,rfl,?_⟩;subst hq;rw[gY];try rfl
   | true=>
    cases t6:(W.1.kind==6) with
    | true=>
     rw[if_pos (by rw[oJ,t6];rfl)]at gY;rw[←gY]at hc;simp -implicitDefEqProofs only[go_sem,oJ,t6,ae,iP,hw,aX,eo,ek];refine mb hc hw aX cr ?_;refine fh.intro (T.bM.length - (i+1)) (by omega) (aI.dm [1000000] [0,1,7,77,78,79] _) ?_;refine aC cr ?_;refine⟨i+1,ab,rfl,?_⟩;subst hq;try rfl
    | false=>
     rw[if_neg (by rw[oJ,t6];decide)]at gY;simp -implicitDefEqProofs only[go_sem,oJ,t6,ae,iP,hw,aX,eo,ek];refine fh.intro (T.bM.length - (i+1)) (by omega) (aI.dm [1000000] [0,1,7,77,78,79] _) ?_;refine aC aX ?_;refine⟨i+1,ab,rfl,?_⟩;subst hq;rw[gY];try rfl
  have hi:i=T.bM.length:=by omega
  subst hi;have ae:¬((T.bM.length:Int)<(T.bM.length:Int)):=by omega
  rw[List.take_length,hA];unfold eS.hQ;refine cg ae Ci ?_;refine ff c3 Ci Ch ?_;refine aD.intro c4 ?_;exact dk Ch qY
theorem VP (w:ai) (n:Nat) (x:aB) (l:List aB) (hw:w.wf) (h:w.ak[n]?=some (x::l)) (gq:w.book.length≤3700000000):bb Tryz.prog 113 (eB w) [eA,vI n] (.ba []) (im (kh w n)):=by
 have hf:=hw.first n;unfold kh;rw[Df h]at hf ⊢;have hn:=(List.getElem?_eq_some_iff.1 h).1;have lF:=hw.nb;simp only at hf ⊢;have kx:ai.ah {w with ak:=w.ak.set n l}=w.ah:=rfl;have na:ai.cls {w with ak:=w.ak.set n l}=w.cls:=rfl;have nS:ai.book {w with ak:=w.ak.set n l}=w.book:=rfl;generalize he:({w with ak:=w.ak.set n l}:ai)=v at *;by_cases c0:n=0
 ·exact adb w v n x l h hf.1 hf.2 he c0 hw.dH
 by_cases c1:n≤v.ah.length
 ·exact ac9 w v n x l h hf.1 hf.2 he (by omega) hw.dH (by rw[nS];exact gq)
 by_cases c2:n≤v.ah.length+v.cls.length
 ·exact ade w v n x l h hf.1 hf.2 he (by omega) hw.dH (by rw[nS];exact gq)
 exact ada w v n x l h hf.1 hf.2 he (by rw[kx,na]at *;omega) hw.dH (by rw[nS];exact gq)
end
section
set_option maxHeartbeats 4000000
set_option maxRecDepth 10000
set_option linter.unusedSimpArgs false
set_option linter.unusedSectionVars false
def aeQ:bX:=⟨[],[9,10,11],[24,26,30,44,47,50,51,52,57,58,59,62,76,88,138,185,186,187,253,254,297,311],false⟩
attribute [-go_sem] ei
theorem ag1 (w:ai) (n:Nat) (l:List aB):w.bx.set n (l.map aB.cs)=ai.bx {w with ak:=w.ak.set n l}:=by unfold ai.bx;rw[List.map_set]
theorem DE (w:ai) (n:Nat) (x:aB) (l:List aB) (h:w.ak[n]?=some (x::l)) (hl:l.length≤1000):bb Tryz.prog 181 (gm w) [vA w 1000000,vI n] (.ba [vA {w with ak:=w.ak.set n l} 0,.agg x.cs]) (eJ {w with ak:=w.ak.set n l}):=by
 refine aA aeQ false Tryz.f181 ?_;conv=>enter[1];reduce
 refine qV Tryz.f181 49 [.cell 4 64,.cell 5 116] (by kernel_rfl) (by decide +kernel) rfl rfl ?_;have hn:n<w.ak.length:=(List.getElem?_eq_some_iff.1 h).1;have hx:=dL (bs:=w.bx) (by rw[de];omega);have hg:w.bx[n]?=some (x.cs::l.map aB.cs):=by unfold ai.bx;rw[List.getElem?_map,h];rfl
 have dR:w.bx.length=w.ak.length:=de w;have lG:(n:Int)<(w.ak.length:Int):=by omega
 have t0:(0:Int)<((l.length+1:Nat):Int):=by omega
 have kx:(1:Int)≤((l.length+1:Nat):Int):=by omega
 have hm:l.length+1≤maxLen:=by unfold maxLen;omega
 simp -implicitDefEqProofs only[go_sem,hx,hg,hn,lG,dR,t0,kx,Nat.add_sub_cancel];refine cR (fun m s=>∃(i:Nat),i≤l.length∧m=l.length - i∧s=⟨49,[(1,vI n),(2,.ptr 2 0 [] 35 0 0),(4,.ptr 4 0 [] 35 0 0),(5,.ptr 5 0 [] 3 0 0),(6,.ptr 6 0 [] 3 0 0),(7,.au 7 0 [] 3 0 (l.take i).length),(8,vI ((i+1:Nat):Int))],w.rows 1000000 1++[(2,0,one ⟨35,[w.cells 1000000 1],0,false⟩),(4,0,one ⟨35,[jL],0,false⟩),(5,0,one ⟨3,[Eh.cs],0,false⟩),(6,0,one ⟨3,[x.cs],0,false⟩),(7,0,one ⟨3,(l.take i).map aB.cs,2,false⟩)],1⟩) l.length ?_ ?_
 ·refine aC hx ?_;exact⟨0,aQ _,rfl,rfl⟩
 rintro m s ⟨i,hi,rfl,rfl⟩;rcases bm i l.length with ab|bH
 ·have ae:((i+1:Nat):Int)<((l.length+1:Nat):Int):=by omega
  have iP:(x.cs::l.map aB.cs)[i+1]?=some l[i].cs:=by rw[List.getElem?_cons_succ,List.getElem?_map,bz ab];rfl
  have hw:=df (i:=i+1) (n:=l.length+1) (by omega) hm;have ej:=tO (l.take i) (by rw[List.length_take];omega);have jr:=Bh ab;generalize l[i]=y at *;simp only[aB.cs]at iP;simp -implicitDefEqProofs only[go_sem,hx,hg,hn,lG,dR,ae,iP,hw,ej];refine⟨_,by omega,i+1,ab,rfl,?_⟩;rw[jr];simp only[gj,aB.cs];try rfl
 have hi:i=l.length:=by omega
 subst hi;have ae:¬(((l.length+1:Nat):Int)<((l.length+1:Nat):Int)):=by omega
 rw[List.take_length];refine nz ae hx hg hn lG dR ?_;refine dK.step (aI.tA _ 1000003) ?_;refine aC hx ?_;refine dK.step (aI.yo (B:=900100) (i:=n) (L:=l.map aB.cs) (by decide) rfl (by rw[dR];exact hn) (.cq (d:=7) (gd:=0) (by decide) rfl (List.length_map _)) rfl (by repeat' first|exact trivial|refine And.intro (.inl rfl) ?_|refine And.intro (.inr ⟨_,rfl,rfl⟩) ?_)) ?_;have hb:=ag1 w n l;refine cg hx hb ?_;have aX:=dL (bs:=ai.bx {w with ak:=w.ak.set n l}) (by rw[de];show 0<(w.ak.set n l).length;rw[List.length_set];omega);refine dK.intro (aI.refl _) ?_;exact AZ aX
end
inductive gM:List (List AV)→List (List AV)→Prop
 | nil:gM [] []
 | cons {e e':List AV} {l l':List (List AV)} (h:kC e e') (t:gM l l'):gM (e::l) (e'::l')
theorem gM.refl:∀l:List (List AV),gM l l
 | []=>.nil
 | e::l=>.cons (kC.refl e) (gM.refl l)
theorem gM.len {l l':List (List AV)}(h:gM l l'):l.length=l'.length:=by
 induction h with
 | nil=>rfl
 | cons _ _ ih=>simp[ih]
theorem gM.get {l l':List (List AV)}(h:gM l l'):∀(i:Nat) (e:List AV),l[i]?=some e→∃e',l'[i]?=some e'∧kC e e':=by
 induction h with
 | nil=>intro i e he;simp at he
 | cons h t ih=>
  intro i e he;cases i with
  | zero=>simp at he;subst he;exact⟨_,rfl,h⟩
  | succ i=>simpa using ih i e (by simpa using he)
theorem gM.set {e e':List AV}(h:kC e e'):∀(l:List (List AV)) (i:Nat),gM (l.set i e) (l.set i e')
 | [],_=>.nil
 | x::l,0=>.cons h (gM.refl l)
 | x::l,i+1=>.cons (kC.refl x) (gM.set h l i)
theorem abQ {fl:Nat}(fA:fl≤1) {e e':List AV}(h:kC e e') (k:iB fl e'):iB fl e:=by
 refine⟨fun hf c hc=>?_,fun h2=>by omega⟩;obtain⟨j,hj⟩:=List.getElem?_of_mem hc;obtain⟨c',h1,h2⟩:=h.get j c hj;rcases h2 with rfl|⟨-,sz,rfl⟩
 ·exact k.1 hf c (dh h1)
 rfl
theorem aI.tr {n G:Nat}{tm:List (Nat × AV)}{σ:aj}{r g sz fl:Nat}{es:List (List AV)}(ig:List (List AV)) (fA:fl≤1) (hl:bI σ r=some (g,one ⟨sz,es,fl,false⟩)) (hw:gM ig es):
  aI ⟨n,tm,σ,G⟩ ⟨n,tm,bQ σ r (g,one ⟨sz,ig,fl,false⟩),G⟩:=by
 intro rd O w0 a w ⟨rd',φ,hx,h⟩;have hb:=h.heap;have oZ:rowAt σ r g []=some ⟨sz,es,fl,false⟩:=by unfold rowAt;rw[hl];simp[one]
 have ch:∀{r2 g2 p2 row},rowAt (bQ σ r (g,one ⟨sz,ig,fl,false⟩)) r2 g2 p2=some row→(r2=r∧g2=g∧p2=[]∧row=⟨sz,ig,fl,false⟩)∨rowAt σ r2 g2 p2=some row:=by
  intro r2 g2 p2 row hr;rw[jy]at hr;by_cases kT:r2=r
  ·rw[if_pos kT]at hr;by_cases hg:g=g2
   ·rw[if_pos hg]at hr;obtain⟨rfl,rfl⟩:=pY hr;exact .inl ⟨kT,hg.symm,rfl,rfl⟩
   rw[if_neg hg]at hr;cases hr
  rw[if_neg kT]at hr;exact .inr hr
 have hold:∀{r2 g2 p2 row},rowAt (bQ σ r (g,one ⟨sz,ig,fl,false⟩)) r2 g2 p2=some row→∃kZ,rowAt σ r2 g2 p2=some kZ∧(kZ=row∨kZ.ao=false):=by
  intro r2 g2 p2 row hr;rcases ch hr with ⟨rfl,rfl,rfl,rfl⟩|h
  ·exact⟨_,oZ,.inr rfl⟩
  exact⟨_,h,.inl rfl⟩
 refine⟨rd',φ,hx,⟨?_,?_,hb.eh,?_,?_,hb.frame,hb.size,hb.os,hb.tape,hb.output⟩,h.tm,h.size,h.defers,h.gen⟩
 ·intro r2 g2 p2 row hr;rcases ch hr with ⟨rfl,rfl,rfl,rfl⟩|hr
  ·obtain⟨pl,hφ,ok⟩:=hb.rows _ _ _ _ oZ;refine⟨pl,hφ,⟨fun e he=>?_,?_,fun e he=>?_,ok.nil,ok.room,fun b q aK i j c hc=>?_,fun ha=>(by cases ha),lj (by show fl<3;omega)⟩⟩
   ·obtain⟨i,hi⟩:=List.getElem?_of_mem he;obtain⟨e0,h1,h2⟩:=hw.get i e hi;show e.length=sz
    rw[h2.len];exact ok.wide e0 (dh h1)
   ·show ig.length≤pl.cap
    rw[hw.len];exact ok.len
   ·obtain⟨i,hi⟩:=List.getElem?_of_mem he;obtain⟨e0,h1,h2⟩:=hw.get i e hi;exact abQ fA h2 (ok.kind e0 (dh h1))
   have hc:(ig[i]?).bind (·[j]?)=some c:=hc;obtain⟨e,he,Lo⟩:=cw hc;obtain⟨e0,h1,h2⟩:=hw.get i e he;obtain⟨c0,h3,h4⟩:=h2.get j c Lo;obtain⟨v,h5,h6⟩:=ok.cells b q aK i j c0 (by show(es[i]?).bind (·[j]?)=some c0;rw[h1];exact h3);exact⟨v,h5,h6.wk h4⟩
  exact hb.rows _ _ _ _ hr
 ·intro r1 g1 p1 fg r2 g2 p2 bD iZ cX b q1 q2 e1 e2 e3 e4 e5 e6;obtain⟨x1,y1,-⟩:=hold e1;obtain⟨x2,y2,-⟩:=hold e2;exact hb.sep _ _ _ _ _ _ _ _ _ _ _ _ _ y1 y2 e3 e4 e5 e6
 ·intro r2 g2 p2 row pl b q e1 e2 e3 k dD;obtain⟨x1,y1,y2⟩:=hold e1;rcases y2 with rfl|y2
  ·exact hb.et _ _ _ _ _ _ _ y1 e2 e3 k dD
  exact hb.et _ _ _ _ _ _ _ y1 e2 e3 k (.inl y2)
 intro r2 g2 p2 row pl b q e1 e2 e3;obtain⟨x1,y1,-⟩:=hold e1;exact hb.own _ _ _ _ _ _ _ y1 e2 e3
theorem abP {fl Aj:Nat}(fA:fl≤1) (hle:fl≤Aj) {e e':List AV}(h:kC e e') (k:iB Aj e'):iB fl e:=by
 refine⟨fun hf c hc=>?_,fun h2=>by omega⟩;obtain⟨j,hj⟩:=List.getElem?_of_mem hc;obtain⟨c',h1,h2⟩:=h.get j c hj;rcases h2 with rfl|⟨-,sz,rfl⟩
 ·exact k.1 (by omega) c (dh h1)
 rfl
theorem aI.pO {n G:Nat}{tm:List (Nat × AV)}{σ:aj}{r g sz Aj:Nat}{es:List (List AV)}(ig:List (List AV)) (fl:Nat) (fA:fl≤1) (hle:fl≤Aj) (hl:bI σ r=some (g,one ⟨sz,es,Aj,false⟩)) (hw:gM ig es):
  aI ⟨n,tm,σ,G⟩ ⟨n,tm,bQ σ r (g,one ⟨sz,ig,fl,false⟩),G⟩:=by
 intro rd O w0 a w ⟨rd',φ,hx,h⟩;have hb:=h.heap;have oZ:rowAt σ r g []=some ⟨sz,es,Aj,false⟩:=by unfold rowAt;rw[hl];simp[one]
 have ch:∀{r2 g2 p2 row},rowAt (bQ σ r (g,one ⟨sz,ig,fl,false⟩)) r2 g2 p2=some row→(r2=r∧g2=g∧p2=[]∧row=⟨sz,ig,fl,false⟩)∨rowAt σ r2 g2 p2=some row:=by
  intro r2 g2 p2 row hr;rw[jy]at hr;by_cases kT:r2=r
  ·rw[if_pos kT]at hr;by_cases hg:g=g2
   ·rw[if_pos hg]at hr;obtain⟨rfl,rfl⟩:=pY hr;exact .inl ⟨kT,hg.symm,rfl,rfl⟩
   rw[if_neg hg]at hr;cases hr
  rw[if_neg kT]at hr;exact .inr hr
 have hold:∀{r2 g2 p2 row},rowAt (bQ σ r (g,one ⟨sz,ig,fl,false⟩)) r2 g2 p2=some row→∃kZ,rowAt σ r2 g2 p2=some kZ∧(kZ=row∨kZ.ao=false):=by
  intro r2 g2 p2 row hr;rcases ch hr with ⟨rfl,rfl,rfl,rfl⟩|h
  ·exact⟨_,oZ,.inr rfl⟩
  exact⟨_,h,.inl rfl⟩
 refine⟨rd',φ,hx,⟨?_,?_,hb.eh,?_,?_,hb.frame,hb.size,hb.os,hb.tape,hb.output⟩,h.tm,h.size,h.defers,h.gen⟩
 ·intro r2 g2 p2 row hr;rcases ch hr with ⟨rfl,rfl,rfl,rfl⟩|hr
  ·obtain⟨pl,hφ,ok⟩:=hb.rows _ _ _ _ oZ;refine⟨pl,hφ,⟨fun e he=>?_,?_,fun e he=>?_,ok.nil,ok.room,fun b q aK i j c hc=>?_,fun ha=>(by cases ha),lj (by show fl<3;omega)⟩⟩
   ·obtain⟨i,hi⟩:=List.getElem?_of_mem he;obtain⟨e0,h1,h2⟩:=hw.get i e hi;show e.length=sz
    rw[h2.len];exact ok.wide e0 (dh h1)
   ·show ig.length≤pl.cap
    rw[hw.len];exact ok.len
   ·obtain⟨i,hi⟩:=List.getElem?_of_mem he;obtain⟨e0,h1,h2⟩:=hw.get i e hi;exact abP fA hle h2 (ok.kind e0 (dh h1))
   have hc:(ig[i]?).bind (·[j]?)=some c:=hc;obtain⟨e,he,Lo⟩:=cw hc;obtain⟨e0,h1,h2⟩:=hw.get i e he;obtain⟨c0,h3,h4⟩:=h2.get j c Lo;obtain⟨v,h5,h6⟩:=ok.cells b q aK i j c0 (by show(es[i]?).bind (·[j]?)=some c0;rw[h1];exact h3);exact⟨v,h5,h6.wk h4⟩
  exact hb.rows _ _ _ _ hr
 ·intro r1 g1 p1 fg r2 g2 p2 bD iZ cX b q1 q2 e1 e2 e3 e4 e5 e6;obtain⟨x1,y1,-⟩:=hold e1;obtain⟨x2,y2,-⟩:=hold e2;exact hb.sep _ _ _ _ _ _ _ _ _ _ _ _ _ y1 y2 e3 e4 e5 e6
 ·intro r2 g2 p2 row pl b q e1 e2 e3 k dD;obtain⟨x1,y1,y2⟩:=hold e1;rcases y2 with rfl|y2
  ·exact hb.et _ _ _ _ _ _ _ y1 e2 e3 k dD
  exact hb.et _ _ _ _ _ _ _ y1 e2 e3 k (.inl y2)
 intro r2 g2 p2 row pl b q e1 e2 e3;obtain⟨x1,y1,-⟩:=hold e1;exact hb.own _ _ _ _ _ _ _ y1 e2 e3
theorem mU {c:AV}:Wk c c:=.inl rfl
theorem mV {sz:Nat}:Wk (.ro sz []) .aG:=.inr ⟨rfl,sz,rfl⟩
end Go.Proofs.YtobpfkgabdeefaaGreat.E
