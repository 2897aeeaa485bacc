/- An evaluator of the model's code, proved sound (E3): I J U K L R. -/
import Derived.Test.YtobpfkgabdeefaaGreatQ1
import Derived.ChangeArms
import Derived.SizedLaws
import Derived.ProofKit
import Derived.OpenShut
namespace Go.Proofs.YtobpfkgabdeefaaGreat.E
section
open Go Go.RowKit
set_option linter.unusedVariables false
def Norm (Q:Exit->St->Prop) (s:St):Prop:=Q .normal s
theorem aih {Q:Exit->St->Prop}{n:Nat}{tm:List (Nat × AV)}{σ:ak}{G:Nat}:Norm Q ⟨n,tm,σ,G⟩=Q .normal ⟨n,tm,σ,G⟩:=rfl
theorem Yv {len:Nat}{es:List (List AV)}(h:es.length=len):sub 0 len es=es:=by unfold sub;rw[List.drop_zero,<-h,List.take_length]
theorem Gh {α:Type}{a b:Nat}{x:Option α}(h:a<=b):od a b x=x:=by unfold od;rw[Nat.ble_eq_true_of_le h]
end
section
open Go Go.RowKit
set_option linter.unusedVariables false
structure SO where
 d:Option Nat
 o:Op
 g:Option (Nat × Bool)
inductive SC (α:Type) where
 | skip
 | ret
 | exit (id:Nat)
 | seq (a b:SC α)
 | sq (ks:List Nat) (a b:SC α)
 | ct (a b:SC α)
 | cond (c:Operand) (x y:SC α)
 | block (id:Nat) (c:SC α)
 | loop (c:SC α)
 | lp (ks:List Nat) (c:SC α)
 | mJ (l:List α)
 | dr (t:DT) (dS:List (List Nat)) (l:List α) (af:List (List Nat))
 | qZ (id:Nat) (l:List α) (it ty:Nat) (x:Operand) (tn tb:Nat) (b:SC α)
 | bad
def so (ops:Array Oper) (o:Oper):SO:=match o.guard with
 | none=>⟨o.dst,o.op,none⟩
 | some (j,want)=>match nr ops j with
  | some t=>⟨o.dst,o.op,some (t,want)⟩
  | none=>⟨o.dst,.panic (.const (.bool true)),none⟩
def ka (ops:Array Oper):List Oper->List SO
 | []=>[]
 | o::os=>so ops o::ka ops os
def strip:Code->SC SO
 | .skip=>.skip
 | .ret=>.ret
 | .exit id=>.exit id
 | .seq a b=>.seq (strip a) (strip b)
 | .cond c x y=>.cond c (strip x) (strip y)
 | .block id c=>.block id (strip c)
 | .loop c=>.loop (strip c)
 | .region _ ops false=>.mJ (ka ops ops.toList)
 | .region _ ops true=>.dr .nil [] (ka ops ops.toList) (ops.toList.map wM)
 | _=>.bad
def uX (P:Program) (o:SO) (s:St) (K:St->Prop):Prop:=∃v σ' b,Xc P (o.d.getD 0) o.o (ev s) s.σ s.G v σ' b/\put s o.d v σ' b K
def sG (s:St) (d:Option Nat) (t:Nat) (w:Bool) (X:Prop) (K:St->Prop):Prop:=match bE s.tm t with
 | some (.sc (.bool b))=>Br b (Br w X (put s d (.aZ []) s.σ false K)) (Br w (put s d (.aZ []) s.σ false K) X)
 | some (.aZ [])=>put s d (.aZ []) s.σ false K
 | _=>False
def qh (P:Program) (o:SO) (s:St) (K:St->Prop):Prop:=
 match o.g with
 | none=>uX P o s K
 | some (t,w)=>sG s o.d t w (uX P o s K) K
def uW (P:Program):List SO->St->(St->Prop)->Prop
 | [],s,Q=>Q s
 | o::os,s,Q=>qh P o s fun s'=>uW P os s' Q
def OH:Operand->Option Nat
 | .tmp t=>some t
 | _=>none
def tX (o:SO):List Nat:=(o.o.operands.toList.filterMap OH)++(match o.g with
 | some (t,_)=>[t]
 | none=>[])
def q6 (o:SO):Bool:=match o.o with
 | .panic _=>false
 | _=>true
def Np (x y:SO):Bool:=q6 x&&q6 y&&
 (match x.d with
  | some d=>!(tX y).contains d&&y.d != some d
  | none=>true)&&
 (match y.d with
  | some d=>!(tX x).contains d
  | none=>true)
def sV (P:Program) (σ:ak) (e:Operand->AV) (o:SO):Option AV:=match o.g with
 | none=>kX P σ e o.o
 | some (t,w)=>match e (.tmp t) with
  | .sc (.bool b)=>match b==w with
   | true=>kX P σ e o.o
   | false=>some (.aZ [])
  | .aZ []=>some (.aZ [])
  | _=>none
def wY (P:Program) (o:SO) (s:St) (K:St->Prop):Prop:=dj (sV P s.σ (ev s) o) fun v=>put s o.d v s.σ false K
def Pp (P:Program) (l:List SO) (rc:List Nat) (s:St) (σ':ak):Prop:=∀k∈rc,∀x,l[k]?=some x->sV P σ' (ev s) x=sV P s.σ (ev s) x
def sT (P:Program) (l:List SO):DT->St->(St->Prop)->Prop
 | .nil,s,K=>K s
 | .pu i t,s,K=>match l[i]? with
  | none=>False
  | some o=>iO o.o=true/\wY P o s fun s'=>sT P l t s' K
 | .ef i rc t,s,K=>match l[i]? with
  | none=>False
  | some o=>qh P o s fun s'=>Pp P l rc s s'.σ/\sT P l t s' K
 | .or a b,s,K=>sT P l a s K/\sT P l b s K
def Jp (l:List SO) (dS:List (List Nat)) (i:Nat) (t:DT):Bool:=match l[i]? with
 | none=>false
 | some x=>q6 x&&(match x.d with
   | some d=>!(tX x).contains d
   | none=>true)&&
  (cL t).all (fun j=>match l[j]? with
   | some o=>q6 o&&(match o.d with
    | some d=>!(tX x).contains d||(cL t).all fun m=>m==j||(dS.getD j []).contains m
    | none=>true)
   | none=>false)&&
  ((cL t).all fun m=>!(dS.getD i []).contains m)&&
  (kB t).all (fun n=>(dS.getD n.1 []).contains i||(match l[n.1]? with
   | some o=>Np x o&&(Db x.o||(match n.2 with
    | none=>true
    | some rc=>rc.contains i))
   | none=>false))
def pB (l:List SO) (dS:List (List Nat)):Bool->DT->Bool
 | _,.nil=>true
 | false,.pu i t=>!(cL t).contains i&&(Jp l dS i t&&pB l dS false t)
 | true,.pu _ _=>false
 | false,.ef i rc t=>!(cL t).contains i&&((cL t).all (fun j=>(dS.getD j []).contains i)&&pB l dS false t)
 | true,.ef i rc t=>!(cL t).contains i&&pB l dS false t
 | f,.or a b=>pB l dS true a&&(pB l dS true b&&((((cL a).all fun i=>(cL b).contains i)&&((cL b).all fun i=>(cL a).contains i))&&(Nat.beq (cL a).length (cL b).length&&
   (f||(cL a).all fun j=>(lj a++lj b).any fun h=>h==j||(dS.getD j []).contains h))))
def Mo (t:DT) (dS:List (List Nat)) (l:List SO) (af:List (List Nat)):Bool:=
 (List.range af.length).all (fun i=>(af.getD i []).all fun k=>Nat.blt k i)&&
 ((List.range dS.length).all (fun i=>(dS.getD i []).all fun k=>(af.getD i []).any fun j=>j==k||(dS.getD j []).contains k)&&
 (l.all q6&&pB l dS false t&&((List.range l.length).all (fun i=>(cL t).contains i)&&((cL t).all (fun i=>Nat.blt i l.length)&&Nat.ble (cL t).length l.length))))
def sv (P:Program):SC SO->St->(Exit->St->Prop)->Prop
 | .skip,s,Q=>Q .normal s
 | .ret,s,Q=>Q .ret s
 | .exit id,s,Q=>Q (.exit id) s
 | .seq a b,s,Q=>sv P a s (gl Q fun s'=>∃eO,aB s' eO/\sv P b eO Q)\/∀c:Code,strip c=.seq a b->AM P c s Q
 | .sq _ a b,s,Q=>sv P a s (gl Q fun s'=>∃eO,aB s' eO/\sv P b eO Q)
 | .ct a b,s,Q=>sv P a s (gl Q fun s'=>∃eO,aB s' eO/\sv P b eO Q)
 | .cond c x y,s,Q=>match ev s c with
  | .sc (.bool b)=>Br b (sv P x s Q) (sv P y s Q)
  | _=>False
 | .block id c,s,Q=>sv P c s (jK id Q)
 | .loop c,s,Q=>∃(I:Nat->St->Prop) (n:Nat) (s1:St),aB s s1/\I n s1/\∀m s2,I m s2->sv P c s2 (gl Q fun s3=>∃m' s4,m'<m/\aB s3 s4/\I m' s4)
 | .lp _ c,s,Q=>∃(I:Nat->St->Prop) (n:Nat) (s1:St),aB s s1/\I n s1/\∀m s2,I m s2->sv P c s2 (gl Q fun s3=>∃m' s4,m'<m/\aB s3 s4/\I m' s4)
 | .mJ l,s,Q=>uW P l s fun s'=>Q .normal s'
 | .dr _ _ l af,s,Q=>P.follows .mixedOrders=true/\∃(t:DT) (dS:List (List Nat)),Mo t dS l af=true/\sT P l t s (Q .normal)
 | .qZ ..,_,_=>False
 | .bad,_,_=>False
section
variable {P:Program}
theorem AM.mono {c:Code}{s:St}{Q Q':Exit->St->Prop}(h:∀e s,Q e s->Q' e s) (hg:AM P c s Q):AM P c s Q':=
 fun rd O w0 a w hr=>wp_mono (hg rd O w0 a w hr) fun e a' w' ⟨s',hq,fZ⟩=>⟨s',h _ _ hq,fZ⟩
theorem Pw {o:SO}{s:St}{K K':St->Prop}(h:∀s,K s->K' s) (hk:uX P o s K):uX P o s K':=by
 obtain⟨v,σ',b,h1,h2⟩:=hk;exact⟨v,σ',b,h1,ke h h2⟩
theorem Y9 {s:St}{d:Option Nat}{t:Nat}{w:Bool}{X X':Prop}{K K':St->Prop}(hX:X->X') (h:∀s,K s->K' s) (hk:sG s d t w X K):sG s d t w X' K':=by
 unfold sG at hk ⊢;split at hk
 ·rename_i b hb;cases b<;>cases w<;>simp only[uG,uH]at hk ⊢<;>first|exact hX hk|exact ke h hk
 ·exact ke h hk
 cases hk
theorem tM {o:SO}{s:St}{K K':St->Prop}(h:∀s,K s->K' s) (hk:qh P o s K):qh P o s K':=by
 unfold qh at hk ⊢;split at hk
 ·exact Pw h hk
 exact Y9 (Pw h) h hk
theorem I7 {os:List SO}:∀{s:St}{K K':St->Prop},(∀s,K s->K' s)->uW P os s K->uW P os s K':=by
 induction os with
 | nil=>exact fun h hk=>h _ hk
 | cons o os ih=>exact fun h hk=>tM (fun s' hs=>ih h hs) hk
theorem ER {o:SO}{s:St}{K K':St->Prop}(h:∀s,K s->K' s) (hk:wY P o s K):wY P o s K':=by
 obtain⟨v,h1,h2⟩:=gp hk;exact l7 h1 (ke h h2)
theorem wX {l:List SO}:∀{t:DT}{s:St}{K K':St->Prop},(∀s,K s->K' s)->sT P l t s K->sT P l t s K'
 | .nil,s,K,K',h,hk=>h _ hk
 | .pu i t,s,K,K',h,hk=>by
  unfold sT at hk ⊢;split at hk
  ·cases hk
  exact⟨hk.1,ER (fun s' hs=>wX h hs) hk.2⟩
 | .ef i rc t,s,K,K',h,hk=>by
  unfold sT at hk ⊢;split at hk
  ·cases hk
  exact tM (fun s' hs=>⟨hs.1,wX h hs.2⟩) hk
 | .or a b,s,K,K',h,hk=>⟨wX h hk.1,wX h hk.2⟩
theorem O3 {ops:Array Oper}{o:Oper}(hg:o.guard=none):so ops o=⟨o.dst,o.op,none⟩:=by simp[so,hg]
theorem O2 {ops:Array Oper}{o:Oper}{j:Nat}{w:Bool}{t:Nat}(hg:o.guard=some (j,w)) (hs:nr ops j=some t):so ops o=⟨o.dst,o.op,some (t,w)⟩:=by simp[so,hg,hs]
theorem O4 {ops:Array Oper}{o:Oper}{j:Nat}{w:Bool}(hg:o.guard=some (j,w)) (hs:nr ops j=none):so ops o=⟨o.dst,.panic (.const (.bool true)),none⟩:=by simp[so,hg,hs]
theorem Pr {ops:Array Oper}{o:Oper}{s:St}{K:St->Prop}(hk:qh P (so ops o) s K):kT P ops o s K:=by
 unfold kT;cases hg:o.guard with
 | none=>
  rw[O3 hg]at hk;exact hk
 | some jw=>
  obtain⟨j,want⟩:=jw;simp only;cases hs:nr ops j with
  | none=>
   rw[O4 hg hs]at hk;obtain⟨v,σ',b,h1,h2⟩:=hk;rcases h1 with ⟨h,_⟩|⟨h,_⟩|⟨_,c,n,h,_⟩|⟨h,_⟩|⟨_,c,n,x,h,_⟩|⟨_,t,h,_⟩|⟨_,t,x,k,ok,K,E,r,g,p,f,C,res,zv,h,_⟩|⟨_,t,m,k,x,K,E,r,g,p,f,C,ck,cx,h,_⟩
   all_goals cases h
  | some t=>
   rw[O2 hg hs]at hk;exact hk
theorem I6 {ops:Array Oper}:∀{os:List Oper}{s:St}{K K':St->Prop},(∀s,K s->K' s)->uW P (ka ops os) s K->yU P ops os s K'
 | [],s,K,K',h,hk=>h _ hk
 | o::os,s,K,K',h,hk=>yS (fun s' hs=>I6 h hs) (Pr hk)
theorem O6 {ops:Array Oper}:∀(os:List Oper) (i:Nat),(ka ops os)[i]?=(os[i]?).map (so ops)
 | [],i=>by simp[ka]
 | o::os,0=>rfl
 | o::os,i+1=>by simpa[ka]using O6 os i
theorem O5 {ops:Array Oper}:∀(os:List Oper),(ka ops os).length=os.length
 | []=>rfl
 | o::os=>by simp[ka,O5 os]
theorem RK {op:Op}{t:Nat}(h:t∈op.operands.toList.filterMap fun|.tmp t=>some t|_=>none):t∈op.operands.toList.filterMap OH:=by
 obtain⟨a,h1,h2⟩:=List.mem_filterMap.1 h;refine List.mem_filterMap.2 ⟨a,h1,?_⟩;cases a with
 | tmp u=>exact h2
 | _=>cases h2
theorem Bf {ops:Array Oper}{o:Oper}(h:q6 (so ops o)=true):(so ops o).o=o.op/\(so ops o).d=o.dst/\∀t∈o.looksAt ops,t∈tX (so ops o):=by
 unfold so at h ⊢;cases hg:o.guard with
 | none=>exact ⟨rfl,rfl,fun t ht=>by
   rcases List.mem_append.1 ht with ht|ht
   ·exact List.mem_append_left _ (RK ht)
   simp[hg]at ht⟩
 | some jw=>
  obtain⟨j,want⟩:=jw;rw[hg]at h;simp only at h ⊢;cases hs:nr ops j with
  | none=>rw[hs]at h;cases h
  | some t'=>
   refine⟨rfl,rfl,fun t ht=>?_⟩;have ua:(ops[j]?).bind (·.dst)=some t':=by
    unfold nr at hs;split at hs
    ·rename_i hx;rw[hx];exact hs
    cases hs
   rcases List.mem_append.1 ht with ht|ht
   ·exact List.mem_append_left _ (RK ht)
   simp[hg,ua]at ht;exact List.mem_append_right _ (by simp[ht])
theorem YQ {ops:Array Oper}{x y:Oper}(h:Np (so ops x) (so ops y)=true):x.apart ops y=true:=by
 unfold Np at h;simp only[Bool.and_eq_true]at h;obtain⟨⟨⟨h1,h2⟩,h3⟩,h4⟩:=h;obtain⟨a1,a2,a3⟩:=Bf h1;obtain⟨b1,b2,b3⟩:=Bf h2;unfold Oper.apart;rw[a2,b2]at h3;rw[b2]at h4;simp only[Bool.and_eq_true];constructor
 ·cases hd:x.dst with
  | none=>rfl
  | some d=>
   rw[hd]at h3;simp only[Bool.and_eq_true,Bool.not_eq_true']at h3 ⊢;refine⟨?_,h3.2⟩;cases hc:(y.looksAt ops).contains d with
   | false=>rfl
   | true=>
    have:=b3 d (by simpa using hc);have h5:(tX (so ops y)).contains d=true:=by simpa using this
    rw[h5]at h3;exact absurd h3.1 (by simp)
 cases hd:y.dst with
 | none=>rfl
 | some d=>
  rw[hd]at h4;simp only[Bool.not_eq_true']at h4 ⊢;cases hc:(x.looksAt ops).contains d with
  | false=>rfl
  | true=>
   have:=a3 d (by simpa using hc);have h5:(tX (so ops x)).contains d=true:=by simpa using this
   rw[h5]at h4;cases h4
theorem aao {o:SO}(h:iO o.o=true):q6 o=true:=by
 unfold q6;split
 ·rename_i he;rw[he]at h;cases h
 rfl
theorem I4 {ops:Array Oper}{o:Oper}{σ:ak}{e:Operand->AV}(hr:q6 (so ops o)=true):sV P σ e (so ops o)=pv P ops σ e o:=by
 unfold pv;cases hg:o.guard with
 | none=>rw[O3 hg];rfl
 | some jw=>
  obtain⟨j,want⟩:=jw;simp only;cases hs:nr ops j with
  | none=>rw[O4 hg hs]at hr;cases hr
  | some t=>rw[O2 hg hs];rfl
theorem Bi {ops:Array Oper}{l:List SO}(hl:∀i:Nat,l[i]?=(ops[i]?).map (so ops)) (lh:∀(i:Nat) (x:SO),l[i]?=some x->q6 x=true):∀{t:DT}{s:St}{K:St->Prop},sT P l t s K->ie P ops t s K
 | .nil,s,K,hk=>hk
 | .pu i t,s,K,hk=>by
  unfold sT at hk;unfold ie;rw[hl]at hk;cases ho:ops[i]? with
  | none=>rw[ho]at hk;cases hk
  | some o=>
   rw[ho]at hk;simp only[Option.map_some]at hk ⊢;have hr:=aao hk.1;obtain⟨e1,e2,_⟩:=Bf hr;refine⟨e1▸hk.1,?_⟩;obtain⟨v,h1,h2⟩:=gp hk.2;rw[I4 hr]at h1;rw[e2]at h2;exact l7 h1 (ke (fun s' hs=>Bi hl lh hs) h2)
 | .ef i rc t,s,K,hk=>by
  unfold sT at hk;unfold ie;rw[hl]at hk;cases ho:ops[i]? with
  | none=>rw[ho]at hk;cases hk
  | some o=>
   rw[ho]at hk;simp only[Option.map_some]at hk ⊢;refine Pr (tM (fun s' hs=>⟨fun k nH x hx=>?_,Bi hl lh hs.2⟩) hk);have dX:l[k]?=some (so ops x):=by rw[hl,hx];rfl
   have:=hs.1 k nH _ dX
   rwa[I4 (lh k _ dX),I4 (lh k _ dX)]at this
 | .or a b,s,K,hk=>⟨Bi hl lh hk.1,Bi hl lh hk.2⟩
theorem aaq {ops:Array Oper}{l:List SO}(hl:∀i:Nat,l[i]?=(ops[i]?).map (so ops)) {dS:List (List Nat)}{i:Nat}{t:DT}(h:Jp l dS i t=true):WX ops (fun i=>dS.getD i []) i t:=by
 unfold Jp at h;rw[hl]at h;cases hx:ops[i]? with
 | none=>rw[hx]at h;cases h
 | some x=>
  rw[hx]at h;simp only[Option.map_some,Bool.and_eq_true,List.all_eq_true,Bool.or_eq_true]at h;obtain⟨⟨⟨⟨hr,Cl⟩,adf⟩,acW⟩,ac4⟩:=h;obtain⟨e1,e2,e3⟩:=Bf hr;have QX:∀{d:Nat},(!(tX (so ops x)).contains d)=true->d ∉ x.looksAt ops:=by
   intro d hd cq;have:(tX (so ops x)).contains d=true:=by simpa using e3 d cq
   rw[this]at hd;cases hd
  refine⟨⟨x,hx⟩,fun y hy d hd=>?_,fun y hy j hj o ho d hd=>?_,fun m hm cq=>?_,fun y hy n hn o ho=>?_⟩
  ·rw[hx]at hy;cases hy;rw[e2,hd]at Cl;exact QX Cl
  ·rw[hx]at hy;cases hy;have h1:=adf j hj;rw[hl,ho]at h1;simp only[Option.map_some,Bool.and_eq_true]at h1;obtain⟨f1,f2,f3⟩:=Bf h1.1;have h2:=h1.2;rw[f2,hd]at h2;simp only[Bool.or_eq_true,List.all_eq_true,beq_iff_eq]at h2;rcases h2 with h2|h2
   ·exact .inl (QX h2)
   exact .inr fun m hm=>(h2 m hm).imp id fun e=>by simpa using e
  ·have h1:=acW m hm;have:(dS.getD i []).contains m=true:=by simpa using cq
   rw[this]at h1;cases h1
  rw[hx]at hy;cases hy;rcases ac4 n hn with h1|h1
  ·exact .inl (by simpa using h1)
  right;rw[hl,ho]at h1;simp only[Option.map_some,Bool.and_eq_true,Bool.or_eq_true]at h1;refine⟨YQ h1.1,?_⟩;rcases h1.2 with h2|h2
  ·exact .inl (e1▸h2)
  cases hk:n.2 with
  | none=>exact .inr (.inl rfl)
  | some rc=>rw[hk]at h2;exact .inr (.inr ⟨rc,rfl,by simpa using h2⟩)
theorem zo {ops:Array Oper}{l:List SO}(hl:∀i:Nat,l[i]?=(ops[i]?).map (so ops)) {dS:List (List Nat)}:∀{t:DT}{f:Bool},pB l dS f t=true->mL ops (fun i=>dS.getD i []) f t
 | .nil,_,_=>by unfold mL;trivial
 | .pu i t,false,h=>by
  simp only[pB,Bool.and_eq_true,Bool.not_eq_true']at h
  exact ⟨fun cq=>by have:(cL t).contains i=true:=by simpa using cq
                    rw[this]at h;exact absurd h.1 (by simp),aaq hl h.2.1,zo hl h.2.2⟩
 | .pu i t,true,h=>by cases h
 | .ef i rc t,false,h=>by
  simp only[pB,Bool.and_eq_true,Bool.not_eq_true',List.all_eq_true]at h
  exact ⟨fun cq=>by have:(cL t).contains i=true:=by simpa using cq
                    rw[this]at h;exact absurd h.1 (by simp),fun j hj=>by simpa using h.2.1 j hj,zo hl h.2.2⟩
 | .ef i rc t,true,h=>by
  simp only[pB,Bool.and_eq_true,Bool.not_eq_true']at h
  exact ⟨fun cq=>by have:(cL t).contains i=true:=by simpa using cq
                    rw[this]at h;exact absurd h.1 (by simp),zo hl h.2⟩
 | .or a b,f,h=>by
  have h':pB l dS true a=true/\pB l dS true b=true/\(((cL a).all fun i=>(cL b).contains i)=true/\((cL b).all fun i=>(cL a).contains i)=true)/\Nat.beq (cL a).length (cL b).length=true/\
    (f=true\/((cL a).all fun j=>(lj a++lj b).any fun h=>h==j||(dS.getD j []).contains h)=true):=by
   cases f<;>simp only[pB,Bool.and_eq_true,Bool.or_eq_true]at h<;>first|exact h|exact⟨h.1,h.2.1,h.2.2.1,h.2.2.2.1,.inl rfl⟩
  obtain⟨h1,h2,⟨h3,h4⟩,h5,h6⟩:=h';simp only[List.all_eq_true]at h3 h4;have key:mL ops (fun i=>dS.getD i []) true a/\mL ops (fun i=>dS.getD i []) true b/\((∀i,i∈cL a<->i∈cL b)/\(cL a).length=(cL b).length)/\(f=false->∀j∈cL a,∃h,(h∈lj a\/h∈lj b)/\(h=j\/h∈dS.getD j [])):=by
   refine⟨zo hl h1,zo hl h2,⟨fun i=>⟨fun hi=>by simpa using h3 i hi,fun hi=>by simpa using h4 i hi⟩,Nat.eq_of_beq_eq_true h5⟩,fun hf j hj=>?_⟩;rcases h6 with h6|h6
   ·rw[hf]at h6;cases h6
   simp only[List.all_eq_true,List.any_eq_true,List.mem_append,Bool.or_eq_true,beq_iff_eq]at h6;obtain⟨h,hh,iV⟩:=h6 j hj;exact⟨h,hh,iV.imp id fun e=>by simpa using e⟩
  cases f<;>exact key
theorem qY:∀(c:Code) {s:St}{Q Q':Exit->St->Prop},(∀e s,Q e s->Q' e s)->sv P (strip c) s Q->vc P c s Q'
 | .skip,s,Q,Q',h,hk=>h _ _ hk
 | .ret,s,Q,Q',h,hk=>h _ _ hk
 | .exit id,s,Q,Q',h,hk=>h _ _ hk
 | .seq a b,s,Q,Q',h,hk=>by
  rcases hk with hk|hk
  case inr=>exact .inr ((hk _ rfl).mono h)
  exact .inl (qY a (fun e s hs=>by
   cases e with
   | normal=>
    obtain⟨eO,hw,hs⟩:=hs;exact⟨eO,hw,qY b h hs⟩
   | _=>exact h _ _ hs) hk)
 | .cond c x y,s,Q,Q',h,hk=>by
  simp only[strip,sv]at hk;simp only[vc];split at hk
  ·rename_i b hb;rw[hb];cases b with
   | true=>exact qY x h hk
   | false=>exact qY y h hk
  cases hk
 | .block id c,s,Q,Q',h,hk=>qY c (fun e s hs=>by
   cases e with
   | exit kq=>
    simp only[jK]at hs ⊢;split at hs
    ·rename_i hh;exact h _ _ hs
    rename_i hh;exact h _ _ hs
   | _=>exact h _ _ hs) hk
 | .loop c,s,Q,Q',h,hk=>by
  obtain⟨I,n,s1,h1,h2,h3⟩:=hk;exact⟨I,n,s1,h1,h2,fun m s2 hI=>qY c (fun e s hs=>by
   cases e with
   | normal=>exact hs
   | _=>exact h _ _ hs) (h3 m s2 hI)⟩
 | .region _ ops draw,s,Q,Q',h,hk=>by
  cases draw with
  | false=>exact I6 (fun s hs=>h _ _ hs) hk
  | true=>
   obtain⟨hm,t,dS,hc,h5⟩:=hk;have dY:(ka ops ops.toList).length=ops.size:=by rw[O5];simp
   have hl:∀i:Nat,(ka ops ops.toList)[i]?=(ops[i]?).map (so ops):=by intro i;rw[O6];simp
   simp only[Mo,Bool.and_eq_true,List.all_eq_true,List.mem_range,List.any_eq_true,Bool.or_eq_true,beq_iff_eq]at hc;obtain⟨h1,h2,⟨h0,h3⟩,h4,h6,h7⟩:=hc;have nI:∀i:Nat,(ops.toList.map wM).getD i []=match ops[i]? with|some o=>wM o|none=>[]:=by
    intro i;rw[List.getD_eq_getElem?_getD,List.getElem?_map];have:ops.toList[i]?=ops[i]?:=by simp
    rw[this];cases ops[i]?<;>rfl
   refine⟨hm,t,fun i=>dS.getD i [],⟨fun i o k ho hw=>?_,fun i k hk=>?_⟩,zo hl h3,fun i=>⟨fun hi=>?_,fun hi=>?_⟩,by rw[<-dY];exact Nat.le_of_ble_eq_true h7,tI (fun s hs=>h _ _ hs) (Bi hl (fun i x hx=>h0 x (dk hx)) h5)⟩
   ·have ab:i<(ops.toList.map wM).length:=by simpa using (Array.getElem?_eq_some_iff.1 ho).1
    have:=h1 i ab k (by rw[nI,ho];exact Og.2 hw);exact Nat.le_of_ble_eq_true this
   ·have ab:i<dS.length:=by
     rcases bp i dS.length with hx|hx
     ·exact hx
     simp[List.getD_eq_getElem?_getD,List.getElem?_eq_none hx]at hk
    obtain⟨j,hj,e⟩:=h2 i ab k hk;rw[nI]at hj;cases ho:ops[i]? with
    | none=>rw[ho]at hj;simp at hj
    | some o=>rw[ho]at hj;exact⟨o,j,rfl,Og.1 hj,e.imp id fun e=>by simpa using e⟩
   ·have:=Nat.le_of_ble_eq_true (h6 i hi);rw[dY]at this;exact this
   have:=h4 i (by rw[dY];exact hi)
   simpa using this
 | .rangeFunc ..,s,Q,Q',h,hk=>by cases hk
 | .scope _,s,Q,Q',h,hk=>by cases hk
 | .label _,s,Q,Q',h,hk=>by cases hk
 | .goto _,s,Q,Q',h,hk=>by cases hk
 | .refuse _,s,Q,Q',h,hk=>by cases hk
end
inductive I where
 | mv (d:Nat) (x:Operand)
 | as (d:Nat) (x:Operand)
 | pk (d:Nat) (c a b:Operand)
 | al (d t:Nat)
 | bx (d t:Nat) (x:Operand)
 | ld (d t:Nat) (x:Operand)
 | st (t:Nat) (a x:Operand)
 | fa (d t:Nat) (x:Operand) (f:Nat)
 | ex (d:Nat) (x:Operand) (i:Nat)
 | nc (d:Nat) (x:Operand)
 | bn (d:Nat) (op:BinOp) (t:Nat) (x y:Operand) (u:Nat)
 | un (d:Nat) (op:UnOp) (t:Nat) (x:Operand)
 | cv (d s t:Nat) (x:Operand)
 | ln (d t:Nat) (x:Operand)
 | mn (d:Nat) (x y:Operand) (ts:List Nat)
 | mx (d:Nat) (x y:Operand) (ts:List Nat)
 | ia (d t:Nat) (x y:Operand)
 | ix (d t:Nat) (x y:Operand)
 | fd (d t:Nat) (x:Operand) (f:Nat)
 | sl (d t:Nat) (x:Operand) (lo hi mx:Option Operand)
 | bd (d t:Nat) (ps:List (Nat × Operand))
 | bo (d t n:Nat) (ps:List (Nat × Operand))
 | bs (d t n:Nat) (ps:List (Nat × Operand))
 | ms (d t:Nat) (x y:Operand)
 | ap (d:Option Nat) (t tx:Nat) (x y:Operand)
 | cp (d:Option Nat) (t tx:Nat) (x y:Operand)
 | sb (d s t:Nat) (x:Operand)
 | ca (d:Option Nat) (f:Nat) (xs:List Operand) (ts:List Nat)
 | cl (d:Option Nat) (f:Nat) (xs:List Operand) (ts:List Nat)
 | cm (d:Option Nat) (f:Nat) (ms:List Bool) (xs:List Operand) (ts:List Nat)
 | cn (d:Option Nat) (f:Nat) (ms:List Bool) (xs:List Operand) (ts:List Nat)
 | cu (d:Option Nat) (x:Operand) (xs:List Operand) (ts:List Nat)
 | lz (d t g:Nat)
 | mf (d f:Nat) (x:Operand)
 | mk (d t:Nat)
 | lu (d t:Nat) (x k:Operand) (ok:Bool)
 | mu (t:Nat) (m k x:Operand)
 | op (d:Option Nat) (o:Op)
inductive J where
 | p (i:I)
 | g (t:Nat) (w:Bool) (i:I)
def I.so:I->SO
 | .mv d x=>⟨some d,.move x,none⟩
 | .as d x=>⟨some d,.assign x,none⟩
 | .pk d c a b=>⟨some d,.pick c a b,none⟩
 | .al d t=>⟨some d,.alloc t,none⟩
 | .bx d t x=>⟨some d,.box t x,none⟩
 | .ld d t x=>⟨some d,.load t x,none⟩
 | .st t a x=>⟨none,.store t a x,none⟩
 | .fa d t x f=>⟨some d,.fieldAddr t x f,none⟩
 | .ex d x i=>⟨some d,.extract x i,none⟩
 | .nc d x=>⟨some d,.nilCheck x,none⟩
 | .bn d b t x y u=>⟨some d,.binOp b t x y u,none⟩
 | .un d b t x=>⟨some d,.unOp b t x,none⟩
 | .cv d s t x=>⟨some d,.convert s t x,none⟩
 | .ln d t x=>⟨some d,.call {callee:=.builtin .len,args:=#[x],argTypes:=#[t]},none⟩
 | .mn d x y ts=>⟨some d,.call {callee:=.builtin .min,args:=#[x,y],argTypes:=ts.toArray},none⟩
 | .mx d x y ts=>⟨some d,.call {callee:=.builtin .max,args:=#[x,y],argTypes:=ts.toArray},none⟩
 | .ia d t x y=>⟨some d,.indexAddr t x y,none⟩
 | .ix d t x y=>⟨some d,.index t x y,none⟩
 | .fd d t x f=>⟨some d,.field t x f,none⟩
 | .sl d t x lo hi m=>⟨some d,.slice t x lo hi m,none⟩
 | .bd d t ps=>⟨some d,.build t ps.toArray,none⟩
 | .bo d t n ps=>⟨some d,.buildSlice t n ps.toArray,none⟩
 | .bs d t n ps=>⟨some d,.buildSlice t n ps.toArray,none⟩
 | .ms d t x y=>⟨some d,.makeSlice t x y,none⟩
 | .ap d t tx x y=>⟨d,.call {callee:=.builtin .append,args:=#[x,y],argTypes:=#[t,tx]},none⟩
 | .cp d t tx x y=>⟨d,.call {callee:=.builtin .copy,args:=#[x,y],argTypes:=#[t,tx]},none⟩
 | .sb d s t x=>⟨some d,.convert s t x,none⟩
 | .ca d f xs ts=>⟨d,.call {callee:=.value (.func f),args:=xs.toArray,argTypes:=ts.toArray},none⟩
 | .cl d f xs ts=>⟨d,.call {callee:=.value (.func f),args:=xs.toArray,argTypes:=ts.toArray},none⟩
 | .cm d f _ xs ts=>⟨d,.call {callee:=.value (.func f),args:=xs.toArray,argTypes:=ts.toArray},none⟩
 | .cn d f _ xs ts=>⟨d,.call {callee:=.value (.func f),args:=xs.toArray,argTypes:=ts.toArray},none⟩
 | .cu d x xs ts=>⟨d,.call {callee:=.value x,args:=xs.toArray,argTypes:=ts.toArray},none⟩
 | .lz d t g=>⟨some d,.load t (.global g),none⟩
 | .mf d f x=>⟨some d,.makeFunc (.func f) #[x] #[],none⟩
 | .mk d t=>⟨some d,.makeMap t none,none⟩
 | .lu d t x k ok=>⟨some d,.lookup t x k ok,none⟩
 | .mu t m k x=>⟨none,.mapUpdate t m k x,none⟩
 | .op d o=>⟨d,o,none⟩
def qg:List J->List SO
 | []=>[]
 | .p i::l=>⟨i.so.d,i.so.o,none⟩::qg l
 | .g t w i::l=>⟨i.so.d,i.so.o,some (t,w)⟩::qg l
def fx:SC J->SC SO
 | .skip=>.skip
 | .ret=>.ret
 | .exit id=>.exit id
 | .seq a b=>.seq (fx a) (fx b)
 | .sq _ a b=>.seq (fx a) (fx b)
 | .ct a b=>.seq (fx a) (fx b)
 | .cond c x y=>.cond c (fx x) (fx y)
 | .block id c=>.block id (fx c)
 | .loop c=>.loop (fx c)
 | .lp _ c=>.loop (fx c)
 | .mJ l=>.mJ (qg l)
 | .dr _ _ l af=>.dr .nil [] (qg l) af
 | .qZ id l it ty x tn tb b=>.seq (.mJ (qg l++[⟨some it,.range ty x,none⟩])) (.block id (.loop (.seq (.mJ [⟨some tn,.next (.tmp it) true,none⟩,⟨some tb,.extract (.tmp tn) 0,none⟩]) (.seq (.cond (.tmp tb) .skip (.exit id)) (fx b)))))
 | .bad=>.bad
def cI (tm:List (Nat × AV)):Operand->AV
 | .tmp t=>match bE tm t with
  | some v=>v
  | none=>.dead
 | .const v=>wu v
 | .func f=>.sc (.func (.func f) #[] #[])
 | .global _=>.dead
def m9 (tm:List (Nat × AV)):List Operand->List AV
 | []=>[]
 | x::l=>cI tm x::m9 tm l
def fI:List (Nat × AV)->Nat->AV
 | [],_=>.dead
 | (k,v)::l,n=>match k==n with
  | true=>v
  | false=>fI l n
def yl (tm:List (Nat × AV)):List (Nat × Operand)->List (Nat × AV)
 | []=>[]
 | x::l=>(x.1,cI tm x.2)::yl tm l
def tP (n d:Nat) (tm:List (Nat × AV)) (G:Nat) (K:St->Prop) (x:AV × ak):Prop:=Br (Nat.blt d n) (K ⟨n,(d,x.1)::tm,x.2,G+1⟩) False
def jl (n d:Nat) (tm:List (Nat × AV)) (σ:ak) (G:Nat) (K:St->Prop) (v:AV):Prop:=Br (Nat.blt d n) (K ⟨n,(d,v)::tm,σ,G⟩) False
def Fg (n:Nat) (tm:List (Nat × AV)) (G:Nat) (K:St->Prop) (σ:ak):Prop:=K ⟨n,tm,σ,G⟩
def oJ (n:Nat) (tm:List (Nat × AV)) (G:Nat) (K:St->Prop):Option Nat->AV × ak->Prop
 | none,x=>K ⟨n,tm,x.2,G+1⟩
 | some d,x=>Br (Nat.blt d n) (K ⟨n,(d,x.1)::tm,x.2,G+1⟩) False
def Iu (P:Program) (n:Nat) (d:Option Nat) (tm:List (Nat × AV)) (σ:ak) (G f:Nat) (K:St->Prop) (x:ak × List AV):Prop:=aq P f x.2 (Eb ⟨n,tm,σ,G⟩ d K x.1)
def NN (Z:Nat->Nat->List Nat->d9->Row->Prop) (r g:Nat) (p:List Nat) (f:d9):Option Row->Prop
 | some row=>Z r g p f row
 | none=>False
def D7 (Z:Nat->Nat->List Nat->d9->Row->Prop) (r g:Nat) (p:List Nat):Option (Nat × d9)->Prop
 | some (g',f)=>match Nat.beq g' g with
  | true=>NN Z r g p f (f p)
  | false=>False
 | none=>False
def tw (σ:ak) (Z:Nat->Nat->List Nat->d9->Row->Prop):AV->Prop
 | .mr r g p=>D7 Z r g p (bE σ r)
 | _=>False
def Ig (P:Program) (t:Nat) (k:AV) (ok:Bool) (K:AV->Prop) (row:Row):Prop:=∃C res K0 E zv,row=ig C/\tU P t=some (K0,E)/\Ef P E=some zv/\sL P K0 k=true/\o9 P K0 k C=some res/\K (B5 zv ok res)
def NM (P:Program) (t:Nat) (k x:AV) (σ:ak) (K:ak->Prop) (r g:Nat) (p:List Nat) (f:d9) (row:Row):Prop:=∃C K0 E ck cx,row=ig C/\tU P t=some (K0,E)/\sL P K0 k=true/\o9 P K0 k C=some none/\kN k=some ck/\kN x=some cx/\K (bT σ r (g,dF f p (ig (C++[(k,x)]))))
theorem RI {P:Program}{t:Nat}{k:AV}{ok:Bool}{K:AV->Prop}{C:MC}{res:Option AV}{K0 E:Nat}(hT:tU P t=some (K0,E)) {zv:Value}(hE:Ef P E=some zv) (hk:sL P K0 k=true) (hf:o9 P K0 k C=some res) (h:K (B5 zv ok res)):Ig P t k ok K (ig C):=⟨C,res,K0,E,zv,rfl,hT,hE,hk,hf,h⟩
theorem abg {P:Program}{t:Nat}{k x:AV}{σ:ak}{K:ak->Prop}{r g:Nat}{p:List Nat}{f:d9}{C:MC}{K0 E:Nat}{ck cx:List Nat}(hT:tU P t=some (K0,E)) (hk:sL P K0 k=true) (hf:o9 P K0 k C=some none) (h1:kN k=some ck) (h2:kN x=some cx) (h:K (bT σ r (g,dF f p (ig (C++[(k,x)]))))):NM P t k x σ K r g p f (ig C):=⟨C,K0,E,ck,cx,rfl,hT,hk,hf,h1,h2,h⟩
theorem J2 {σ:ak}{Z:Nat->Nat->List Nat->d9->Row->Prop}{v:AV}(h:tw σ Z v):∃r g p f row,v=.mr r g p/\bE σ r=some (g,f)/\f p=some row/\Z r g p f row:=by
 cases v<;>first|exact h.elim|skip
 rename_i r g p;have h:D7 Z r g p (bE σ r):=h;cases hl:bE σ r with
 | none=>rw[hl]at h;exact h.elim
 | some gf=>
  obtain⟨g',f⟩:=gf;rw[hl]at h;simp only[D7]at h;split at h
  ·rename_i hg;have hg:=Nat.eq_of_beq_eq_true hg;subst hg;cases hf:f p with
   | none=>rw[hf]at h;exact h.elim
   | some row=>rw[hf]at h;exact⟨_,_,_,f,row,rfl,hl,hf,h⟩
  cases h
theorem Rp {σ:ak}{Z Z':Nat->Nat->List Nat->d9->Row->Prop}{v:AV}(hz:∀r g p f row,Z r g p f row->Z' r g p f row) (h:tw σ Z v):tw σ Z' v:=by
 obtain⟨r,g,p,f,row,rfl,h1,h2,h3⟩:=J2 h;simp only[tw,D7,NN,h1,h2,Nat.beq_refl];exact hz _ _ _ _ _ h3
def dD (P:Program) (i:I) (s:St) (K:St->Prop):Prop:=match i with
 | .ca d f xs _=>dj (o8 s.σ (m9 s.tm xs)) (Iu P s.n d s.tm s.σ s.G f K)
 | .cl d f xs _=>EG P s d f (m9 s.tm xs) K
 | .cm d f ms xs _=>IF P s d f ms (m9 s.tm xs) K
 | .bs d t n ps=>dj (yI P d s.G s.σ t n (yl s.tm ps)) (oJ s.n s.tm s.G K (some d))
 | .ap d t tx x y=>dj (AJ P (d.getD 0) s.G s.σ t tx (cI s.tm x) (cI s.tm y)) (oJ s.n s.tm s.G K d)
 | .cp d t tx x y=>dj (AG P s.σ t tx (cI s.tm x) (cI s.tm y)) (oJ s.n s.tm s.G K d)
 | .sb d r t x=>match tk P r with
  | some .string=>dj (zc P d s.G s.σ t (cI s.tm x)) (oJ s.n s.tm s.G K (some d))
  | _=>False
 | .cn d f ms xs _=>IE P s d f ms (m9 s.tm xs) K
 | .cu d x xs _=>dj (z9 (cI s.tm x)) fun f=>EG P s d f (.agg []::m9 s.tm xs) K
 | .lz d t _=>dj (DR P t) fun v=>put s (some d) v s.σ false K
 | .mf d f x=>dj (AE f (cI s.tm x)) fun v=>put s (some d) v s.σ false K
 | .mk d t=>put s (some d) (.mr d s.G []) (bT s.σ d (s.G,one (ig []))) true K
 | .lu d t x k ok=>tw s.σ (fun r g p f row=>Ig P t (cI s.tm k) ok (fun v=>put s (some d) v s.σ false K) row) (cI s.tm x)
 | .mu t m k x=>tw s.σ (NM P t (cI s.tm k) (cI s.tm x) s.σ fun σ'=>put s none .dead σ' false K) (cI s.tm m)
 | i=>dj (kO P (i.so.d.getD 0) s.G (cI s.tm) s.σ i.so.o) (r7 s i.so.d (yD i.so.o) K)
def rn (i:I) (s:St) (K:St->Prop):Prop:=put s i.so.d (.aZ []) s.σ false K
section
variable {P:Program}{n G:Nat}{tm:List (Nat × AV)}{σ:ak}{Q:Exit->St->Prop}{K:St->Prop}{d t f i s u:Nat}{x y z:Operand}{l:List J}{w:Bool}
theorem L1:∀{tm:List (Nat × AV)}{t:Nat},cI tm (.tmp t)=fI tm t:=by
 intro tm t;induction tm with
 | nil=>rfl
 | cons x l ih=>
  obtain⟨k,v⟩:=x;simp only[cI,bE,fI]at ih ⊢;cases hk:k==t with
  | true=>rfl
  | false=>exact ih
theorem Dg:ev ⟨n,tm,σ,G⟩ x=cI tm x:=by cases x<;>rfl
theorem Hj:(ev ⟨n,tm,σ,G⟩)=cI tm:=funext fun _=>Dg
theorem mA (s:St):ev s=cI s.tm:=by obtain⟨n,tm,σ,G⟩:=s;exact Hj
theorem Rm:∀(xs:List Operand),xs.map (cI tm)=m9 tm xs
 | []=>rfl
 | x::xs=>by rw[List.map_cons,Rm xs];rfl
theorem FN:∀(xs:List (Nat × Operand)),xs.map (fun x=>(x.1,cI tm x.2))=yl tm xs
 | []=>rfl
 | x::xs=>by rw[List.map_cons,FN xs];rfl
theorem Fh {s:St}{d:Option Nat}{x:AV × ak}(h:oJ s.n s.tm s.G K d x):put s d x.1 x.2 true K:=by
 unfold put;cases d with
 | none=>exact h
 | some d=>
  simp only[oJ]at h ⊢;cases hb:Nat.blt d s.n with
  | true=>rw[hb]at h;exact h
  | false=>rw[hb]at h;exact h.elim
theorem Kw {i:I}{s:St}(h:dD P i s K):uX P ⟨i.so.d,i.so.o,none⟩ s K:=by
 have plain:dj (kO P (i.so.d.getD 0) s.G (cI s.tm) s.σ i.so.o) (r7 s i.so.d (yD i.so.o) K)->uX P ⟨i.so.d,i.so.o,none⟩ s K:=by
  intro h;obtain⟨x,h1,h2⟩:=gp h;exact⟨x.1,x.2,_,.inl ⟨by rw[mA];exact h1,rfl⟩,h2⟩
 have args:∀(xs:List Operand) (c:Call),c.args=xs.toArray->c.args.toList.map (ev s)=m9 s.tm xs:=by
  intro xs c hc;rw[hc,List.toList_toArray,mA,Rm]
 cases i with
 | ca d f xs ts=>
  obtain⟨⟨σ1,as⟩,h1,res,rf,h2,h3,h4⟩:=gp h;exact⟨nm (d.getD 0) s.G res,nP σ1 (d.getD 0) s.G rf,true,.inr (.inr (.inl ⟨rfl,{callee:=.value (.func f),args:=xs.toArray,argTypes:=ts.toArray},f,rfl,rfl,.inl ⟨σ1,as,res,rf,by rw[args xs _ rfl];exact h1,h2,h3,rfl,rfl⟩⟩)),h4⟩
 | cl d f xs ts=>
  obtain⟨⟨σ1,as⟩,h1,res,rf,h2,h3,h4⟩:=gp h;exact⟨nm (d.getD 0) s.G res,nP s.σ (d.getD 0) s.G rf,true,.inr (.inr (.inl ⟨rfl,{callee:=.value (.func f),args:=xs.toArray,argTypes:=ts.toArray},f,rfl,rfl,.inr (.inl ⟨σ1,as,res,rf,by rw[args xs _ rfl];exact h1,h2,h3,rfl,rfl⟩)⟩)),h4⟩
 | cm d f ms xs ts=>
  obtain⟨h0,h⟩:=h;obtain⟨⟨σ1,as⟩,h1,h⟩:=gp h;obtain⟨σin,h2,res,σout,h3,h4,h⟩:=gp h;obtain⟨σ2,h5,h6⟩:=gp h;exact⟨_,σ2,true,.inr (.inr (.inl ⟨rfl,{callee:=.value (.func f),args:=xs.toArray,argTypes:=ts.toArray},f,rfl,rfl,.inr (.inr (.inl ⟨ms,_,σ1,as,σin,res,σout,by rw[args xs _ rfl],h0,by rw[args xs _ rfl];exact h1,h2,h3,h4,h5,rfl⟩))⟩)),h6⟩
 | cn d f ms xs ts=>
  obtain⟨h0,h⟩:=h;obtain⟨⟨σ1,as⟩,h1,h⟩:=gp h;obtain⟨σin,h2,h2',res,σout,h3,nJ,h4,h⟩:=gp h;obtain⟨σ2,h5,h6⟩:=gp h;exact⟨_,σ2,true,.inr (.inr (.inl ⟨rfl,{callee:=.value (.func f),args:=xs.toArray,argTypes:=ts.toArray},f,rfl,rfl,.inr (.inr (.inr ⟨ms,_,σ1,as,σin,res,σout,by rw[args xs _ rfl],h0,by rw[args xs _ rfl];exact h1,h2,h2',h3,nJ,h4,h5,rfl⟩))⟩)),h6⟩
 | cu d x xs ts=>
  obtain⟨f,h0,h⟩:=gp h;obtain⟨⟨σ1,as⟩,h1,res,rf,h2,h3,h4⟩:=gp h;exact⟨nm (d.getD 0) s.G res,nP s.σ (d.getD 0) s.G rf,true,.inr (.inr (.inr (.inr (.inl ⟨rfl,{callee:=.value x,args:=xs.toArray,argTypes:=ts.toArray},f,x,rfl,rfl,by rw[mA];exact h0,⟨σ1,as,res,rf,by rw[args xs _ rfl];exact h1,h2,h3,rfl,rfl⟩⟩)))),h4⟩
 | mk d t=>exact⟨_,_,true,.inr (.inr (.inr (.inr (.inr (.inl ⟨rfl,t,rfl,rfl,rfl⟩))))),h⟩
 | lu d t x k ok=>
  obtain⟨r,g,p,f,row,h1,h2,h3,C,res,K0,E,zv,rfl,h4,h5,h6,h7,h8⟩:=J2 h;exact⟨_,_,false,.inr (.inr (.inr (.inr (.inr (.inr (.inl ⟨rfl,t,x,k,ok,K0,E,r,g,p,f,C,res,zv,rfl,h4,h5,by rw[mA];exact h1,h2,h3,by rw[mA];exact h6,by rw[mA];exact h7,rfl,rfl⟩)))))),h8⟩
 | mu t m k x=>
  obtain⟨r,g,p,f,row,h1,h2,h3,C,K0,E,ck,cx,rfl,h4,h5,h6,h7,h8,h9⟩:=J2 h;exact⟨_,_,false,.inr (.inr (.inr (.inr (.inr (.inr (.inr ⟨rfl,t,m,k,x,K0,E,r,g,p,f,C,ck,cx,rfl,h4,by rw[mA];exact h1,h2,h3,by rw[mA];exact h5,by rw[mA];exact h6,by rw[mA];exact h7,by rw[mA];exact h8,rfl,rfl⟩)))))),by rw[mA];exact h9⟩
 | lz d t g=>
  obtain⟨v,h1,h2⟩:=gp h;exact⟨v,s.σ,false,.inr (.inr (.inr (.inl ⟨h1,rfl,rfl⟩))),h2⟩
 | mf d f x=>
  obtain⟨v,h1,h2⟩:=gp h;exact⟨v,s.σ,false,.inr (.inr (.inr (.inl ⟨by rw[mA];exact h1,rfl,rfl⟩))),h2⟩
 | bs d t n ps=>
  obtain⟨x,h1,h2⟩:=gp h;exact⟨x.1,x.2,true,.inr (.inl ⟨by rw[mA];show yI P d s.G s.σ t n (ps.toArray.toList.map fun x=>(x.1,cI s.tm x.2))=_;rw[List.toList_toArray,FN];exact h1,rfl⟩),Fh h2⟩
 | ap d t tx x y=>
  obtain⟨z,h1,h2⟩:=gp h;exact⟨z.1,z.2,true,.inr (.inl ⟨by rw[mA];exact h1,rfl⟩),Fh h2⟩
 | cp d t tx x y=>
  obtain⟨z,h1,h2⟩:=gp h;exact⟨z.1,z.2,true,.inr (.inl ⟨by rw[mA];exact h1,rfl⟩),Fh h2⟩
 | sb d r t x=>
  simp only[dD]at h;split at h
  ·rename_i hk;obtain⟨z,h1,h2⟩:=gp h;exact⟨z.1,z.2,true,.inr (.inl ⟨by rw[mA];simp only[I.so,tv,hk];exact h1,rfl⟩),Fh h2⟩
  cases h
 | _=>exact plain h
theorem NJ {s:St}{d:Option Nat}{b:Bool}{K K':St->Prop}{x:AV × ak}(h:∀s,K s->K' s) (hk:r7 s d b K x):r7 s d b K' x:=ke h hk
theorem Fi {n:Nat}{tm:List (Nat × AV)}{G:Nat}{K K':St->Prop}{d:Option Nat}{x:AV × ak}(h:∀s,K s->K' s) (hk:oJ n tm G K d x):oJ n tm G K' d x:=by
 cases d with
 | none=>exact h _ hk
 | some d=>
  simp only[oJ]at hk ⊢;cases hb:Nat.blt d n with
  | true=>rw[hb]at hk;exact h _ hk
  | false=>rw[hb]at hk;exact hk
theorem lH {α:Type}{x:Option α}{K K':α->Prop}(h:∀a,K a->K' a) (hk:dj x K):dj x K':=by
 obtain⟨a,h1,h2⟩:=gp hk;exact l7 h1 (h a h2)
theorem Gi {i:I}{s:St}{K K':St->Prop}(h:∀s,K s->K' s) (hk:dD P i s K):dD P i s K':=by
 cases i with
 | ca d f xs ts=>exact lH (fun x ⟨res,rf,h1,h2,h3⟩=>⟨res,rf,h1,h2,ke h h3⟩) hk
 | cl d f xs ts=>exact lH (fun x ⟨res,rf,h1,h2,h3⟩=>⟨res,rf,h1,h2,ke h h3⟩) hk
 | cm d f ms xs ts=>exact⟨hk.1,lH (fun x=>lH fun σin ⟨res,σout,h1,h2,h3⟩=>⟨res,σout,h1,h2,lH (fun σ2=>ke h) h3⟩) hk.2⟩
 | cn d f ms xs ts=>exact⟨hk.1,lH (fun x=>lH fun σin ⟨h0,res,σout,h1,o6,h2,h3⟩=>⟨h0,res,σout,h1,o6,h2,lH (fun σ2=>ke h) h3⟩) hk.2⟩
 | cu d x xs ts=>exact lH (fun f=>lH (fun x ⟨res,rf,h1,h2,h3⟩=>⟨res,rf,h1,h2,ke h h3⟩)) hk
 | lz d t g=>exact lH (fun v=>ke h) hk
 | mf d f x=>exact lH (fun v=>ke h) hk
 | mk d t=>exact ke h (show put s (some d) (.mr d s.G []) (bT s.σ d (s.G,one (ig []))) true K from hk)
 | lu d t x k ok=>exact Rp (fun r g p f row ⟨C,res,K0,E,zv,h1,h2,h3,h4,h5,h6⟩=>⟨C,res,K0,E,zv,h1,h2,h3,h4,h5,ke h h6⟩) hk
 | mu t m k x=>exact Rp (fun r g p f row ⟨C,K0,E,ck,cx,h1,h2,h3,h4,h5,h6,h7⟩=>⟨C,K0,E,ck,cx,h1,h2,h3,h4,h5,h6,ke h h7⟩) hk
 | bs d t n ps=>exact lH (fun x=>Fi h) hk
 | ap d t tx x y=>exact lH (fun x=>Fi h) hk
 | cp d t tx x y=>exact lH (fun x=>Fi h) hk
 | sb d r t x=>
  simp only[dD]at hk ⊢;split at hk
  ·exact lH (fun x=>Fi h) hk
  cases hk
 | mv d x=>exact lH (x:=kO P d s.G (cI s.tm) s.σ (.move x)) (fun x=>NJ h) hk
 | as d x=>exact lH (x:=kO P d s.G (cI s.tm) s.σ (.assign x)) (fun x=>NJ h) hk
 | _=>exact lH (fun x=>NJ h) hk
theorem Jn {v:AV}{σ':ak}:put ⟨n,tm,σ,G⟩ (some d) v σ' true K=tP n d tm G K (v,σ'):=by
 show(match Nat.blt d n with|true=>_|false=>_)=Br (Nat.blt d n) _ _
 cases Nat.blt d n<;>rfl
theorem aah {v:AV}:put ⟨n,tm,σ,G⟩ (some d) v σ false K=jl n d tm σ G K v:=by
 show(match Nat.blt d n with|true=>_|false=>_)=Br (Nat.blt d n) _ _
 cases Nat.blt d n<;>rfl
theorem JB {α β:Type}{x:Option α}{g:α->β}{K:β->Prop}:dj (x.map g) K=dj x (fun a=>K (g a)):=by cases x<;>rfl
theorem lG {x:Option AV}:dj (x.map fun v=>(v,σ)) (r7 ⟨n,tm,σ,G⟩ (some d) false K)=dj x (jl n d tm σ G K):=by
 rw[JB];congr 1
theorem Ju {x:Option (AV × ak)}:dj x (r7 ⟨n,tm,σ,G⟩ (some d) true K)=dj x (tP n d tm G K):=by
 congr 1
theorem ZL:dD P (.mv d x) ⟨n,tm,σ,G⟩ K=jl n d tm σ G K (cI tm x):=lG (x:=some (cI tm x))
theorem aac:dD P (.as d x) ⟨n,tm,σ,G⟩ K=jl n d tm σ G K (cI tm x):=lG (x:=some (cI tm x))
theorem ZI:dD P (.pk d x y z) ⟨n,tm,σ,G⟩ K=dj (H3 (cI tm x) (cI tm y) (cI tm z)) (jl n d tm σ G K):=lG
theorem aae:dD P (.al d t) ⟨n,tm,σ,G⟩ K=dj (D5 P d G σ t) (tP n d tm G K):=Ju
theorem Z7:dD P (.bx d t x) ⟨n,tm,σ,G⟩ K=dj (D3 P d G σ t (cI tm x)) (tP n d tm G K):=Ju
theorem ZU:dD P (.ld d t x) ⟨n,tm,σ,G⟩ K=dj (yH P σ t (cI tm x)) (jl n d tm σ G K):=lG
theorem ZY:dD P (.fa d t x f) ⟨n,tm,σ,G⟩ K=dj (DZ P t (cI tm x) f) (jl n d tm σ G K):=lG
theorem ZZ:dD P (.ex d x i) ⟨n,tm,σ,G⟩ K=dj (D1 (cI tm x) i) (jl n d tm σ G K):=lG
theorem ZJ:dD P (.nc d x) ⟨n,tm,σ,G⟩ K=dj (H4 (cI tm x)) (jl n d tm σ G K):=lG
theorem aaa {b:BinOp}:dD P (.bn d b t x y u) ⟨n,tm,σ,G⟩ K=dj (D4 P b t (cI tm x) (cI tm y)) (jl n d tm σ G K):=lG
theorem ZE {b:UnOp}:dD P (.un d b t x) ⟨n,tm,σ,G⟩ K=dj (DS b (cI tm x)) (jl n d tm σ G K):=lG
theorem Z0:dD P (.cv d s t x) ⟨n,tm,σ,G⟩ K=dj (H8 P σ s t (cI tm x)) (jl n d tm σ G K):=lG
theorem ZF:dD P (.st t x y) ⟨n,tm,σ,G⟩ K=dj (AB P σ t (cI tm x) (cI tm y)) (Fg n tm G K):=by
 show dj ((AB P σ t (cI tm x) (cI tm y)).map fun σ'=>(AV.dead,σ')) (r7 ⟨n,tm,σ,G⟩ none false K)=_
 rw[JB];rfl
theorem ZW:dD P (.ia d t x y) ⟨n,tm,σ,G⟩ K=dj (DX P σ t (cI tm x) (cI tm y)) (jl n d tm σ G K):=lG
theorem ZV:dD P (.ix d t x y) ⟨n,tm,σ,G⟩ K=dj (DY P t (cI tm x) (cI tm y)) (jl n d tm σ G K):=lG
theorem ZX:dD P (.fd d t x f) ⟨n,tm,σ,G⟩ K=dj (D0 P t (cI tm x) f) (jl n d tm σ G K):=lG
theorem ZN:dD P (.ms d t x y) ⟨n,tm,σ,G⟩ K=dj (DU P d G σ t (cI tm x) (cI tm y)) (tP n d tm G K):=Ju
theorem ZT:dD P (.ln d t x) ⟨n,tm,σ,G⟩ K=dj (DV P t (cI tm x)) (jl n d tm σ G K):=lG
theorem ZO {ts:List Nat}:dD P (.mn d x y ts) ⟨n,tm,σ,G⟩ K=dj (H5 (cI tm x) (cI tm y)) (jl n d tm σ G K):=lG
theorem ZK {ts:List Nat}:dD P (.mx d x y ts) ⟨n,tm,σ,G⟩ K=dj (H6 (cI tm x) (cI tm y)) (jl n d tm σ G K):=lG
def Dh (tm:List (Nat × AV)):Option Operand->Option AV
 | none=>none
 | some x=>some (cI tm x)
theorem JZ {o:Option Operand}:o.map (cI tm)=Dh tm o:=by cases o<;>rfl
theorem ZG {lo hi mx:Option Operand}:dD P (.sl d t x lo hi mx) ⟨n,tm,σ,G⟩ K=dj (AD P t (cI tm x) (Dh tm lo) (Dh tm hi) (Dh tm mx)) (jl n d tm σ G K):=by
 show dj ((AD P t (cI tm x) (lo.map (cI tm)) (hi.map (cI tm)) (mx.map (cI tm))).map fun v=>(v,σ)) (r7 ⟨n,tm,σ,G⟩ (some d) false K)=_
 rw[JZ,JZ,JZ];exact lG
theorem aab {ps:List (Nat × Operand)}:dD P (.bd d t ps) ⟨n,tm,σ,G⟩ K=dj (AI P t (yl tm ps)) (jl n d tm σ G K):=by
 show dj ((AI P t (ps.toArray.toList.map fun x=>(x.1,cI tm x.2))).map fun v=>(v,σ)) (r7 ⟨n,tm,σ,G⟩ (some d) false K)=_
 rw[List.toList_toArray,FN];exact lG
theorem Z9 {m:Nat}{ps:List (Nat × Operand)}:dD P (.bo d t m ps) ⟨n,tm,σ,G⟩ K=dj (AH P t m (yl tm ps)) (jl n d tm σ G K):=by
 show dj ((AH P t m (ps.toArray.toList.map fun x=>(x.1,cI tm x.2))).map fun v=>(v,σ)) (r7 ⟨n,tm,σ,G⟩ (some d) false K)=_
 rw[List.toList_toArray,FN];exact lG
theorem Z8 {m:Nat}{ps:List (Nat × Operand)}:dD P (.bs d t m ps) ⟨n,tm,σ,G⟩ K=dj (yI P d G σ t m (yl tm ps)) (oJ n tm G K (some d)):=rfl
theorem aad {d:Option Nat}{tx:Nat}:dD P (.ap d t tx x y) ⟨n,tm,σ,G⟩ K=dj (AJ P (d.getD 0) G σ t tx (cI tm x) (cI tm y)) (oJ n tm G K d):=rfl
theorem Z2 {d:Option Nat}{tx:Nat}:dD P (.cp d t tx x y) ⟨n,tm,σ,G⟩ K=dj (AG P σ t tx (cI tm x) (cI tm y)) (oJ n tm G K d):=rfl
def I3 (P:Program) (n d G:Nat) (tm:List (Nat × AV)) (σ:ak) (t:Nat) (x:AV) (K:St->Prop):Option TK->Prop
 | some .string=>dj (zc P d G σ t x) (oJ n tm G K (some d))
 | _=>False
theorem ZH:dD P (.sb d s t x) ⟨n,tm,σ,G⟩ K=I3 P n d G tm σ t (cI tm x) K (tk P s):=by
 unfold I3;simp only[dD];try(split<;>rfl)
theorem Z6 {xs:List Operand}{ts:List Nat}{d:Option Nat}:dD P (.ca d f xs ts) ⟨n,tm,σ,G⟩ K=dj (o8 σ (m9 tm xs)) (Iu P n d tm σ G f K):=rfl
theorem Z5 {xs:List Operand}{ts:List Nat}{d:Option Nat}:dD P (.cl d f xs ts) ⟨n,tm,σ,G⟩ K=dj (o8 σ (m9 tm xs)) (B8 P ⟨n,tm,σ,G⟩ d f K):=rfl
theorem Z4 {xs:List Operand}{ts:List Nat}{ms:List Bool}{d:Option Nat}:dD P (.cm d f ms xs ts) ⟨n,tm,σ,G⟩ K=FK P ⟨n,tm,σ,G⟩ d f K ms (m9 tm xs) (na false σ 1 30 1000000 [] (q7 ms (m9 tm xs))):=rfl
theorem Z3 {xs:List Operand}{ts:List Nat}{ms:List Bool}{d:Option Nat}:dD P (.cn d f ms xs ts) ⟨n,tm,σ,G⟩ K=FJ P ⟨n,tm,σ,G⟩ d f K ms (m9 tm xs) (na false σ 1 30 1000000 [] (q7 ms (m9 tm xs))):=rfl
def Uw (P:Program) (n:Nat) (d:Option Nat) (tm:List (Nat × AV)) (σ:ak) (G:Nat) (xs:List Operand) (K:St->Prop) (f:Nat):Prop:=dj (o8 σ (.agg []::m9 tm xs)) (B8 P ⟨n,tm,σ,G⟩ d f K)
theorem Z1 {xs:List Operand}{ts:List Nat}{d:Option Nat}:dD P (.cu d x xs ts) ⟨n,tm,σ,G⟩ K=dj (z9 (cI tm x)) (Uw P n d tm σ G xs K):=rfl
theorem afm {xs:List Operand}{d:Option Nat}:Uw P n d tm σ G xs K f=dj (o8 σ (.agg []::m9 tm xs)) (B8 P ⟨n,tm,σ,G⟩ d f K):=rfl
theorem ZR {g:Nat}:dD P (.lz d t g) ⟨n,tm,σ,G⟩ K=dj (DR P t) (jl n d tm σ G K):=by
 show dj (DR P t) (fun v=>put ⟨n,tm,σ,G⟩ (some d) v σ false K)=_
 congr 1
theorem ZQ:dD P (.mf d f x) ⟨n,tm,σ,G⟩ K=dj (AE f (cI tm x)) (jl n d tm σ G K):=by
 show dj (AE f (cI tm x)) (fun v=>put ⟨n,tm,σ,G⟩ (some d) v σ false K)=_
 congr 1
theorem ZP:dD P (.mk d t) ⟨n,tm,σ,G⟩ K=tP n d tm G K (.mr d G [],bT σ d (G,one (ig []))):=Jn
theorem ZS {k:Operand}{ok:Bool}:dD P (.lu d t x k ok) ⟨n,tm,σ,G⟩ K=tw σ (fun _ _ _ _=>Ig P t (cI tm k) ok (jl n d tm σ G K)) (cI tm x):=by
 show tw σ (fun r g p f row=>Ig P t (cI tm k) ok (fun v=>put ⟨n,tm,σ,G⟩ (some d) v σ false K) row) (cI tm x)=_
 congr 1
theorem ZM {m k:Operand}:dD P (.mu t m k x) ⟨n,tm,σ,G⟩ K=tw σ (NM P t (cI tm k) (cI tm x) σ (Fg n tm G K)) (cI tm m):=rfl
theorem RM:∀(tm:List (Nat × AV)) (t:Nat) (b:Bool),fI tm t=.sc (.bool b)->bE tm t=some (.sc (.bool b))
 | [],_,_,h=>by cases h
 | (k,v)::l,t,b,h=>by
  simp only[fI,bE]at h ⊢;split at h
  ·rename_i hk;rw[hk];rw[h]
  rename_i hk;rw[hk];exact RM l t b h
theorem RL:∀(tm:List (Nat × AV)) (t:Nat),fI tm t=.aZ []->bE tm t=some (.aZ [])
 | [],_,h=>by cases h
 | (k,v)::l,t,h=>by
  simp only[fI,bE]at h ⊢;split at h
  ·rename_i hk;rw[hk];rw[h]
  rename_i hk;rw[hk];exact RL l t h
def g9 (P:Program) (n:Nat) (tm:List (Nat × AV)) (σ:ak) (G t:Nat) (w:Bool) (i:I) (K:St->Prop) (v:AV):Prop:=
 match v with
 | .sc (.bool b)=>Br b (Br w (dD P i ⟨n,tm,σ,G⟩ K) (rn i ⟨n,tm,σ,G⟩ K)) (Br w (rn i ⟨n,tm,σ,G⟩ K) (dD P i ⟨n,tm,σ,G⟩ K))
 | .aZ []=>rn i ⟨n,tm,σ,G⟩ K
 | _=>False
theorem Te {i:I}(h:g9 P n tm σ G t w i K (fI tm t)):qh P ⟨i.so.d,i.so.o,some (t,w)⟩ ⟨n,tm,σ,G⟩ K:=by
 cases hv:fI tm t with
 | sc v=>
  rw[hv]at h;cases v with
  | bool b=>
   unfold qh sG;simp only[RM _ _ _ hv];cases b<;>cases w<;>simp only[g9,uG,uH]at h ⊢<;>first|exact Kw h|exact h
  | _=>cases h
 | aZ vs=>
  rw[hv]at h;cases vs with
  | nil=>
   unfold qh sG;simp only[RL _ _ hv];exact h
  | cons=>cases h
 | _=>rw[hv]at h;cases h
theorem LG {K K':St->Prop}{i:I}{v:AV}(h:∀s,K s->K' s) (hk:g9 P n tm σ G t w i K v):g9 P n tm σ G t w i K' v:=by
 unfold g9 at hk ⊢;split at hk
 ·rename_i b;cases b<;>cases w<;>simp only[uG,uH]at hk ⊢<;>first|exact Gi h hk|exact ke h hk
 ·exact ke h hk
 cases hk
def oV (P:Program):List J->St->(St->Prop)->Prop
 | [],s,Q=>Q s
 | .p i::l,s,Q=>dD P i s fun s'=>oV P l s' Q
 | .g t w i::l,s,Q=>g9 P s.n s.tm s.σ s.G t w i (fun s'=>oV P l s' Q) (fI s.tm t)
def oM:List J->Nat->Option J
 | [],_=>none
 | j::l,i=>match i==0 with
  | true=>some j
  | false=>oM l (i - 1)
theorem BJ:∀(l:List J) (i:Nat),(qg l)[i]?=(oM l i).map fun
  | .p j=>⟨j.so.d,j.so.o,none⟩
  | .g t w j=>⟨j.so.d,j.so.o,some (t,w)⟩
 | [],i=>rfl
 | .p j::l,0=>rfl
 | .g t w j::l,0=>rfl
 | .p j::l,i+1=>by simpa[qg,oM]using BJ l i
 | .g t w j::l,i+1=>by simpa[qg,oM]using BJ l i
def Jj (P:Program) (σ:ak) (tm:List (Nat × AV)) (i:I):Option AV:=kX P σ (cI tm) i.so.o
def LH (w:Bool) (x:Option AV):AV->Option AV
 | .sc (.bool b)=>match b==w with
  | true=>x
  | false=>some (.aZ [])
 | .aZ []=>some (.aZ [])
 | _=>none
def E7 (P:Program) (σ:ak) (tm:List (Nat × AV)):Option J->Option AV
 | some (.p i)=>Jj P σ tm i
 | some (.g t w i)=>LH w (Jj P σ tm i) (fI tm t)
 | none=>none
def wW (P:Program) (l:List J) (tm:List (Nat × AV)) (σ σ':ak):List Nat->Prop
 | []=>True
 | k::rc=>E7 P σ' tm (oM l k)=E7 P σ tm (oM l k)/\wW P l tm σ σ' rc
def vp:I->Bool
 | .bs ..|.sb ..|.lz ..|.mf ..=>false
 | _=>true
def jT (P:Program) (l:List J):DT->St->(St->Prop)->Prop
 | .nil,s,K=>K s
 | .pu i t,s,K=>match oM l i with
  | some (.p j)=>(vp j=true/\iO j.so.o=true)/\dD P j s fun s'=>jT P l t s' K
  | some (.g u w j)=>(vp j=true/\iO j.so.o=true)/\g9 P s.n s.tm s.σ s.G u w j (fun s'=>jT P l t s' K) (fI s.tm u)
  | none=>False
 | .ef i rc t,s,K=>match oM l i with
  | some (.p j)=>dD P j s fun s'=>wW P l s.tm s.σ s'.σ rc/\jT P l t s' K
  | some (.g u w j)=>g9 P s.n s.tm s.σ s.G u w j (fun s'=>wW P l s.tm s.σ s'.σ rc/\jT P l t s' K) (fI s.tm u)
  | none=>False
 | .or a b,s,K=>jT P l a s K/\jT P l b s K
def qu:List Nat->List (Nat × AV)->List (Nat × AV)
 | [],_=>[]
 | k::ks,tm=>(k,fI tm k)::qu ks tm
def Gc (ks:List Nat) (s:St):St:=⟨s.n,qu ks s.tm,s.σ,s.G⟩
def mW (ks:List Nat) (s:St):St:=tl s (qu ks s.tm) (Mr s ks)
def jv (P:Program):SC J->St->(Exit->St->Prop)->Prop
 | .skip,s,Q=>Q .normal s
 | .ret,s,Q=>Q .ret s
 | .exit id,s,Q=>Q (.exit id) s
 | .seq a b,s,Q=>jv P a s (gl Q fun s'=>jv P b s' Q)
 | .sq ks a b,s,Q=>jv P a s (gl Q fun s'=>jv P b (Gc ks s') Q)
 | .ct a b,s,Q=>jv P a s (gl Q fun s'=>∃eO,aB s' eO/\jv P b eO Q)
 | .cond c x y,s,Q=>match cI s.tm c with
  | .sc (.bool b)=>Br b (jv P x s Q) (jv P y s Q)
  | _=>False
 | .block id c,s,Q=>jv P c s (jK id Q)
 | .loop c,s,Q=>∃(I:Nat->St->Prop) (n:Nat) (s1:St),aB s s1/\I n s1/\∀m s2,I m s2->jv P c s2 (gl Q fun s3=>∃m' s4,m'<m/\aB s3 s4/\I m' s4)
 | .lp _ c,s,Q=>∃(I:Nat->St->Prop) (n:Nat) (s1:St),aB s s1/\I n s1/\∀m s2,I m s2->jv P c s2 (gl Q fun s3=>∃m' s4,m'<m/\aB s3 s4/\I m' s4)
 | .mJ l,s,Q=>oV P l s fun s'=>Q .normal s'
 | .dr t _ l _,s,Q=>jT P l t s (Q .normal)
 | .qZ id l it ty x tn tb b,s,Q=>tk P ty=some .string/\oV P l s fun s1=>∃str,cI s1.tm x=.sc (.string str)/\it<s1.n/\∀r,∃(I:Nat->St->Prop) (s2:St),aB ⟨s1.n,(it,.it r)::s1.tm,s1.σ,s1.G⟩ s2/\I 0 s2/\∀pos s3,I pos s3->
   (bE s3.tm it=some (.it r)/\tn<s3.n/\tb<s3.n)/\
   (pos<str.size->∃c,Utf8.decode str pos=(c,1)/\jv P b ⟨s3.n,(tb,.sc (.bool true))::(tn,.aZ [.sc (.bool true),.sc (.int .i64 pos),.sc (.int .i32 c)])::s3.tm,s3.σ,s3.G⟩ (gl (jK id Q) fun s4=>∃s5,aB s4 s5/\I (pos+1) s5))/\
   (¬pos<str.size->Q .normal ⟨s3.n,(tb,.sc (.bool false))::(tn,.aZ [.sc (.bool false)])::s3.tm,s3.σ,s3.G⟩)
 | .bad,_,_=>False
theorem Cc:∀(l:List J) (s:St) (Q:St->Prop),oV P l s Q->uW P (qg l) s Q
 | [],s,Q,h=>h
 | .p i::l,s,Q,h=>tM (o:=⟨i.so.d,i.so.o,none⟩) (fun s' hs=>Cc l s' Q hs) (Kw h)
 | .g t w i::l,⟨n,tm,σ,G⟩,Q,h=>tM (fun s' hs=>Cc l s' Q hs) (Te h)
theorem Qg {j:I}{s:St}(h0:vp j=true) (hp:iO j.so.o=true) (h:dD P j s K):dj (kX P s.σ (ev s) j.so.o) fun v=>put s j.so.d v s.σ false K:=by
 have plain:dj (kO P (j.so.d.getD 0) s.G (cI s.tm) s.σ j.so.o) (r7 s j.so.d (yD j.so.o) K)->dj (kX P s.σ (ev s) j.so.o) fun v=>put s j.so.d v s.σ false K:=by
  intro h;rw[WO hp,JB,Qf hp]at h;rw[mA];exact h
 cases j with
 | ca d f xs ts=>simp[I.so,iO]at hp
 | cl d f xs ts=>simp[I.so,iO]at hp
 | cm d f ms xs ts=>simp[I.so,iO]at hp
 | cn d f ms xs ts=>simp[I.so,iO]at hp
 | cu d x xs ts=>simp[I.so,iO]at hp
 | lz=>cases h0
 | mf=>cases h0
 | bs=>cases h0
 | sb=>cases h0
 | ap=>simp[I.so,iO]at hp
 | cp=>simp[I.so,iO]at hp
 | mk=>simp[I.so,iO]at hp
 | lu=>simp[I.so,iO]at hp
 | mu=>simp[I.so,iO]at hp
 | _=>exact plain h
theorem vn (l:List J):∀(t:DT) (s:St) (Q:St->Prop),jT P l t s Q->sT P (qg l) t s Q
 | .nil,s,Q,h=>h
 | .pu i t,⟨n,tm,σ,G⟩,Q,h=>by
  unfold jT at h;unfold sT;rw[BJ];split at h
  ·rename_i j hj;rw[hj];exact⟨h.1.2,ER (o:=⟨j.so.d,j.so.o,none⟩) (fun s' hs=>vn l t s' Q hs) (Qg h.1.1 h.1.2 h.2)⟩
  ·rename_i u w j hj;rw[hj];refine⟨h.1.2,?_⟩;obtain⟨⟨h1,h2⟩,h3⟩:=h;have key:wY P ⟨j.so.d,j.so.o,some (u,w)⟩ ⟨n,tm,σ,G⟩ (fun s'=>jT P l t s' Q):=by
    unfold wY sV;rw[Hj];simp only at h3;simp only[L1];cases hv:fI tm u with
    | sc v=>
     rw[hv]at h3;cases v with
     | bool b=>
      have pl:dD P j ⟨n,tm,σ,G⟩ (fun s'=>jT P l t s' Q)->dj (kX P σ (cI tm) j.so.o) fun v=>put ⟨n,tm,σ,G⟩ j.so.d v σ false fun s'=>jT P l t s' Q:=fun hh=>by
       have:=Qg h1 h2 hh
       rwa[Hj]at this
      cases b<;>cases w<;>simp only[g9,uG,uH]at h3<;>first|exact pl h3|exact h3
     | _=>cases h3
    | aZ vs=>
     rw[hv]at h3;cases vs with
     | nil=>exact h3
     | cons=>cases h3
    | _=>rw[hv]at h3;cases h3
   exact ER (fun s' hs=>vn l t s' Q hs) key
  cases h
 | .ef i rc t,⟨n,tm,σ,G⟩,Q,h=>by
  have same:∀{s':St},wW P l tm σ s'.σ rc->Pp P (qg l) rc ⟨n,tm,σ,G⟩ s'.σ:=by
   clear h;intro s';induction rc with
   | nil=>intro _ k hk;simp at hk
   | cons k0 rc ih=>
    intro hs k hk x hx;rcases List.mem_cons.1 hk with rfl|hk
    ·have h1:=hs.1;rw[BJ]at hx;rw[Hj];cases hn:oM l k with
     | none=>rw[hn]at hx;cases hx
     | some j=>
      rw[hn]at hx h1;cases j with
      | p j=>
       simp only[Option.map_some,Option.some.injEq]at hx;subst hx;exact h1
      | g u w j=>
       simp only[Option.map_some,Option.some.injEq]at hx;subst hx;simp only[E7]at h1;unfold sV;simp only[L1];unfold LH at h1;exact h1
    exact ih hs.2 k hk x hx
  unfold jT at h;unfold sT;rw[BJ];split at h
  ·rename_i j hj;rw[hj];exact tM (o:=⟨j.so.d,j.so.o,none⟩) (fun s' hs=>⟨same hs.1,vn l t s' Q hs.2⟩) (Kw h)
  ·rename_i u w j hj;rw[hj];exact tM (fun s' hs=>⟨same hs.1,vn l t s' Q hs.2⟩) (Te h)
  cases h
 | .or a b,s,Q,h=>⟨vn l a s Q h.1,vn l b s Q h.2⟩
theorem xB {l:List J}:∀{t:DT}{s:St}{K K':St->Prop},(∀s,K s->K' s)->jT P l t s K->jT P l t s K'
 | .nil,s,K,K',h,hk=>h _ hk
 | .pu i t,s,K,K',h,hk=>by
  unfold jT at hk ⊢;split at hk
  ·exact⟨hk.1,Gi (fun s' hs=>xB h hs) hk.2⟩
  ·exact⟨hk.1,LG (fun s' hs=>xB h hs) hk.2⟩
  cases hk
 | .ef i rc t,s,K,K',h,hk=>by
  unfold jT at hk ⊢;split at hk
  ·exact Gi (fun s' hs=>⟨hs.1,xB h hs.2⟩) hk
  ·exact LG (fun s' hs=>⟨hs.1,xB h hs.2⟩) hk
  cases hk
 | .or a b,s,K,K',h,hk=>⟨xB h hk.1,xB h hk.2⟩
theorem RR:∀(tm:List (Nat × AV)) (t:Nat) (v:AV),bE tm t=some v->fI tm t=v
 | [],_,_,h=>by cases h
 | (k,u)::l,t,v,h=>by
  simp only[fI,bE]at h ⊢;split at h
  ·rename_i hk;rw[hk];exact Option.some.inj h
  rename_i hk;rw[hk];exact RR l t v h
theorem RN:∀(tm:List (Nat × AV)) (t:Nat),bE tm t=none->fI tm t=.dead
 | [],_,_=>rfl
 | (k,u)::l,t,h=>by
  simp only[fI,bE]at h ⊢;split at h
  ·cases h
  rename_i hk;rw[hk];exact RN l t h
theorem B6:∀(ks:List Nat) (tm:List (Nat × AV)) (t:Nat) (v:AV),bE (qu ks tm) t=some v->fI tm t=v
 | [],_,_,_,h=>by cases h
 | k::ks,tm,t,v,h=>by
  simp only[qu,gR]at h;split at h
  ·rename_i hk;subst hk;exact Option.some.inj h
  exact B6 ks tm t v h
theorem Rel.look {rd:RD}{φ:cj}{O:Nat->Prop}{w0 w:World}{s:St}{a:Act}(h:Rel rd φ O w0 s a w) (t:Nat):aL rd φ (fI s.tm t) (a.tmps.getD t undef):=by
 cases hl:bE s.tm t with
 | none=>rw[RN _ _ hl];exact .dead _
 | some v=>rw[RR _ _ _ hl];exact h.tm t v hl
theorem aB.oU (ks:List Nat) (s:St):aB s (Gc ks s):=by
 intro rd O w0 a w ⟨rd',φ,hx,h⟩;exact⟨rd',φ,hx,h.heap,fun t v hl=>B6 ks s.tm t v hl▸h.look t,h.size,h.defers,h.gen⟩
theorem aB.head (ks:List Nat) (s:St):aB s (mW ks s):=
 aB.tl (fun t v hl rd φ O w0 a w h=>B6 ks s.tm t v hl▸h.look t) _
def FE (s:St) (t:Nat) (x:AV × ak × Nat):St:=⟨s.n,(t,x.1)::s.tm,x.2.1,x.2.2⟩
def FD (s:St) (t:Nat) (u:AV):St:=FE s t (u6 u (fI s.tm t) s.σ s.G)
def JL (σ:ak) (r g:Nat) (f:d9) (p:List Nat) (row:Row) (i j sz G:Nat) (e:List AV):Option AV->Option ak
 | some .aG=>some (bT (bT σ (800000+G) (G,one ⟨sz,[],2,false⟩)) r (g,dF f p ⟨row.sz,row.es.set i (e.set j (.aw (800000+G) G [] sz 0 0)),0,false⟩))
 | _=>none
def JM (σ:ak) (r g:Nat) (p:List Nat) (i j sz G:Nat) (f:d9):Option Row->Option ak
 | some row=>match row.es[i]?,row.ao with
  | some e,false=>JL σ r g f p row i j sz G e (e[j]?)
  | _,_=>none
 | none=>none
def BM (σ:ak) (j sz G:Nat):AV->Option ak
 | .ptr r g p _ i _=>match Nat.beq r (800000+G),bE σ r with
  | false,some (g',f)=>match Nat.beq g' g with
   | true=>JM σ r g p i j sz G f (f p)
   | false=>none
  | _,_=>none
 | _=>none
def JN (s:St):Option ak->St
 | some σ'=>⟨s.n,s.tm,σ',s.G+1⟩
 | none=>s
def zt (s:St) (t j sz:Nat):St:=JN s (BM s.σ j sz s.G (fI s.tm t))
def gX:List (Nat × Nat)->St->St
 | [],s=>s
 | (t,sz)::l,s=>match Nat.ble 1000 t with
  | true=>gX l (zt s (t%1000) (t/1000 - 1) sz)
  | false=>gX l (FD s t (.aw 0 0 [] sz 0 0))
theorem bc.review {rd:RD}{φ:cj}{O:Nat->Prop}{w0 w:World}{σ:ak}{r g:Nat}{p:List Nat}{f:d9}{row:Row}(h:bc rd φ O w0 σ w) (hl:bE σ r=some (g,f)) (hf:f p=some row) (kv:row.ao=false)
  {iw:List (List AV)} (hlen:iw.length=row.es.length) (vq:∀e∈iw,e.length=row.sz)
  (hc:∀(i j:Nat) (c':AV),(iw[i]?).bind (·[j]?)=some c'->∃c,(row.es[i]?).bind (·[j]?)=some c/\∀v,aL rd φ c v->aL rd φ c' v):bc rd φ O w0 (bT σ r (g,dF f p ⟨row.sz,iw,0,false⟩)) w:=by
 have cB:rowAt σ r g p=some row:=by unfold rowAt;rw[hl];simp[hf]
 obtain⟨pl,hφ,aI⟩:=h.rows r g p row cB;have cA:=fun {r2 g2 p2 bt} (hr:rowAt (bT σ r (g,dF f p ⟨row.sz,iw,0,false⟩)) r2 g2 p2=some bt)=>xc hl hr
 have lP:∀{r2 g2 p2 bt},rowAt (bT σ r (g,dF f p ⟨row.sz,iw,0,false⟩)) r2 g2 p2=some bt->∃x,rowAt σ r2 g2 p2=some x:=by
  intro r2 g2 p2 bt hr;rcases cA hr with ⟨rfl,rfl,rfl,rfl⟩|⟨h1,_⟩
  ·exact⟨_,cB⟩
  exact⟨_,h1⟩
 refine⟨?_,?_,h.eA,?_,?_,h.frame,h.size,h.os,h.tape,h.output⟩
 ·intro r2 g2 p2 bt hr;rcases cA hr with ⟨rfl,rfl,rfl,rfl⟩|⟨hr,bJ⟩
  ·refine⟨pl,hφ,vq,by rw[hlen];exact aI.len,fun e he=>⟨fun h=>absurd h (by simp),fun h=>absurd h (by simp)⟩,aI.nil,aI.room,fun b q aK i j c' aU=>?_,fun ha=>(by cases ha),lI (by show(0:Nat)<3;decide)⟩;obtain⟨c,h1,h2⟩:=hc i j c' aU;obtain⟨v,h3,h4⟩:=aI.cells b q aK i j c h1;exact⟨v,h3,h2 v h4⟩
  exact h.rows _ _ _ _ hr
 ·intro r1 g1 p1 fy r2 g2 p2 bt jm de b q1 q2 h1 h2 h3 h4 h5 h6;obtain⟨x1,e1⟩:=lP h1;obtain⟨x2,e2⟩:=lP h2;exact h.sep _ _ _ _ _ _ _ _ _ _ _ _ _ e1 e2 h3 h4 h5 h6
 ·intro r2 g2 p2 bt de b2 q2 h1 h2 h3 k dI;rcases cA h1 with ⟨rfl,rfl,rfl,rfl⟩|⟨h1,_⟩
  ·exact h.eF _ _ _ _ _ _ _ cB h2 h3 k (.inl kv)
  exact h.eF _ _ _ _ _ _ _ h1 h2 h3 k dI
 intro r1 g1 p1 fy jm b q1 h1 h2 h3;obtain⟨x1,e1⟩:=lP h1;exact h.own _ _ _ _ _ _ _ e1 h2 h3
theorem aB.zt (s:St) (t j sz:Nat):aB s (zt s t j sz):=by
 unfold E.zt;cases hx:BM s.σ j sz s.G (fI s.tm t) with
 | none=>exact .refl s
 | some σ'=>
  intro rd O w0 a w ⟨rd',φ,iq,h⟩;unfold BM at hx;split at hx
  ·rename_i r g p Ys i o hp;split at hx
   ·rename_i g' f bJ hl;split at hx
    ·rename_i hg;have hg:=Nat.eq_of_beq_eq_true hg;subst hg;unfold JM at hx;split at hx
     ·rename_i row hf;split at hx
      ·rename_i e pQ kv;unfold JL at hx;split at hx
       ·rename_i SR;cases hx;have dA:∀q,φ (800000+s.G) s.G q=none:=fun q=>by
         cases hh:φ (800000+s.G) s.G q with
         | none=>rfl
         | some x=>exact absurd (h.gen _ _ _ (by rw[hh];simp)) (Nat.lt_irrefl _)
        obtain⟨n1,n2⟩:=h.heap.JO dA sz 2;generalize fD:(dB φ (800000+s.G) s.G fun q=>match q with|[]=>some (⟨none,0⟩:Pl)|_=>none)=φ' at n1 n2;have ac9:r≠800000+s.G:=fun e=>by rw[e,Nat.beq_refl]at bJ;cases bJ
        have mq:bE (bT s.σ (800000+s.G) (s.G,one ⟨sz,[],2,false⟩)) r=some (g',f):=by rw[zB,if_neg ac9,hl]
        have cB:rowAt s.σ r g' p=some row:=by unfold rowAt;rw[hl];simp[hf]
        obtain⟨pl,hφr,aI⟩:=h.heap.rows _ _ _ _ cB;have oY:e∈row.es:=dk pQ;refine⟨rd',φ',iq.step .refl n2,n1.review mq hf kv (by simp) ?_ ?_,fun t' v KV=>(h.tm t' v KV).mono (fun _ _ _ h=>h) n2,h.size,h.defers,?_⟩
        ·intro x hx;rcases List.mem_or_eq_of_mem_set hx with hx|rfl
         ·exact aI.wide x hx
         rw[List.length_set];exact aI.wide e oY
        ·intro i' j' c' aU;by_cases hi:i=i'
         ·subst hi;have ab:i<row.es.length:=(List.getElem?_eq_some_iff.1 pQ).1;rw[List.getElem?_set_self ab]at aU;by_cases hj:j=j'
          ·subst hj;have sU:j<e.length:=(List.getElem?_eq_some_iff.1 SR).1;simp only[Option.bind_some,List.getElem?_set_self sU,Option.some.injEq]at aU;subst aU;refine⟨.aG,by rw[pQ];exact SR,fun v hv=>?_⟩;cases hv;exact .aw (800000+s.G) s.G [] sz 0 0 ⟨none,0⟩ none (by rw[<-fD];simp[dB]) (.inl rfl) (aR _)
          simp only[Option.bind_some,List.getElem?_set_ne hj]at aU;exact⟨c',by rw[pQ];exact aU,fun v hv=>hv⟩
         rw[List.getElem?_set_ne hi]at aU;exact⟨c',aU,fun v hv=>hv⟩
        intro r' g0 p' jy;rw[<-fD]at jy;unfold dB at jy;split at jy
        ·rename_i ee;rw[ee.2];exact Nat.lt_succ_self _
        exact Nat.lt_succ_of_lt (h.gen _ _ _ jy)
       cases hx
      cases hx
     cases hx
    cases hx
   cases hx
  cases hx
theorem aB.aa8 (s:St) (t:Nat) (u:AV):aB s (FD s t u):=by
 intro rd O w0 a w ⟨rd',φ,hx,h⟩;obtain⟨φ1,x1,h1,g1,v1⟩:=QY (u:=u) h.heap h.gen (h.look t);refine⟨rd',φ1,hx.step .refl x1,h1,fun t' v hl=>?_,h.size,h.defers,g1⟩;show aL rd' φ1 v _
 unfold FD FE at hl;simp only[gR]at hl;split at hl
 ·rename_i e;subst e;cases hl;exact v1
 exact(h.tm t' v hl).mono (fun _ _ _ h=>h) x1
theorem aB.gX:∀(l:List (Nat × Nat)) (s:St),aB s (gX l s)
 | [],s=>.refl s
 | (t,sz)::l,s=>by
  simp only[E.gX];split
  ·exact(aB.zt s _ _ _).trans (aB.gX l _)
  exact(aB.aa8 s t _).trans (aB.gX l _)
end
def kL:SC J->Bool
 | .dr t dS l af=>Mo t dS (qg l) af
 | .seq a b=>kL a&&kL b
 | .sq _ a b=>kL a&&kL b
 | .ct a b=>kL a&&kL b
 | .cond _ a b=>kL a&&kL b
 | .block _ c=>kL c
 | .loop c=>kL c
 | .lp _ c=>kL c
 | .qZ _ _ _ _ _ _ _ b=>kL b
 | _=>true
end
section
open Go Go.RowKit
set_option linter.unusedVariables false
inductive CK where
 | cl
 | ca
 | cm (ms:List Bool)
 | cn (ms:List Bool)
structure cc where
 mv:List (Nat × CK)
 str:List Nat
 YS:List Nat
 oc:Bool
def UI (f:Nat):List (Nat × CK)->CK
 | []=>.cl
 | (g,k)::r=>match Nat.beq g f with
  | true=>k
  | false=>UI f r
def zU (x:Nat):List Nat->Bool
 | []=>false
 | y::l=>match Nat.beq x y with
  | true=>true
  | false=>zU x l
def zE (x:Nat):List Nat->List Nat
 | []=>[x]
 | y::l=>match Nat.blt x y with
  | true=>x::y::l
  | false=>match Nat.beq x y with
   | true=>y::l
   | false=>y::zE x l
def IG:List Nat->List Nat->List Nat
 | [],m=>m
 | x::l,m=>IG l (zE x m)
def pY (x:Nat):List Nat->List Nat
 | []=>[]
 | y::l=>match Nat.beq x y with
  | true=>l
  | false=>y::pY x l
def qL {α:Type}:Nat->(Nat->α)->α
 | 0,k=>k 0
 | n+1,k=>k (n+1)
def rM {α:Type}:List Nat->(List Nat->α)->α
 | [],k=>k []
 | x::l,k=>qL x fun x=>rM l fun l=>k (x::l)
def Tx {α:Type}:List (List Nat)->(List (List Nat)->α)->α
 | [],k=>k []
 | x::l,k=>rM x fun x=>Tx l fun l=>k (x::l)
def OA:Nat->List Nat->List Nat
 | 0,l=>l
 | n+1,l=>OA n (n::l)
def Pq:List Nat->List Nat->Bool
 | [],[]=>true
 | x::l,y::m=>match Nat.beq x y with
  | true=>Pq l m
  | false=>false
 | _,_=>false
def afz (D:cc) (d:Option Nat) (c:Call):I:=
 match c.callee,c.args.toList,c.argTypes.toList,d with
 | .value (.func f),xs,ts,d=>match UI f D.mv with
  | .cl=>.cl d f xs ts
  | .ca=>.ca d f xs ts
  | .cm ms=>.cm d f ms xs ts
  | .cn ms=>.cn d f ms xs ts
 | .value (.tmp t),xs,ts,d=>.cu d (.tmp t) xs ts
 | .builtin .len,[x],[t],some d=>.ln d t x
 | .builtin .min,[x,y],ts,some d=>.mn d x y ts
 | .builtin .max,[x,y],ts,some d=>.mx d x y ts
 | .builtin .append,[x,y],[t,u],d=>.ap d t u x y
 | .builtin .copy,[x,y],[t,u],d=>.cp d t u x y
 | _,_,_,_=>.op d (.call c)
def opW (D:cc) (d:Nat) (bo:Bool):Op->I
 | .move x=>.mv d x
 | .assign x=>.as d x
 | .pick c a b=>.pk d c a b
 | .alloc t=>.al d t
 | .box t x=>.bx d t x
 | .load t (.global g)=>.lz d t g
 | .load t x=>.ld d t x
 | .fieldAddr t x f=>.fa d t x f
 | .extract x i=>.ex d x i
 | .nilCheck x=>.nc d x
 | .binOp b t x y u=>.bn d b t x y u
 | .unOp b t x=>.un d b t x
 | .convert s t x=>match zU s D.str&&zU t D.YS with
  | true=>.sb d s t x
  | false=>.cv d s t x
 | .indexAddr t x y=>.ia d t x y
 | .index t x y=>.ix d t x y
 | .field t x f=>.fd d t x f
 | .slice t x a b c=>.sl d t x a b c
 | .build t ps=>.bd d t ps.toList
 | .buildSlice t n ps=>match bo with
  | true=>.bo d t n ps.toList
  | false=>.bs d t n ps.toList
 | .makeSlice t x y=>.ms d t x y
 | .makeFunc (.func f) a b=>match a.toList,b.toList with
  | [x],[]=>.mf d f x
  | _,_=>.op (some d) (.makeFunc (.func f) a b)
 | .makeMap t none=>.mk d t
 | .lookup t x k ok=>.lu d t x k ok
 | o=>.op (some d) o
def word (D:cc) (bo:Bool) (d:Option Nat) (o:Op):I:=
 match o,d with
 | .store t a x,none=>.st t a x
 | .call c,d=>afz D d c
 | .mapUpdate t m k x,none=>.mu t m k x
 | o,some d=>opW D d bo o
 | o,none=>.op none o
def Tf (ops:List Oper) (j:Nat):Nat:=match ops[j]? with
 | some o=>o.dst.getD 0
 | none=>0
def AZ (D:cc) (ops:List Oper) (As:List Nat):Nat->List Oper->List J
 | _,[]=>[]
 | i,o::r=>(match o.guard with
  | none=>J.p (word D (zU i As) o.dst o.op)
  | some (j,w)=>J.g (Tf ops j) w (word D (zU i As) o.dst o.op))::AZ D ops As (i+1) r
def tmpsOf:List Operand->List Nat->List Nat
 | [],m=>m
 | .tmp t::l,m=>tmpsOf l (zE t m)
 | _::l,m=>tmpsOf l m
def RX (ops:List Oper):List Oper->List Nat->List Nat
 | [],m=>m
 | o::r,m=>rM (RX ops r m) fun m=>
  let m:=match o.dst with
   | some d=>pY d m
   | none=>m
  let m:=tmpsOf o.op.operands.toList m
  match o.guard with
  | some (j,_)=>zE (Tf ops j) m
  | none=>m
def TN (id:Nat):List (Nat × List Nat)->List Nat
 | []=>[]
 | (i,m)::r=>match Nat.beq i id with
  | true=>m
  | false=>TN id r
def acd:I->Nat
 | .mv ..|.as ..|.pk ..|.fa ..|.ex ..|.nc ..|.bn ..|.un ..|.ln ..|.mn ..|.mx ..|.ix ..|.fd ..|.sl ..|.bd ..|.bo ..=>1
 | .ld ..|.ia ..|.cv ..=>2
 | .bs ..=>3
 | _=>0
def iOf:J->I
 | .p i=>i
 | .g _ _ i=>i
def Av (s i:Nat):Bool:=Nat.beq (Nat.land (Nat.shiftRight s i) 1) 1
def zb (a i:Nat):Nat:=Nat.land (Nat.shiftRight a (Nat.mul i 256)) (Nat.sub (Nat.pow 2 256) 1)
def Ko (ks i:Nat):Nat:=Nat.land (Nat.shiftRight ks (Nat.mul i 2)) 3
def Jy:List J->Nat
 | []=>0
 | j::l=>Nat.add (acd (iOf j)) (Nat.mul 4 (Jy l))
def Rl:List Nat->Nat
 | []=>0
 | j::l=>Nat.lor (Nat.shiftLeft 1 j) (Rl l)
def Qx:List (List Nat)->Nat
 | []=>0
 | a::l=>Nat.lor (Rl a) (Nat.shiftLeft (Qx l) 256)
def QD (acc:Nat):List Nat->Nat
 | []=>0
 | j::a=>Nat.lor (Nat.lor (Nat.shiftLeft 1 j) (zb acc j)) (QD acc a)
def Ws:Nat->Nat->List (List Nat)->Nat
 | _,acc,[]=>acc
 | i,acc,a::r=>qL (Nat.lor acc (Nat.shiftLeft (QD acc a) (Nat.mul i 256))) fun acc=>qL (Nat.add i 1) fun i=>Ws i acc r
def Nc (s:Nat):List Nat->List Nat
 | []=>[]
 | i::r=>match Av s i with
  | true=>i::Nc s r
  | false=>Nc s r
def OB (a:Nat) (all:List Nat):List Nat->List (List Nat)
 | []=>[]
 | i::r=>(qL (zb a i) fun s=>Nc s all)::OB a all r
def PU (af done i:Nat):Bool:=match Av done i with
 | true=>false
 | false=>qL (zb af i) fun s=>Nat.beq (Nat.land s done) s
def Qe (ks i:Nat):Bool:=match Ko ks i with
 | 1=>true
 | 2=>true
 | _=>false
def LU (ks af done:Nat):List Nat->Option Nat
 | []=>none
 | i::r=>match Qe ks i with
  | false=>LU ks af done r
  | true=>match PU af done i with
   | true=>some i
   | false=>LU ks af done r
def Jh (af done:Nat):List Nat->List Nat
 | []=>[]
 | i::r=>match PU af done i with
  | true=>i::Jh af done r
  | false=>Jh af done r
def Ji (ks done an:Nat):List Nat->List Nat
 | []=>[]
 | k::r=>match Av done k,Nat.beq (Ko ks k) 2,Av an k with
  | true,true,false=>k::Ji ks done an r
  | _,_,_=>Ji ks done an r
def QC:List DT->DT
 | []=>.nil
 | [t]=>t
 | t::r=>.or t (QC r)
def IJ (ks:Nat) (all:List Nat) (dS af:Nat):Nat->Nat->DT
 | 0,_=>.nil
 | n+1,done=>match LU ks af done all with
  | some p=>qL (Nat.lor done (Nat.shiftLeft 1 p)) fun done=>.pu p (IJ ks all dS af n done)
  | none=>QC ((Jh af done all).map fun e=>qL (zb dS e) fun an=>.ef e (Ji ks done an all) (qL (Nat.lor done (Nat.shiftLeft 1 e)) fun done=>IJ ks all dS af n done))
def drW (D:cc) (ops:List Oper):SC J:=
 Tx (ops.map wM) fun Nu=>rM (OA ops.length []) fun all=>qL (Qx Nu) fun af=>qL (Ws 0 0 Nu) fun dS=>qL (Jy (AZ D ops [] 0 ops)) fun ks=>
 rM (all.filter fun i=>!Qe ks i) fun T0=>
 rM (T0.filter fun i=>Nat.beq (Ko ks i) 3&&T0.any fun j=>!Nat.beq i j&&!Av (zb dS i) j&&!Av (zb dS j) i) fun As=>
 qL (Jy (AZ D ops As 0 ops)) fun ks=>.dr (IJ ks all dS af ops.length 0) (OB dS all all) (AZ D ops As 0 ops) Nu
def Af:Code->Bool
 | .ret=>true
 | .exit _=>true
 | .seq a b=>Af a||Af b
 | .cond _ a b=>Af a&&Af b
 | _=>false
def acK:Code->Bool
 | .seq _ (.cond _ a b)=>!Af a&&!Af b
 | _=>false
def R6:List J->Option (List J × Nat × Nat × Operand)
 | []=>none
 | [.p (.op (some it) (.range ty x))]=>some ([],it,ty,x)
 | j::l=>match R6 l with
  | some (pre,r)=>some (j::pre,r)
  | none=>none
def Y4 (D:cc) (ct:Bool) (ks:List Nat) (a b:SC J):SC J:=
 match a,b with
 | .mJ l,.block id (.lp ms (.sq k1 (.mJ [.p (.op (some tn) (.next n s)),.p (.ex tb y z)]) (.sq k2 (.cond c .skip (.exit e)) body)))=>match R6 l with
  | some (pre,it,ty,x)=>match zU ty D.str with
   | true=>.qZ id pre it ty x tn tb body
   | false=>.sq ks a b
  | none=>.sq ks a b
 | a,b=>match ct with
  | true=>.ct a b
  | false=>.sq ks a b
def JA:DT->Bool
 | .nil=>false
 | .pu _ t=>JA t
 | .ef _ _ t=>JA t
 | .or _ _=>true
def orC:SC J->Bool
 | .dr t _ _ _=>JA t
 | _=>false
def LS (f:List Nat->List Nat):Nat->List Nat->List Nat
 | 0,m=>m
 | n+1,m=>rM (f m) fun m2=>match Pq m2 m with
  | true=>m
  | false=>rM (IG m2 m) fun m=>LS f n m
def vj (ret:List Nat):Code->List Nat->List (Nat × List Nat)->List Nat
 | .skip,out,ex=>out
 | .ret,out,ex=>ret
 | .exit id,out,ex=>TN id ex
 | .seq a b,out,ex=>rM (vj ret b out ex) fun m=>vj ret a m ex
 | .cond c a b,out,ex=>tmpsOf [c] (IG (vj ret a out ex) (vj ret b out ex))
 | .block id c,out,ex=>vj ret c out ((id,out)::ex)
 | .loop c,out,ex=>LS (fun m=>vj ret c m ex) 5 []
 | .region _ ops _,out,ex=>RX ops.toList ops.toList out
 | _,out,ex=>out
def vZ (D:cc) (ct:Bool) (ret:List Nat):Code->List Nat->List (Nat × List Nat)->SC J
 | .skip,_,_=>.skip
 | .ret,_,_=>.ret
 | .exit id,_,_=>.exit id
 | .seq a b,out,ex=>
  rM (vj ret b out ex) fun m=>Y4 D ((ct&&acK a)||(D.oc&&orC (vZ D ct ret a m ex))) m (vZ D ct ret a m ex) (vZ D ct ret b out ex)
 | .cond c a b,out,ex=>.cond c (vZ D ct ret a out ex) (vZ D ct ret b out ex)
 | .block id c,out,ex=>.block id (vZ D ct ret c out ((id,out)::ex))
 | .loop c,out,ex=>
  rM (LS (fun m=>vj ret c m ex) 5 []) fun m=>.lp m (vZ D ct ret c m ex)
 | .region _ ops false,out,ex=>.mJ (AZ D ops.toList [] 0 ops.toList)
 | .region _ ops true,out,ex=>drW D ops.toList
 | _,_,_=>.bad
def EX:List ResultVar->List Nat->List Nat
 | [],m=>m
 | .tmp t::r,m=>EX r (zE t m)
 | .cell t _::r,m=>EX r (zE t m)
def Ua (D:cc) (ct:Bool) (f:Func):SC J:=match f.body with
 | some c=>vZ D ct (EX f.results.toList []) c (EX f.results.toList []) []
 | none=>.bad
end
section
open Go Go.RowKit
set_option linter.unusedVariables false
theorem za:∀{c:Code}{A B:SC SO},strip c=.seq A B->∃a b,c=.seq a b/\strip a=A/\strip b=B
 | .seq a b,A,B,h=>by cases h;exact⟨a,b,rfl,rfl,rfl⟩
 | .region _ ops d,A,B,h=>by cases d<;>cases h
 | .skip,A,B,h|.ret,A,B,h|.exit _,A,B,h|.cond ..,A,B,h|.block ..,A,B,h|.loop _,A,B,h|.rangeFunc ..,A,B,h|.scope _,A,B,h|.label _,A,B,h|.goto _,A,B,h|.refuse _,A,B,h=>by cases h
theorem ON:∀{c:Code}{L:List SO},strip c=.mJ L->∃i ops,c=.region i ops false/\ka ops ops.toList=L
 | .region i ops d,L,h=>by
  cases d with
  | true=>cases h
  | false=>cases h;exact⟨i,ops,rfl,rfl⟩
 | .seq ..,L,h|.skip,L,h|.ret,L,h|.exit _,L,h|.cond ..,L,h|.block ..,L,h|.loop _,L,h|.rangeFunc ..,L,h|.scope _,L,h|.label _,L,h|.goto _,L,h|.refuse _,L,h=>by cases h
theorem YA:∀{c:Code}{id:Nat}{A:SC SO},strip c=.block id A->∃a,c=.block id a/\strip a=A
 | .block _ a,id,A,h=>by cases h;exact⟨a,rfl,rfl⟩
 | .region _ ops d,id,A,h=>by cases d<;>cases h
 | .seq ..,id,A,h|.skip,id,A,h|.ret,id,A,h|.exit _,id,A,h|.cond ..,id,A,h|.loop _,id,A,h|.rangeFunc ..,id,A,h|.scope _,id,A,h|.label _,id,A,h|.goto _,id,A,h|.refuse _,id,A,h=>by cases h
theorem Yx:∀{c:Code}{A:SC SO},strip c=.loop A->∃a,c=.loop a/\strip a=A
 | .loop a,A,h=>by cases h;exact⟨a,rfl,rfl⟩
 | .region _ ops d,A,h=>by cases d<;>cases h
 | .seq ..,A,h|.skip,A,h|.ret,A,h|.exit _,A,h|.cond ..,A,h|.block ..,A,h|.rangeFunc ..,A,h|.scope _,A,h|.label _,A,h|.goto _,A,h|.refuse _,A,h=>by cases h
theorem Yz:∀{c:Code}{x:Operand}{A B:SC SO},strip c=.cond x A B->∃a b,c=.cond x a b/\strip a=A/\strip b=B
 | .cond _ a b,x,A,B,h=>by cases h;exact⟨a,b,rfl,rfl,rfl⟩
 | .region _ ops d,x,A,B,h=>by cases d<;>cases h
 | .seq ..,x,A,B,h|.skip,x,A,B,h|.ret,x,A,B,h|.exit _,x,A,B,h|.block ..,x,A,B,h|.loop _,x,A,B,h|.rangeFunc ..,x,A,B,h|.scope _,x,A,B,h|.label _,x,A,B,h|.goto _,x,A,B,h|.refuse _,x,A,B,h=>by cases h
theorem Yw:∀{c:Code},strip c=.skip->c=.skip
 | .skip,h=>rfl
 | .region _ ops d,h=>by cases d<;>cases h
 | .seq ..,h|.ret,h|.exit _,h|.cond ..,h|.block ..,h|.loop _,h|.rangeFunc ..,h|.scope _,h|.label _,h|.goto _,h|.refuse _,h=>by cases h
theorem Yy:∀{c:Code}{id:Nat},strip c=.exit id->c=.exit id
 | .exit _,id,h=>by cases h;rfl
 | .region _ ops d,id,h=>by cases d<;>cases h
 | .seq ..,id,h|.ret,id,h|.skip,id,h|.cond ..,id,h|.block ..,id,h|.loop _,id,h|.rangeFunc ..,id,h|.scope _,id,h|.label _,id,h|.goto _,id,h|.refuse _,id,h=>by cases h
theorem O7 {ops:Array Oper}:∀{l:List Oper}{A B:List SO},ka ops l=A++B->∃a b,l=a++b/\ka ops a=A/\ka ops b=B
 | l,[],B,h=>⟨[],l,rfl,rfl,h⟩
 | [],x::A,B,h=>by cases h
 | o::l,x::A,B,h=>by
  simp only[ka,List.cons_append,List.cons.injEq]at h;obtain⟨a,b,h1,h2,h3⟩:=O7 h.2;exact⟨o::a,b,by rw[h1];rfl,by simp only[ka,h2,h.1],h3⟩
theorem IZ {ops:Array Oper}{o:Oper}{d:Option Nat}{p:Op}(h:so ops o=⟨d,p,none⟩) (hp:q6 ⟨d,p,none⟩=true):o.op=p/\o.dst=d/\o.guard=none:=by
 unfold so at h;split at h
 ·rename_i hg;cases h;exact⟨rfl,rfl,hg⟩
 split at h
 ·cases h
 cases h;cases hp
theorem Yi {P:Program}{t:Nat}(h:tk P t=some .string):P.underlying t=some .string:=by
 obtain⟨i,hi,hk⟩:=j8 h;obtain⟨dm,h1,h2,-⟩:=nq hi;rw[hk]at h2;cases dm<;>simp[la]at h2;exact h1
theorem nZ {P:Program}(hf:P.follows .mixedOrders=true):∀(c:SC J) {s:St}{Q Q':Exit->St->Prop},kL c=true->(∀e s,Q e s->Q' e s)->jv P c s Q->sv P (fx c) s Q'
 | .skip,s,Q,Q',hd,h,hk=>h _ _ hk
 | .ret,s,Q,Q',hd,h,hk=>h _ _ hk
 | .exit id,s,Q,Q',hd,h,hk=>h _ _ hk
 | .seq a b,s,Q,Q',hd,h,hk=>.inl (nZ hf a (Bool.and_eq_true_iff.1 hd).1 (fun e s hs=>by
   cases e with
   | normal=>exact⟨s,.refl s,nZ hf b (Bool.and_eq_true_iff.1 hd).2 h hs⟩
   | _=>exact h _ _ hs) hk)
 | .sq ks a b,s,Q,Q',hd,h,hk=>.inl (nZ hf a (Bool.and_eq_true_iff.1 hd).1 (fun e s hs=>by
   cases e with
   | normal=>exact⟨_,.oU ks s,nZ hf b (Bool.and_eq_true_iff.1 hd).2 h hs⟩
   | _=>exact h _ _ hs) hk)
 | .ct a b,s,Q,Q',hd,h,hk=>.inl (nZ hf a (Bool.and_eq_true_iff.1 hd).1 (fun e s hs=>by
   cases e with
   | normal=>
    obtain⟨eO,hw,hs⟩:=hs;exact⟨eO,hw,nZ hf b (Bool.and_eq_true_iff.1 hd).2 h hs⟩
   | _=>exact h _ _ hs) hk)
 | .cond c x y,⟨n,tm,σ,G⟩,Q,Q',hd,h,hk=>by
  simp only[jv]at hk;simp only[fx,sv,Dg];split at hk
  ·rename_i b hb;cases b with
   | true=>exact nZ hf x (Bool.and_eq_true_iff.1 hd).1 h hk
   | false=>exact nZ hf y (Bool.and_eq_true_iff.1 hd).2 h hk
  cases hk
 | .block id c,s,Q,Q',hd,h,hk=>nZ hf c hd (fun e s hs=>by
   cases e with
   | exit kq=>
    simp only[jK]at hs ⊢;split at hs
    ·exact h _ _ hs
    exact h _ _ hs
   | _=>exact h _ _ hs) hk
 | .loop c,s,Q,Q',hd,h,hk=>by
  obtain⟨I,n,s1,h1,h2,h3⟩:=hk;exact⟨I,n,s1,h1,h2,fun m s2 hI=>nZ hf c hd (fun e s hs=>by
   cases e with
   | normal=>exact hs
   | _=>exact h _ _ hs) (h3 m s2 hI)⟩
 | .lp ks c,s,Q,Q',hd,h,hk=>by
  obtain⟨I,n,s1,h1,h2,h3⟩:=hk;exact⟨I,n,s1,h1,h2,fun m s2 hI=>nZ hf c hd (fun e s hs=>by
   cases e with
   | normal=>exact hs
   | _=>exact h _ _ hs) (h3 m s2 hI)⟩
 | .mJ l,s,Q,Q',hd,h,hk=>I7 (fun s hs=>h _ _ hs) (Cc l s _ hk)
 | .dr t dS l af,s,Q,Q',hd,h,hk=>⟨hf,t,dS,hd,wX (fun s hs=>h _ _ hs) (vn l t s _ hk)⟩
 | .qZ id l it ty x tn tb b,s,Q,Q',hd,h,hk=>by
  refine .inr fun c hc=>?_
  obtain⟨Cj,hk⟩:=hk;obtain⟨a,b',rfl,ha,kJ⟩:=za hc;obtain⟨i1,sC,rfl,h1⟩:=ON ha;obtain⟨c1,rfl,ku⟩:=YA kJ;obtain⟨c2,rfl,ye⟩:=Yx ku;obtain⟨c3,c4,rfl,h20,hb4⟩:=za ye;obtain⟨i2,sB,rfl,h2⟩:=ON h20;obtain⟨c5,body,rfl,h3,hb⟩:=za hb4;obtain⟨c6,c7,rfl,h4,h5⟩:=Yz h3;obtain rfl:=Yw h4;obtain rfl:=Yy h5;obtain⟨pre,last,e1,h6,h7⟩:=O7 h1;obtain⟨oR,l8,rfl,h8⟩:∃oR l8,last=oR::l8/\ka sC last=so sC oR::ka sC l8:=by
   cases last with
   | nil=>cases h7
   | cons o l=>exact⟨o,l,rfl,rfl⟩
  rw[h8]at h7;simp only[List.cons.injEq]at h7;have SJ:l8=[]:=by
   cases l8 with
   | nil=>rfl
   | cons o l=>cases h7.2
  subst SJ;obtain⟨oN,oE,e2,hN,hE⟩:∃oN oE,sB.toList=[oN,oE]/\so sB oN=⟨some tn,.next (.tmp it) true,none⟩/\so sB oE=⟨some tb,.extract (.tmp tn) 0,none⟩:=by
   cases hl:sB.toList with
   | nil=>rw[hl]at h2;cases h2
   | cons o1 l=>
    rw[hl]at h2;cases l with
    | nil=>simp[ka]at h2
    | cons o2 l=>
     cases l with
     | nil=>
      simp only[ka,List.cons.injEq]at h2;exact⟨o1,o2,rfl,h2.1,h2.2.1⟩
     | cons o3 l=>simp[ka]at h2
  refine Zd e1 (IZ h7.1 rfl) e2 (IZ hN rfl) (IZ hE rfl) (Yi Cj) ?_;refine I6 ?_ (h6▸Cc l s _ hk);rintro⟨n,tm,σ,G⟩ ⟨str,hx,CB,hI⟩;refine⟨str,by rw[Dg];exact hx,CB,fun r=>?_⟩;obtain⟨I,s2,hw,h0,hr⟩:=hI r;refine⟨I,s2,hw,h0,fun pos s3 hp=>⟨(hr pos s3 hp).1,fun ab=>?_,fun ab=>h _ _ ((hr pos s3 hp).2.2 ab)⟩⟩;obtain⟨c,GK,rH⟩:=(hr pos s3 hp).2.1 ab;refine⟨c,GK,qY body (fun _ _ h=>h) (hb▸nZ hf b hd (fun e s hs=>?_) rH)⟩;cases e with
  | normal=>exact hs
  | exit kq=>
   simp only[gl,jK]at hs ⊢;split at hs
   ·exact h _ _ hs
   exact h _ _ hs
  | _=>exact h _ _ hs
 | .bad,s,Q,Q',hd,h,hk=>by cases hk
def D6 (P:Program) (rs:List ResultVar) (s:St) (res:AV) (rf:List (List Nat × Row)):Prop:=
 match tu P s rs with
 | some vs=>Ic res rf (ny (uP res vs) vs s.σ s.G)
 | none=>False
def Bq (P:Program) (rs:List ResultVar) (res:AV) (rf:List (List Nat × Row)):Exit->St->Prop
 | .ret,s=>D6 P rs s res rf
 | .normal,s=>D6 P rs s res rf
 | _,_=>False
def Ec (P:Program) (n:Nat) (c:SC J) (N:Nat) (rs:List ResultVar):Prop:=
 ∃fn:Func,P.funcs[n]?=some fn/\fn.body.map strip=some (fx c)/\(fn.name== "runtime.NumGoroutine")=false/\fn.ntmps=N/\fn.results.toList=rs/\P.follows .mixedOrders=true/\kL c=true
theorem HQ {P:Program}{n:Nat}{fn:Func}{c:SC J}{N:Nat}{rs:List ResultVar}
  (h:(P.funcs[n]?,fn.body.map strip,fn.name== "runtime.NumGoroutine",fn.ntmps,fn.results.toList,P.follows .mixedOrders)=(some fn,some (fx c),false,N,rs,true)) (hd:kL c=true):Ec P n c N rs:=by
 simp only[Prod.mk.injEq]at h;exact⟨fn,h.1,h.2.1,h.2.2.1,h.2.2.2.1,h.2.2.2.2.1,h.2.2.2.2.2,hd⟩
abbrev yK (_:SC J) (G:Prop):Prop:=G
theorem aF {G:Prop}(D:cc) (ct:Bool) (fn:Func) (h:yK (Ua D ct fn) G):G:=h
theorem afB {P:Program}{n:Nat}{c:SC J}{N:Nat}{rs:List ResultVar}(hb:Ec P n c N rs)
  {args:List AV} {res:AV} {rf:List (List Nat × Row)} (hlen:Nat.ble args.length N=true) (hv:jv P c ⟨N,mB 0 args,[],0⟩ (Bq P rs res rf)):ba P n args res rf:=by
 obtain⟨fn,hf,hb,hn,rfl,rfl,pO,hd⟩:=hb;cases m6:fn.body with
 | none=>rw[m6]at hb;cases hb
 | some code=>
  rw[m6]at hb;have e:strip code=fx c:=Option.some.inj hb;have hq:∀e s,Bq P fn.results.toList res rf e s->PM P fn res rf e s:=by
   intro e s h;cases e<;>exact h
  exact afA hf m6 hn (Nat.le_of_ble_eq_true hlen) (qY code (fun _ _ h=>h) (e▸nZ pO c hd hq hv))
def Bp (P:Program) (rs:List ResultVar) (res:AV) (σout:ak):Exit->St->Prop
 | .ret,s=>mG P rs s res σout
 | .normal,s=>mG P rs s res σout
 | _,_=>False
theorem afD {P:Program}{n:Nat}{c:SC J}{N:Nat}{rs:List ResultVar}(hb:Ec P n c N rs)
  {σin:ak} {args:List AV} {res:AV} {σout:ak} (hlen:Nat.ble args.length N=true) (hv:jv P c ⟨N,mB 0 args,σin,1⟩ (Bp P rs res σout)):aY P n σin args res σout:=by
 obtain⟨fn,hf,hb,hn,rfl,rfl,pO,hd⟩:=hb;cases m6:fn.body with
 | none=>rw[m6]at hb;cases hb
 | some code=>
  rw[m6]at hb;have e:strip code=fx c:=Option.some.inj hb;exact Ms hf m6 hn (Nat.le_of_ble_eq_true hlen) (qY code (fun _ _ h=>h) (e▸nZ pO c hd (fun e s h=>by
   cases e<;>exact h) hv))
theorem Zr {P:Program}{rs:List ResultVar}{res:AV}{σout:ak}{s:St}:Bp P rs res σout .ret s=mG P rs s res σout:=rfl
theorem Zs {P:Program}{rs:List ResultVar}{res:AV}{σout:ak}{s:St}:Bp P rs res σout .normal s=mG P rs s res σout:=rfl
theorem bu {P:Program}{n:Nat}{c:SC J}(fn:Func) (N:Nat) (rs:List ResultVar) {args:List AV}{res:AV}{rf:List (List Nat × Row)}
  (h:(P.funcs[n]?,fn.body.map strip,fn.name== "runtime.NumGoroutine",fn.ntmps,fn.results.toList,P.follows .mixedOrders)=(some fn,some (fx c),false,N,rs,true)) (hd:kL c=true) (hlen:Nat.ble args.length N=true)
  (hv:jv P c ⟨N,mB 0 args,[],0⟩ (Bq P rs res rf)):yK c (ba P n args res rf):=afB (HQ h hd) hlen hv
theorem bI {P:Program}{n:Nat}{c:SC J}(fn:Func) (N:Nat) (rs:List ResultVar) {σin:ak}{args:List AV}{res:AV}{σout:ak}
  (h:(P.funcs[n]?,fn.body.map strip,fn.name== "runtime.NumGoroutine",fn.ntmps,fn.results.toList,P.follows .mixedOrders)=(some fn,some (fx c),false,N,rs,true)) (hd:kL c=true) (hlen:Nat.ble args.length N=true)
  (hv:jv P c ⟨N,mB 0 args,σin,1⟩ (Bp P rs res σout)):yK c (aY P n σin args res σout):=afD (HQ h hd) hlen hv
def W5 (P:Program) (b:SC J) (Q:Exit->St->Prop) (s:St):Prop:=jv P b s Q
def NO (P:Program) (l:List J) (Q:St->Prop) (s:St):Prop:=oV P l s Q
def vY (P:Program) (a b:SC J) (s:St) (Q:Exit->St->Prop) (v:AV):Prop:=match v with
 | .sc (.bool c)=>Br c (jv P a s Q) (jv P b s Q)
 | _=>False
theorem bX {P:Program}{a b:SC J}{s:St}{Q:Exit->St->Prop}{c:Bool}(h:c=true->jv P a s Q) (k:c=false->jv P b s Q):vY P a b s Q (.sc (.bool c)):=aiy h k
section
variable {P:Program}{n G:Nat}{tm:List (Nat × AV)}{σ:ak}{Q:Exit->St->Prop}{K:St->Prop}{d t f i id:Nat}{x y z:Operand}{l:List J}{w:Bool}{s:St}{a b:SC J}
theorem aT:vY P a b s Q (.sc (.bool true))=jv P a s Q:=rfl
theorem aV:vY P a b s Q (.sc (.bool false))=jv P b s Q:=rfl
theorem eC {i:I}:g9 P n tm σ G t true i K (.sc (.bool true))=dD P i ⟨n,tm,σ,G⟩ K:=rfl
theorem bW {i:I}:g9 P n tm σ G t false i K (.sc (.bool false))=dD P i ⟨n,tm,σ,G⟩ K:=rfl
theorem eD {i:I}:g9 P n tm σ G t true i K (.sc (.bool false))=rn i ⟨n,tm,σ,G⟩ K:=rfl
theorem fg {i:I}:g9 P n tm σ G t false i K (.sc (.bool true))=rn i ⟨n,tm,σ,G⟩ K:=rfl
theorem adK {i:I}:g9 P n tm σ G t w i K (.aZ [])=rn i ⟨n,tm,σ,G⟩ K:=rfl
theorem fv {i:I}{c:Bool}(h:c=true->g9 P n tm σ G t w i K (.sc (.bool true))) (k:c=false->g9 P n tm σ G t w i K (.sc (.bool false))):g9 P n tm σ G t w i K (.sc (.bool c)):=by
 cases c with
 | true=>exact h rfl
 | false=>exact k rfl
theorem aio:W5 P b Q ⟨n,tm,σ,G⟩=jv P b ⟨n,tm,σ,G⟩ Q:=rfl
theorem aiq:NO P l K ⟨n,tm,σ,G⟩=oV P l ⟨n,tm,σ,G⟩ K:=rfl
theorem acn:jv P .skip s Q=Q .normal s:=rfl
theorem acq:jv P .ret s Q=Q .ret s:=rfl
theorem acs:jv P (.exit id) s Q=Q (.exit id) s:=rfl
theorem aco:jv P (.seq a b) s Q=jv P a s (gl Q (W5 P b Q)):=rfl
theorem acw:jv P (.block id a) s Q=jv P a s (jK id Q):=rfl
theorem acv:jv P (.cond x a b) ⟨n,tm,σ,G⟩ Q=vY P a b ⟨n,tm,σ,G⟩ Q (cI tm x):=rfl
theorem acr:jv P (.mJ l) s Q=oV P l s (Norm Q):=rfl
theorem acF:oV P [] s K=K s:=rfl
theorem acE {i:I}:oV P (.p i::l) s K=dD P i s (NO P l K):=rfl
theorem acG {i:I}:oV P (.g t w i::l) ⟨n,tm,σ,G⟩ K=g9 P n tm σ G t w i (NO P l K) (fI tm t):=rfl
def W6 (P:Program) (l:List J) (t:DT) (K:St->Prop) (s:St):Prop:=jT P l t s K
def W7 (P:Program) (l:List J) (rc:List Nat) (tm:List (Nat × AV)) (σ:ak) (t:DT) (K:St->Prop) (s:St):Prop:=wW P l tm σ s.σ rc/\jT P l t s K
def Kq (P:Program) (n:Nat) (tm:List (Nat × AV)) (σ:ak) (G:Nat) (K:St->Prop):Option J->Prop
 | some (.p j)=>(vp j=true/\iO j.so.o=true)/\dD P j ⟨n,tm,σ,G⟩ K
 | some (.g u w j)=>(vp j=true/\iO j.so.o=true)/\g9 P n tm σ G u w j K (fI tm u)
 | none=>False
def Kr (P:Program) (n:Nat) (tm:List (Nat × AV)) (σ:ak) (G:Nat) (K:St->Prop):Option J->Prop
 | some (.p j)=>dD P j ⟨n,tm,σ,G⟩ K
 | some (.g u w j)=>g9 P n tm σ G u w j K (fI tm u)
 | none=>False
theorem aip {t:DT}:W6 P l t K ⟨n,tm,σ,G⟩=jT P l t ⟨n,tm,σ,G⟩ K:=rfl
theorem air {t:DT}{rc:List Nat}{OI:List (Nat × AV)}{σ0:ak}:W7 P l rc OI σ0 t K ⟨n,tm,σ,G⟩=(wW P l OI σ0 σ rc/\jT P l t ⟨n,tm,σ,G⟩ K):=rfl
theorem acu {t:DT}{dS af:List (List Nat)}:jv P (.dr t dS l af) s Q=jT P l t s (Norm Q):=rfl
theorem acA:jT P l .nil s K=K s:=rfl
theorem acy {t:DT}:jT P l (.pu i t) ⟨n,tm,σ,G⟩ K=Kq P n tm σ G (W6 P l t K) (oM l i):=by
 rw[jT];cases h:oM l i with
 | none=>rfl
 | some j=>cases j<;>rfl
theorem acB {t:DT}{rc:List Nat}:jT P l (.ef i rc t) ⟨n,tm,σ,G⟩ K=Kr P n tm σ G (W7 P l rc tm σ t K) (oM l i):=by
 rw[jT];cases h:oM l i with
 | none=>rfl
 | some j=>cases j<;>rfl
theorem Si {a b:DT}:jT P l (.or a b) s K=(jT P l a s K/\jT P l b s K):=rfl
theorem acC {i:I}:Kq P n tm σ G K (some (.p i))=((vp i=true/\iO i.so.o=true)/\dD P i ⟨n,tm,σ,G⟩ K):=rfl
theorem acD {i:I}:Kq P n tm σ G K (some (.g t w i))=((vp i=true/\iO i.so.o=true)/\g9 P n tm σ G t w i K (fI tm t)):=rfl
theorem acH {i:I}:Kr P n tm σ G K (some (.p i))=dD P i ⟨n,tm,σ,G⟩ K:=rfl
theorem acI {i:I}:Kr P n tm σ G K (some (.g t w i))=g9 P n tm σ G t w i K (fI tm t):=rfl
theorem Yk {K:St->Prop}:gl Q K .normal s=K s:=rfl
theorem Yj {K:St->Prop}:gl Q K .ret s=Q .ret s:=rfl
theorem Yl {K:St->Prop}:gl Q K (.exit id) s=Q (.exit id) s:=rfl
theorem ahz:jK id Q .normal s=Q .normal s:=rfl
theorem ahy:jK id Q .ret s=Q .ret s:=rfl
theorem ahA {kq:Nat}:jK id Q (.exit kq) s=Br (kq==id) (Q .normal s) (Q (.exit kq) s):=by
 cases h:kq==id<;>simp[jK,h,Br]
theorem Zj {rs:List ResultVar}{res:AV}{rf:List (List Nat × Row)}:Bq P rs res rf .ret s=D6 P rs s res rf:=rfl
theorem Zk {rs:List ResultVar}{res:AV}{rf:List (List Nat × Row)}:Bq P rs res rf .normal s=D6 P rs s res rf:=rfl
theorem M8 {X:Prop}:Br (Nat.blt d n) X False=if d<n then X else False:=by
 by_cases h:d<n
 ·rw[if_pos h,show Nat.blt d n=true from Nat.ble_eq_true_of_le h];rfl
 rw[if_neg h];cases hb:Nat.blt d n with
 | false=>rfl
 | true=>exact absurd (Nat.le_of_ble_eq_true hb) h
theorem aal {v:AV}:jl n d tm σ G K v=if d<n then K ⟨n,(d,v)::tm,σ,G⟩ else False:=M8
theorem aan {v:AV}{σ':ak}:tP n d tm G K (v,σ')=if d<n then K ⟨n,(d,v)::tm,σ',G+1⟩ else False:=M8
theorem put_eq {v:AV}:put ⟨n,tm,σ,G⟩ (some d) v σ false K=if d<n then K ⟨n,(d,v)::tm,σ,G⟩ else False:=by rw[aah];exact M8
theorem aak {v:AV}{σ':ak}:put ⟨n,tm,σ,G⟩ none v σ' false K=K ⟨n,tm,σ',G⟩:=rfl
theorem aaj {v:AV}{σ':ak}:put ⟨n,tm,σ,G⟩ none v σ' true K=K ⟨n,tm,σ',G+1⟩:=rfl
theorem aam {σ':ak}:Fg n tm G K σ'=K ⟨n,tm,σ',G⟩:=rfl
theorem XC {d:Option Nat}{qT:List AV}{σ':ak}:Iu P n d tm σ G f K (σ',qT)=aq P f qT (Eb ⟨n,tm,σ,G⟩ d K σ'):=rfl
theorem afF {res:AV}{σ':ak}{rf:List (List Nat × Row)}:Eb ⟨n,tm,σ,G⟩ (some d) K σ' res rf=(Bs rf=true/\tP n d tm G K (nm d G res,nP σ' d G rf)):=by
 have h:put ⟨n,tm,σ,G⟩ (some d) (nm d G res) (nP σ' d G rf) true K=tP n d tm G K (nm d G res,nP σ' d G rf):=Jn;show(_/\put ⟨n,tm,σ,G⟩ (some d) (nm d G res) (nP σ' d G rf) true K)=_
 rw[h]
theorem afE {res:AV}{σ':ak}{rf:List (List Nat × Row)}:Eb ⟨n,tm,σ,G⟩ none K σ' res rf=(Bs rf=true/\Fg n tm (G+1) K (nP σ' 0 G rf)):=rfl
def W4 (P:Program) (ks:List Nat) (b:SC J) (Q:Exit->St->Prop) (s:St):Prop:=jv P b (Gc ks s) Q
theorem ain {ks:List Nat}:W4 P ks b Q ⟨n,tm,σ,G⟩=jv P b ⟨n,qu ks tm,σ,G⟩ Q:=rfl
theorem acm {ks:List Nat}:jv P (.sq ks a b) s Q=jv P a s (gl Q (W4 P ks b Q)):=rfl
theorem aes {v:Value}:cI tm (.const v)=wu v:=rfl
theorem aer:cI tm (.func f)=.sc (.func (.func f) #[] #[]):=rfl
theorem acS {i:I}:rn i s K=put s i.so.d (.aZ []) s.σ false K:=rfl
end
theorem Ge {P:Program}:∀(l:List J) {s:St}{K K':St->Prop},(∀s,K s->K' s)->oV P l s K->oV P l s K'
 | [],_,_,_,h,hk=>h _ hk
 | .p i::l,_,_,_,h,hk=>Gi (fun s hs=>Ge l h hs) hk
 | .g t w i::l,s,K,K',h,hk=>by
  exact LG (fun s hs=>Ge l h hs) hk
theorem mi {P:Program}:∀(c:SC J) {s:St}{Q Q':Exit->St->Prop},(∀e s,Q e s->Q' e s)->jv P c s Q->jv P c s Q'
 | .skip,s,Q,Q',h,hk=>h _ _ hk
 | .ret,s,Q,Q',h,hk=>h _ _ hk
 | .exit id,s,Q,Q',h,hk=>h _ _ hk
 | .seq a b,s,Q,Q',h,hk=>mi a (fun e s hs=>by
   cases e with
   | normal=>exact mi b h hs
   | _=>exact h _ _ hs) hk
 | .sq ks a b,s,Q,Q',h,hk=>mi a (fun e s hs=>by
   cases e with
   | normal=>exact mi b h hs
   | _=>exact h _ _ hs) hk
 | .ct a b,s,Q,Q',h,hk=>mi a (fun e s hs=>by
   cases e with
   | normal=>
    obtain⟨eO,hw,hs⟩:=hs;exact⟨eO,hw,mi b h hs⟩
   | _=>exact h _ _ hs) hk
 | .cond c x y,⟨n,tm,σ,G⟩,Q,Q',h,hk=>by
  simp only[jv]at hk ⊢;split at hk
  ·rename_i b hb;cases b with
   | true=>exact mi x h hk
   | false=>exact mi y h hk
  cases hk
 | .block id c,s,Q,Q',h,hk=>mi c (fun e s hs=>by
   cases e with
   | exit kq=>
    simp only[jK]at hs ⊢;split at hs
    ·exact h _ _ hs
    exact h _ _ hs
   | _=>exact h _ _ hs) hk
 | .loop c,s,Q,Q',h,hk=>by
  obtain⟨I,n,s1,h1,h2,h3⟩:=hk;exact⟨I,n,s1,h1,h2,fun m s2 hI=>mi c (fun e s hs=>by
   cases e with
   | normal=>exact hs
   | _=>exact h _ _ hs) (h3 m s2 hI)⟩
 | .lp ks c,s,Q,Q',h,hk=>by
  obtain⟨I,n,s1,h1,h2,h3⟩:=hk;exact⟨I,n,s1,h1,h2,fun m s2 hI=>mi c (fun e s hs=>by
   cases e with
   | normal=>exact hs
   | _=>exact h _ _ hs) (h3 m s2 hI)⟩
 | .mJ l,s,Q,Q',h,hk=>Ge l (fun s hs=>h _ _ hs) hk
 | .dr _ _ l _,s,Q,Q',h,hk=>xB (l:=l) (fun s hs=>h _ _ hs) hk
 | .qZ id l it ty x tn tb b,s,Q,Q',h,hk=>by
  obtain⟨Cj,hk⟩:=hk;refine⟨Cj,Ge l ?_ hk⟩;rintro s1 ⟨str,hx,CB,hI⟩;refine⟨str,hx,CB,fun r=>?_⟩;obtain⟨I,s2,hw,h0,hr⟩:=hI r;refine⟨I,s2,hw,h0,fun pos s3 hp=>⟨(hr pos s3 hp).1,fun ab=>?_,fun ab=>h _ _ ((hr pos s3 hp).2.2 ab)⟩⟩;obtain⟨c,hd,hb⟩:=(hr pos s3 hp).2.1 ab;refine⟨c,hd,mi b (fun e s hs=>?_) hb⟩;cases e with
  | normal=>exact hs
  | exit kq=>
   simp only[gl,jK]at hs ⊢;split at hs
   ·exact h _ _ hs
   exact h _ _ hs
  | _=>exact h _ _ hs
 | .bad,s,Q,Q',h,hk=>by cases hk
def W3 (ks:List Nat) (I:Nat->St->Prop) (m:Nat) (s:St):Prop:=∃m',m'<m/\I m' (mW ks s)
theorem ail {ks:List Nat}{I:Nat->St->Prop}{m n G:Nat}{tm:List (Nat × AV)}{σ:ak}:W3 ks I m ⟨n,tm,σ,G⟩=∃m',m'<m/\I m' (mW ks ⟨n,tm,σ,G⟩):=rfl
theorem adz {ks:List Nat}{n G:Nat}{tm:List (Nat × AV)}{σ:ak}:mW ks ⟨n,tm,σ,G⟩=tl ⟨n,tm,σ,G⟩ (qu ks tm) (Mr ⟨n,tm,σ,G⟩ ks):=rfl
theorem dq {P:Program}{ks:List Nat}{c:SC J}{s:St}{Q:Exit->St->Prop}(I:Nat->St->Prop) (n:Nat) (h1:I n (mW ks s))
  (h2:∀m s2,I m s2->jv P c s2 (gl Q (W3 ks I m))):jv P (.lp ks c) s Q:=⟨I,n,_,.head ks s,h1,fun m s2 hI=>mi c (fun e s hs=>by
   cases e with
   | normal=>
    obtain⟨m',h4,h5⟩:=hs;exact⟨m',_,h4,.head ks s,h5⟩
   | _=>exact hs) (h2 m s2 hI)⟩
def W2 (ks:List Nat) (us:List (Nat × Nat)) (I:Nat->St->Prop) (m:Nat) (s:St):Prop:=∃m',m'<m/\I m' (mW ks (gX us s))
theorem aik {ks:List Nat}{us:List (Nat × Nat)}{I:Nat->St->Prop}{m n G:Nat}{tm:List (Nat × AV)}{σ:ak}:W2 ks us I m ⟨n,tm,σ,G⟩=∃m',m'<m/\I m' (mW ks (gX us ⟨n,tm,σ,G⟩)):=rfl
theorem mj {P:Program}{ks:List Nat}{c:SC J}{s:St}{Q:Exit->St->Prop}(us:List (Nat × Nat)) (I:Nat->St->Prop) (n:Nat) (h1:I n (mW ks (gX us s)))
  (h2:∀m s2,I m s2->jv P c s2 (gl Q (W2 ks us I m))):jv P (.lp ks c) s Q:=⟨I,n,_,(aB.gX us s).trans (.head ks _),h1,fun m s2 hI=>mi c (fun e s hs=>by
   cases e with
   | normal=>
    obtain⟨m',h4,h5⟩:=hs;exact⟨m',_,h4,(aB.gX us s).trans (.head ks _),h5⟩
   | _=>exact hs) (h2 m s2 hI)⟩
def WW (P:Program) (id it:Nat) (x:Operand) (tn tb:Nat) (b:SC J) (Q:Exit->St->Prop) (s1:St):Prop:=∃str,cI s1.tm x=.sc (.string str)/\it<s1.n/\∀r,∃(I:Nat->St->Prop) (s2:St),aB ⟨s1.n,(it,.it r)::s1.tm,s1.σ,s1.G⟩ s2/\I 0 s2/\∀pos s3,I pos s3->
   (bE s3.tm it=some (.it r)/\tn<s3.n/\tb<s3.n)/\
   (pos<str.size->∃c,Utf8.decode str pos=(c,1)/\jv P b ⟨s3.n,(tb,.sc (.bool true))::(tn,.aZ [.sc (.bool true),.sc (.int .i64 pos),.sc (.int .i32 c)])::s3.tm,s3.σ,s3.G⟩ (gl (jK id Q) fun s4=>∃s5,aB s4 s5/\I (pos+1) s5))/\
   (¬pos<str.size->Q .normal ⟨s3.n,(tb,.sc (.bool false))::(tn,.aZ [.sc (.bool false)])::s3.tm,s3.σ,s3.G⟩)
theorem acp {P:Program}{id it ty tn tb:Nat}{x:Operand}{l:List J}{b:SC J}{s:St}{Q:Exit->St->Prop}:jv P (.qZ id l it ty x tn tb b) s Q=(tk P ty=some .string/\oV P l s (WW P id it x tn tb b Q)):=rfl
def WV (ks:List Nat) (us:List (Nat × Nat)) (I:Nat->St->Prop) (pos:Nat) (s:St):Prop:=I pos (mW ks (gX us s))
theorem aie {ks:List Nat}{us:List (Nat × Nat)}{I:Nat->St->Prop}{pos n G:Nat}{tm:List (Nat × AV)}{σ:ak}:WV ks us I pos ⟨n,tm,σ,G⟩=I pos (mW ks (gX us ⟨n,tm,σ,G⟩)):=rfl
theorem PI {P:Program}{id it tn tb n G:Nat}{tm:List (Nat × AV)}{σ:ak}{x:Operand}{b:SC J}{Q:Exit->St->Prop}(str:ByteArray) (ks:List Nat) (us:List (Nat × Nat)) (I:Nat->Nat->St->Prop)
  (hx:cI tm x=.sc (.string str)) (hn:it<n/\tn<n/\tb<n) (h0:∀r,I r 0 (mW ks (gX us ⟨n,(it,.it r)::tm,σ,G⟩)))
  (hr:∀r pos s,I r pos s->bE s.tm it=some (.it r)/\s.n=n)
  (h1:∀r pos s,I r pos s->pos<str.size->∃c,Utf8.decode str pos=(c,1)/\jv P b ⟨s.n,(tb,.sc (.bool true))::(tn,.aZ [.sc (.bool true),.sc (.int .i64 pos),.sc (.int .i32 c)])::s.tm,s.σ,s.G⟩ (gl (jK id Q) (WV ks us (I r) (pos+1))))
  (h2:∀r pos s,I r pos s->¬pos<str.size->Q .normal ⟨s.n,(tb,.sc (.bool false))::(tn,.aZ [.sc (.bool false)])::s.tm,s.σ,s.G⟩):WW P id it x tn tb b Q ⟨n,tm,σ,G⟩:=by
 refine⟨str,hx,hn.1,fun r=>⟨I r,_,(aB.gX us _).trans (.head ks _),h0 r,fun pos s3 hp=>⟨⟨(hr r pos s3 hp).1,by rw[(hr r pos s3 hp).2];exact hn.2.1,by rw[(hr r pos s3 hp).2];exact hn.2.2⟩,fun ab=>?_,h2 r pos s3 hp⟩⟩⟩;obtain⟨c,hd,hb⟩:=h1 r pos s3 hp ab;refine⟨c,hd,mi b (fun e s hs=>?_) hb⟩;cases e with
 | normal=>exact⟨_,(aB.gX us s).trans (.head ks _),hs⟩
 | _=>exact hs
theorem aa5 {n G t:Nat}{tm:List (Nat × AV)}{σ:ak}{u:AV}:FD ⟨n,tm,σ,G⟩ t u=FE ⟨n,tm,σ,G⟩ t (u6 u (fI tm t) σ G):=rfl
theorem aa7 {n G t j sz:Nat}{tm:List (Nat × AV)}{σ:ak}:zt ⟨n,tm,σ,G⟩ t j sz=JN ⟨n,tm,σ,G⟩ (BM σ j sz G (fI tm t)):=rfl
theorem aa6 {n G t G':Nat}{tm:List (Nat × AV)}{σ σ':ak}{v:AV}:FE ⟨n,tm,σ,G⟩ t (v,σ',G')=⟨n,(t,v)::tm,σ',G'⟩:=rfl
theorem aB.only (ks:List Nat) (s:St):aB s ⟨s.n,qu ks s.tm,[],s.G⟩:=by
 intro rd O w0 a w ⟨rd',φ,hx,h⟩;have eU:∀{r g p row},rowAt ([]:ak) r g p=some row->False:=by
  intro r g p row hr;simp[rowAt,bE]at hr
 exact⟨rd',φ,hx,⟨fun r g p row hr=>(eU hr).elim,fun r g p row r' g' p' cC pl cZ b q q' hr=>(eU hr).elim,h.heap.eA,fun r g p row pl b q hr=>(eU hr).elim,fun r g p row pl b q hr=>(eU hr).elim,h.heap.frame,h.heap.size,h.heap.os,h.heap.tape,h.heap.output⟩,
  fun t v hl=>B6 ks s.tm t v hl▸h.look t,h.size,h.defers,h.gen⟩
theorem ahM (n:Nat):Nat.beq n n=true:=Nat.beq_refl n
theorem abW {row:Row}:mQ [([],row)]=one row:=by
 funext p;cases p<;>rfl
theorem DJ:∀{a b:List Nat},oC a b=true<->a=b
 | [],[]=>by simp[oC]
 | [],_::_=>by simp[oC]
 | _::_,[]=>by simp[oC]
 | a::l,b::m=>by
  simp only[oC,List.cons.injEq];cases h:a==b with
  | true=>simp only[DJ];simp at h;simp[h]
  | false=>simp at h;simp[h]
theorem abY {q p:List Nat}{row:Row}{l:List (List Nat × Row)}:mQ ((q,row)::l) p=match oC p q with
  | true=>some row
  | false=>mQ l p:=by
 rw[mQ];cases h:oC p q with
 | true=>rw[if_pos (DJ.1 h)]
 | false=>rw[if_neg (fun e=>by rw[DJ.2 e]at h;cases h)]
theorem adW {f:d9}{p q:List Nat}{row:Row}:dF f p row q=match oC q p with
  | true=>some row
  | false=>f q:=by
 unfold dF;cases h:oC q p with
 | true=>rw[if_pos (DJ.1 h)]
 | false=>rw[if_neg (fun e=>by rw[DJ.2 e]at h;cases h)]
theorem ahC (a b:Nat):Nat.ble a b=decide (a<=b):=by
 by_cases h:a<=b
 ·rw[Nat.ble_eq_true_of_le h,decide_eq_true h]
 rw[decide_eq_false h];cases hb:Nat.ble a b with
 | false=>rfl
 | true=>exact absurd (Nat.le_of_ble_eq_true hb) h
theorem abX {p:List Nat}:mQ [] p=none:=rfl
attribute [go_sem] ZP ZS ZM tw D7 NN B5 vQ o0 abX aa7 JN BM JM JL C3 Option.getD_none Int.le_refl Z1 afm ZR ZQ z9 aec DR AE acp aie aik aa5 aa6 u6 q9 u7 ny Ic NH gX uP ahC List.set_set List.length_set List.replicate_succ List.replicate_zero Nat.succ_eq_add_one List.take_length abW abY adW oC ahM Bool.true_or Bool.false_or Bool.not_not Bool.not_true Bool.not_false Bool.false_and beq_self_eq_true Nat.min_def Int.toNat_natCast Int.natCast_nonneg acR Gh Yv Yu Nat.zero_add Nat.le_refl List.getElem?_map List.length_map aej Jn aaj acu acA acy acB Si acC acD acH acI aip air wW E7 Jj LH kX kO oM vp iO Zr Zs mG NI Jc Bl wQ Bd adz ail Mr tl Du Nw xt Ii na OL CQ GQ mC iF sI mI I8 JI q8 BL JJ q7 ei xn Gg xD QS oO mapA zx ma abr Cd ss FK Rb Q9 JT Q6 ph p6 yo u4 vR Bz By BB BA zk zl R4 B8 oJ BF Dj AD NC DY yk D0 AF AI DN DG D2 AH yI Ia H8 H5 H6 wR dJ fN DO Ng Ah No AJ AG zc I3 Dh yl qk acn acq acs aco acm acw acv acr acF acE acG Yk Yj Yl ahz ahy ahA Zj Zk aal aan aam XC afF afE L1 aes aer acS aio aiq ain aih aT aV eC bW eD fg adK ZL aac ZI aae Z7 ZU ZY ZZ ZJ aaa ZE Z0 ZF ZT Z6 Z5 Z4 Z3 FJ Ra Q8 Q7 Aa aei ZW ZV ZX ZG aab Z9 Z8 aad Z2 ZH ZO ZK ZN DX DU m9 fI qu I.so put_eq aak Dg mB wu lA tL aaG uG uH D4 H7 ND NB Gf H3 DS D5 D3 yH AB Be isVar DZ D1 H4 DV H9 sJ IW jC nN iJ Fm kb one To rowAt bE bT Option.map_some Option.map_none Option.bind_some Option.bind_none D6 tu C7 C6 C4 C5 s9 C9 iI o8 LI CY CX CW zY wq DM rowsOf Bs nm FC FB nP Nat.blt tk decide_true decide_false List.getElem?_toArray List.getElem?_cons_succ List.getElem?_cons_zero List.getElem?_nil List.all_cons List.all_nil List.any_cons List.any_nil Bool.and_true Bool.true_and Bool.or_false Bool.false_or Bool.and_self List.map_cons List.map_nil List.length_cons List.length_nil List.drop_succ_cons List.drop_zero List.take_succ_cons List.take_zero List.drop_nil List.take_nil List.append_nil List.nil_append List.cons_append List.set_cons_zero List.set_cons_succ Nat.ble_eq Nat.beq_eq Option.getD_some and_self true_and and_true ite_true ite_false if_true if_false
end
section
open Go Go.RowKit
set_option linter.unusedVariables false
def uY (w:World):RD:=fun b o=>w.cell? (cM b o)
abbrev zs:cj:=fun _ _ _=>none
def qU (P:Program) (t:TypeId) (sz:Nat) {α:Type} (E:α->List AV) (Wf:α->Prop):Prop:=
 P.cellsOf t=sz/\(∀a,(E a).length=sz/\∀c∈E a,kb c=true)/\
  ∀(H:Type) (enc:TypeId × Value->H) (w:World) (fuel:Nat) (cs:List Value) (x:DataW H × List MemPlace),DataW.trod enc P w 0 (fun _=>true) true fuel t cs=some x->∃a,Wf a/\PW (uY w) zs (E a) cs
theorem PW.one {rd:RD}{φ:cj}{c:AV}{v:Value}(h:aL rd φ c v):PW rd φ [c] [v]:=PW.cons h PW.nil
theorem aaD {P:Program}{t:TypeId}{k:IntKind}(ht:P.underlying t=some (.int k)) (hs:P.cellsOf t=1):qU P t 1 (fun n:Int=>[.sc (.int k n)]) (fun n=>(Lit.int k n).wf=true):=
 ⟨hs,fun a=>⟨rfl,by simp[kb]⟩,fun H enc w fuel cs x h=>by
  obtain⟨n,rfl,rfl,hw⟩:=DataW.trod_int ht h;exact⟨n,hw,PW.one (.sc _ rfl)⟩⟩
theorem RY {α:Type}{p:Nat->α->Prop}:∀(n:Nat),(∀i,i<n->∃a,p i a)->∃l:List α,l.length=n/\∀i a,l[i]?=some a->p i a
 | 0,_=>⟨[],rfl,fun i a h=>by simp at h⟩
 | n+1,h=>by
  obtain⟨l,hl,hp⟩:=RY n (fun i hi=>h i (Nat.lt_succ_of_lt hi));obtain⟨a,ha⟩:=h n (Nat.lt_succ_self n);refine⟨l++[a],by simp[hl],fun i b hb=>?_⟩;rcases bp i n with hi|hi
  ·rw[List.getElem?_append_left (by omega)]at hb;exact hp i b hb
  rw[List.getElem?_append_right (by omega)]at hb;cases hz:i - l.length with
  | zero=>
   rw[hz]at hb;cases hb;have:i=n:=by omega
   rw[this];exact ha
  | succ k=>rw[hz]at hb;simp at hb
theorem UM {w:World}{base:Nat}{a:Addr}{n:Nat}{cs:List Value}(h:w.cells? base a n=some cs):cs.length=n/\∀j,j<n->w.cell? (a.add j)=cs[j]?:=by
 unfold World.cells? at h;split at h
 ·refine⟨by simpa using mapM_some_length h,fun j hj=>?_⟩;have:=mapM_some_get h j j (by simp[hj]);exact this
 cases h
theorem aaC {P:Program}{t e:TypeId}{sz:Nat}{α:Type}{E:α->List AV}{Wf:α->Prop}(ht:P.underlying t=some (.slice e)) (hs:P.cellsOf t=1) (he:qU P e sz E Wf) (jU:0<sz):
  qU P t 1 (fun l:List α=>[.ro sz (l.map E)]) (fun l=>(∀a∈l,Wf a)/\l.length<=maxLen):=by
 obtain⟨Lj,GI,he3⟩:=he;refine⟨hs,fun a=>⟨rfl,by simp[kb]⟩,fun H enc w fuel cs x h=>?_⟩;rcases DataW.trod_slice ht h with ⟨rfl,rfl⟩|⟨a,len,cap,elems,rest,n,rfl,rfl,rfl,hb,hl,hc,hlen,sW,-,-⟩
 ·exact⟨[],⟨by simp,by simp⟩,PW.one (.iC _ _ _)⟩
 obtain⟨l,dY,hp⟩:=RY (p:=fun i a'=>Wf a'/\∃cs,w.cells? 0 (a.add (i * P.cellsOf e)) (P.cellsOf e)=some cs/\PW (uY w) zs (E a') cs) len (fun i hi=>by
  have hx:=sW i hi;rw[bm (by omega)]at hx;obtain⟨cs,h1,h2⟩:=cG hx;obtain⟨a',h3,h4⟩:=he3 _ _ _ _ _ _ h2;exact⟨a',h3,cs,h1,h4⟩)
 refine⟨l,⟨fun a' ha=>by obtain⟨i,hi⟩:=List.getElem?_of_mem ha;exact(hp i a' hi).1,by omega⟩,PW.one ?_⟩;by_cases hz:len=0
 ·subst hz;have:l=[]:=List.eq_nil_of_length_eq_zero dY;subst this;exact .iC _ _ _
 obtain⟨b,q,spot⟩:=a;have acX:spot=none:=by
  obtain⟨a0,ha0⟩:∃a0,l[0]?=some a0:=⟨l[0],by rw[List.getElem?_eq_getElem]⟩;obtain⟨-,cs,h1,h2⟩:=hp 0 a0 ha0;obtain⟨h3,h4⟩:=UM h1;have h5:=h4 0 (by rw[Lj];exact jU);rw[bm (by rw[h3,Lj];exact jU)]at h5;cases KF:spot with
  | none=>rfl
  | some s=>
   subst KF;exfalso;simp only[World.cell?,Addr.add]at h5;split at h5<;>simp_all
 subst acX;have jd:∀(i j:Nat) (c:AV),((l.map E)[i]?).bind (·[j]?)=some c->kb c=true/\∃v,w.cell? (cM b (q+i * sz+j))=some v/\aL (uY w) zs c v:=by
  intro i j c hc;rw[List.getElem?_map]at hc;cases hi:l[i]? with
  | none=>rw[hi]at hc;cases hc
  | some a'=>
   rw[hi]at hc;simp only[Option.map_some,Option.bind_some]at hc;obtain⟨-,cs,h1,h2⟩:=hp i a' hi;obtain⟨h3,h4⟩:=UM h1;obtain⟨v,hv,hr⟩:=h2.2 j c hc;refine⟨(GI a').2 c (dk hc),v,?_,hr⟩;have hj:j<P.cellsOf e:=by
    rw[<-h3];rcases bp j cs.length with hx|hx
    ·exact hx
    rw[List.getElem?_eq_none hx]at hv;cases hv
   have:=h4 j hj;rw[hv,Lj]at this;rw[<-this];show w.cell? _=w.cell? (((cM b q).add (i * sz)).add j)
   rw[qn,qn]
 have:=aL.ro (rd:=uY w) (φ:=zs) sz (l.map E) b q cap (fun i j=>(w.cell? (cM b (q+i * sz+j))).getD undef) (by simp;omega)
  (fun i j c hc=>(jd i j c hc).1)
  (fun i j c hc=>by obtain⟨-,v,hv,-⟩:=jd i j c hc;simp only[uY];rw[hv];rfl)
  (fun i j c hc=>by obtain⟨-,v,hv,hr⟩:=jd i j c hc;rw[hv];exact hr)
 rw[List.length_map,dY]at this;exact this
theorem qU.map {P:Program}{t:TypeId}{sz:Nat}{α β:Type}{E:α->List AV}{Wf:α->Prop}(h:qU P t sz E Wf) (g:α->β) (F:β->List AV) (Wg:β->Prop) (hF:∀b,(F b).length=sz/\∀c∈F b,kb c=true)
  (hE:∀a,F (g a)=E a) (hW:∀a,Wf a->Wg (g a)):qU P t sz F Wg:=
 ⟨h.1,hF,fun H enc w fuel cs x hx=>by obtain⟨a,ha,hp⟩:=h.2.2 H enc w fuel cs x hx;exact⟨g a,hW a ha,by rw[hE];exact hp⟩⟩
theorem aaE {P:Program}{t:TypeId}{α:Type}{E:α->AV}{Wf:α->Prop}(h:qU P t 1 (fun a=>[E a]) Wf) {H:Type}{enc:TypeId × Value->H}{W:World}{v:Value}(hv:v.cells=#[v]) {d:DataW H}{ps:List MemPlace}
  (hd:DataW.Trod enc P W 0 (fun _=>true) true t v d ps):∃a,Wf a/\aL (uY W) zs (E a) v:=by
 obtain⟨fuel,hf⟩:=hd;rw[hv]at hf;obtain⟨a,ha,hp⟩:=h.2.2 _ _ _ _ _ _ hf;obtain⟨u,us,e1,e2,-⟩:=hp.kV;simp only[List.cons.injEq]at e1;exact⟨a,ha,e1.1▸e2⟩
theorem afx {P:Program}{n:Nat}{args:List AV}{b:Bool}(h:ba P n args (.sc (.bool b)) []) {W:World}{ew:Array Value}(hp:PW (uY W) zs args ew.toList):
  Calls P n ew W fun e W'=>e=.returned (.bool b)/\Below W.heap.size W W':=by
 refine(h.2 W (uY W) ew (fun _ _ _ h=>h) hp).mono ?_;rintro e W' ⟨v,rd',ψ,rfl,_,hh,hv⟩;rw[fH hv];exact⟨rfl,hh.os,hh.tape,hh.output,hh.size,fun k hk=>hh.frame k hk (fun h=>h)⟩
theorem ahU {α:Type}(l:List α):Array.mk l=l.toArray:=rfl
theorem Yc {n:Nat}{h:n<2 ^ 8}:UInt8.ofBitVec (BitVec.ofFin ⟨n,h⟩)=UInt8.ofNat n:=by
 apply UInt8.toNat_inj.1;simp only[UInt8.toNat_ofNat'];exact(Nat.mod_eq_of_lt h).symm
attribute [go_sem] ahU Yc
attribute [go_sem_proc] Nat.reduceBEq Nat.reduceAdd Nat.reduceSub Nat.reduceMul Nat.reduceMod Nat.reduceDiv Nat.reduceLT Nat.reduceLeDiff Int.reduceEq Int.reduceLT Int.reduceLE Int.reduceToNat Int.reduceBNe Int.reduceBEq Int.reduceOfNat Int.reduceNegSucc UInt8.reduceOfNat reduceCtorEq
end
section
open Go Go.RowKit
set_option linter.unusedVariables false
def FA:DT->Bool
 | .nil=>true
 | .pu _ t=>FA t
 | .ef _ _ t=>FA t
 | .or _ _=>false
def l4:SC J->Bool
 | .skip|.ret|.exit _|.mJ _=>true
 | .seq a b=>l4 a&&l4 b
 | .sq _ a b=>l4 a&&l4 b
 | .ct a b=>l4 a&&l4 b
 | .cond _ x y=>l4 x&&l4 y
 | .block _ c=>l4 c
 | .loop c=>l4 c
 | .lp _ c=>l4 c
 | .dr t _ _ _=>FA t
 | .qZ ..=>false
 | .bad=>false
def At (e:Exit) (s:St):Exit->St->Prop:=fun e1 s1=>e1=e/\s1=s
section
variable {P:Program}
theorem Ff {s:St}{d:Option Nat}{v:AV}{σ:ak}{b:Bool}{K:St->Prop}(h:put s d v σ b K):∃s',K s'/\put s d v σ b (·=s'):=by
 unfold put at h ⊢;cases d with
 | none=>exact⟨_,h,rfl⟩
 | some d=>
  simp only at h ⊢;split at h
  ·rename_i hb;exact⟨_,h,rfl⟩
  cases h
theorem Pv {o:SO}{s:St}{K:St->Prop}(h:uX P o s K):∃s',K s'/\uX P o s (·=s'):=by
 obtain⟨v,σ',b,h1,h2⟩:=h;obtain⟨s',k1,k2⟩:=Ff h2;exact⟨s',k1,v,σ',b,h1,k2⟩
theorem Ps {o:SO}{s:St}{K:St->Prop}(h:qh P o s K):∃s',K s'/\qh P o s (·=s'):=by
 unfold qh at h ⊢;split at h
 ·exact Pv h
 rename_i t w hg;unfold sG at h ⊢;split at h
 ·rename_i b hb;cases b<;>cases w<;>simp only[uG,uH]at h ⊢<;>first|exact Pv h|exact Ff h
 ·exact Ff h
 cases h
theorem Pu:∀{l:List SO}{s:St}{K:St->Prop},uW P l s K->∃s',K s'/\uW P l s (·=s')
 | [],s,K,h=>⟨s,h,rfl⟩
 | o::l,s,K,h=>by
  obtain⟨s1,k1,h1⟩:=Ps h;obtain⟨s2,k2,h2⟩:=Pu k1;exact⟨s2,k2,tM (fun s hs=>by subst hs;exact h2) h1⟩
theorem Y8 {o:SO}{s:St}{K:St->Prop}(h:wY P o s K):∃s',K s'/\wY P o s (·=s'):=by
 obtain⟨v,h1,h2⟩:=gp h;obtain⟨s',k1,k2⟩:=Ff h2;exact⟨s',k1,l7 h1 k2⟩
theorem I5 {l:List SO}:∀{t:DT}{s:St}{K:St->Prop},FA t=true->sT P l t s K->∃s',K s'/\sT P l t s (·=s')
 | .nil,s,K,_,h=>⟨s,h,rfl⟩
 | .pu i t,s,K,hn,h=>by
  unfold sT at h ⊢;split at h
  ·cases h
  rename_i o ho;obtain⟨s1,k1,h1⟩:=Y8 h.2;obtain⟨s2,k2,h2⟩:=I5 (t:=t) hn k1;exact⟨s2,k2,h.1,ER (fun s hs=>by subst hs;exact h2) h1⟩
 | .ef i rc t,s,K,hn,h=>by
  unfold sT at h ⊢;split at h
  ·cases h
  rename_i o ho;obtain⟨s1,k1,h1⟩:=Ps h;obtain⟨s2,k2,h2⟩:=I5 (t:=t) hn k1.2;exact⟨s2,k2,tM (fun s hs=>by subst hs;exact⟨k1.1,h2⟩) h1⟩
 | .or a b,s,K,hn,h=>by cases hn
theorem jF:∀{c:SC SO}{s:St}{Q Q':Exit->St->Prop},(∀e s,Q e s->Q' e s)->sv P c s Q->sv P c s Q'
 | .skip,s,Q,Q',h,hk=>h _ _ hk
 | .ret,s,Q,Q',h,hk=>h _ _ hk
 | .exit id,s,Q,Q',h,hk=>h _ _ hk
 | .seq a b,s,Q,Q',h,hk=>by
  rcases hk with hk|hk
  ·exact .inl (jF (fun e s hs=>by
    cases e with
    | normal=>obtain⟨eO,hw,hs⟩:=hs;exact⟨eO,hw,jF h hs⟩
    | _=>exact h _ _ hs) hk)
  exact .inr fun c hc=>(hk c hc).mono h
 | .sq ks a b,s,Q,Q',h,hk=>jF (c:=a) (fun e s hs=>by
   cases e with
   | normal=>obtain⟨eO,hw,hs⟩:=hs;exact⟨eO,hw,jF h hs⟩
   | _=>exact h _ _ hs) hk
 | .ct a b,s,Q,Q',h,hk=>jF (c:=a) (fun e s hs=>by
   cases e with
   | normal=>obtain⟨eO,hw,hs⟩:=hs;exact⟨eO,hw,jF h hs⟩
   | _=>exact h _ _ hs) hk
 | .cond c x y,s,Q,Q',h,hk=>by
  simp only[sv]at hk ⊢;split at hk
  ·rename_i b hb;cases b with
   | true=>exact jF h hk
   | false=>exact jF h hk
  cases hk
 | .block id c,s,Q,Q',h,hk=>jF (c:=c) (fun e s hs=>by
   cases e with
   | exit kq=>
    simp only[jK]at hs ⊢;split at hs<;>exact h _ _ hs
   | _=>exact h _ _ hs) hk
 | .loop c,s,Q,Q',h,hk=>by
  obtain⟨I,n,s1,h1,h2,h3⟩:=hk;exact⟨I,n,s1,h1,h2,fun m s2 hI=>jF (c:=c) (fun e s hs=>by
   cases e with
   | normal=>exact hs
   | _=>exact h _ _ hs) (h3 m s2 hI)⟩
 | .lp _ c,s,Q,Q',h,hk=>by
  obtain⟨I,n,s1,h1,h2,h3⟩:=hk;exact⟨I,n,s1,h1,h2,fun m s2 hI=>jF (c:=c) (fun e s hs=>by
   cases e with
   | normal=>exact hs
   | _=>exact h _ _ hs) (h3 m s2 hI)⟩
 | .mJ l,s,Q,Q',h,hk=>I7 (fun s hs=>h _ _ hs) hk
 | .dr t dS l af,s,Q,Q',h,hk=>by
  obtain⟨h1,t',ahY,h2,h3⟩:=hk;exact⟨h1,t',ahY,h2,wX (fun s hs=>h _ _ hs) h3⟩
 | .qZ ..,_,_,_,_,hk=>by cases hk
 | .bad,_,_,_,_,hk=>by cases hk
theorem I2 {a b:SC SO}{s:St}{Q:Exit->St->Prop}{e1:Exit}{s1:St}(h1:sv P a s (At e1 s1)) (hq:gl Q (fun s'=>∃eO,aB s' eO/\∃e s2,Q e s2/\sv P b eO (At e s2)) e1 s1):
  ∃e s2,Q e s2/\sv P a s (gl (At e s2) fun s'=>∃eO,aB s' eO/\sv P b eO (At e s2)):=by
 cases e1 with
 | normal=>
  obtain⟨eO,hw,e,s2,hQ,h2⟩:=hq;refine⟨e,s2,hQ,jF (fun e' s' hs=>?_) h1⟩;obtain⟨rfl,rfl⟩:=hs;exact⟨eO,hw,h2⟩
 | ret=>exact⟨_,_,hq,jF (fun e' s' hs=>by obtain⟨rfl,rfl⟩:=hs;exact⟨rfl,rfl⟩) h1⟩
 | exit id=>exact⟨_,_,hq,jF (fun e' s' hs=>by obtain⟨rfl,rfl⟩:=hs;exact⟨rfl,rfl⟩) h1⟩
 | _=>exact⟨_,_,hq,jF (fun e' s' hs=>by obtain⟨rfl,rfl⟩:=hs;exact⟨rfl,rfl⟩) h1⟩
theorem RJ {c:SC SO}{Q:Exit->St->Prop}{I:Nat->St->Prop}(h:∀m s2,I m s2->∃e s',gl Q (fun s3=>∃m' s4,m'<m/\aB s3 s4/\I m' s4) e s'/\sv P c s2 (At e s')):
  ∀m s2,I m s2->∃e s',Q e s'/\∃(J:Nat->St->Prop) (n:Nat),J n s2/\∀k s,J k s->sv P c s (gl (At e s') fun s3=>∃m' s4,m'<k/\aB s3 s4/\J m' s4):=by
 intro m;induction m using Nat.strongRecOn with
 | _ m ih=>
  intro s2 hI;obtain⟨e1,s1,hq,h1⟩:=h m s2 hI;have stop:∀{e1:Exit} {s1:St},e1≠.normal->Q e1 s1->sv P c s2 (At e1 s1)->∃e s',Q e s'/\∃(J:Nat->St->Prop) (n:Nat),J n s2/\∀k s,J k s->sv P c s (gl (At e s') fun s3=>∃m' s4,m'<k/\aB s3 s4/\J m' s4):=by
   intro e1 s1 bJ hQ h1;refine⟨e1,s1,hQ,fun k s=>s=s2,0,rfl,fun k s hs=>?_⟩;subst hs;refine jF (fun e' s' hs=>?_) h1;obtain⟨rfl,rfl⟩:=hs;cases e' with
   | normal=>exact absurd rfl bJ
   | _=>exact⟨rfl,rfl⟩
  cases e1 with
  | normal=>
   obtain⟨m',s4,ab,hw,LC⟩:=hq;obtain⟨e,s',hQ,J,n,hJ,xL⟩:=ih m' ab s4 LC;refine⟨e,s',hQ,fun k s=>(k=n+1/\s=s2)\/J k s,n+1,.inl ⟨rfl,rfl⟩,fun k s hs=>?_⟩;rcases hs with ⟨rfl,rfl⟩|hs
   ·refine jF (fun e' s' hs=>?_) h1;obtain⟨rfl,rfl⟩:=hs;exact⟨n,s4,by omega,hw,.inr hJ⟩
   refine jF (fun e' s' hs=>?_) (xL k s hs);cases e' with
   | normal=>obtain⟨m',s4,h1,h2,h3⟩:=hs;exact⟨m',s4,h1,h2,.inr h3⟩
   | _=>exact hs
  | ret=>exact stop (by simp) hq h1
  | exit id=>exact stop (by simp) hq h1
  | _=>exact stop (by simp) hq h1
theorem qv (hf:P.follows .mixedOrders=true):∀(c:SC J) {s:St}{Q:Exit->St->Prop},kL c=true->l4 c=true->jv P c s Q->∃e s',Q e s'/\sv P (fx c) s (At e s')
 | .skip,s,Q,_,_,h=>⟨.normal,s,h,rfl,rfl⟩
 | .ret,s,Q,_,_,h=>⟨.ret,s,h,rfl,rfl⟩
 | .exit id,s,Q,_,_,h=>⟨.exit id,s,h,rfl,rfl⟩
 | .seq a b,s,Q,hd,hs,h=>by
  simp only[l4,Bool.and_eq_true]at hs;obtain⟨e1,s1,hq,h1⟩:=qv hf a (Bool.and_eq_true_iff.1 hd).1 hs.1 h;obtain⟨e,s2,hQ,h2⟩:=I2 (b:=fx b) (Q:=Q) h1 (by
   cases e1 with
   | normal=>exact⟨s1,.refl s1,qv hf b (Bool.and_eq_true_iff.1 hd).2 hs.2 hq⟩
   | _=>exact hq)
  exact⟨e,s2,hQ,.inl h2⟩
 | .sq ks a b,s,Q,hd,hs,h=>by
  simp only[l4,Bool.and_eq_true]at hs;obtain⟨e1,s1,hq,h1⟩:=qv hf a (Bool.and_eq_true_iff.1 hd).1 hs.1 h;obtain⟨e,s2,hQ,h2⟩:=I2 (b:=fx b) (Q:=Q) h1 (by
   cases e1 with
   | normal=>exact⟨_,.oU ks s1,qv hf b (Bool.and_eq_true_iff.1 hd).2 hs.2 hq⟩
   | _=>exact hq)
  exact⟨e,s2,hQ,.inl h2⟩
 | .ct a b,s,Q,hd,hs,h=>by
  simp only[l4,Bool.and_eq_true]at hs;obtain⟨e1,s1,hq,h1⟩:=qv hf a (Bool.and_eq_true_iff.1 hd).1 hs.1 h;obtain⟨e,s2,hQ,h2⟩:=I2 (b:=fx b) (Q:=Q) h1 (by
   cases e1 with
   | normal=>obtain⟨eO,hw,hb⟩:=hq;exact⟨eO,hw,qv hf b (Bool.and_eq_true_iff.1 hd).2 hs.2 hb⟩
   | _=>exact hq)
  exact⟨e,s2,hQ,.inl h2⟩
 | .cond c x y,⟨n,tm,σ,G⟩,Q,hd,hs,h=>by
  simp only[l4,Bool.and_eq_true]at hs;simp only[jv]at h;simp only[fx,sv,Dg];split at h
  ·rename_i b hb;cases b with
   | true=>exact qv hf x (Bool.and_eq_true_iff.1 hd).1 hs.1 h
   | false=>exact qv hf y (Bool.and_eq_true_iff.1 hd).2 hs.2 h
  cases h
 | .block id c,s,Q,hd,hs,h=>by
  obtain⟨e1,s1,hq,h1⟩:=qv hf c (Q:=jK id Q) hd hs h;cases e1 with
  | exit kq=>
   simp only[jK]at hq;split at hq
   ·rename_i pM;refine⟨_,_,hq,jF (c:=fx c) (fun e' s' hs=>?_) h1⟩;obtain⟨rfl,rfl⟩:=hs;simp only[jK];rw[pM];exact⟨rfl,rfl⟩
   rename_i pM;refine⟨_,_,hq,jF (c:=fx c) (fun e' s' hs=>?_) h1⟩;obtain⟨rfl,rfl⟩:=hs;simp only[jK];rw[pM];exact⟨rfl,rfl⟩
  | normal=>exact⟨_,_,hq,jF (c:=fx c) (fun e' s' hs=>by obtain⟨rfl,rfl⟩:=hs;exact⟨rfl,rfl⟩) h1⟩
  | ret=>exact⟨_,_,hq,jF (c:=fx c) (fun e' s' hs=>by obtain⟨rfl,rfl⟩:=hs;exact⟨rfl,rfl⟩) h1⟩
  | _=>exact⟨_,_,hq,jF (c:=fx c) (fun e' s' hs=>by obtain⟨rfl,rfl⟩:=hs;exact⟨rfl,rfl⟩) h1⟩
 | .loop c,s,Q,hd,hs,h=>by
  obtain⟨I,n,s1,h1,h2,h3⟩:=h;obtain⟨e,s',hQ,J,k,hJ,xL⟩:=RJ (fun m s2 hI=>qv hf c hd hs (h3 m s2 hI)) n s1 h2;exact⟨e,s',hQ,J,k,s1,h1,hJ,xL⟩
 | .lp ks c,s,Q,hd,hs,h=>by
  obtain⟨I,n,s1,h1,h2,h3⟩:=h;obtain⟨e,s',hQ,J,k,hJ,xL⟩:=RJ (fun m s2 hI=>qv hf c hd hs (h3 m s2 hI)) n s1 h2;exact⟨e,s',hQ,J,k,s1,h1,hJ,xL⟩
 | .mJ l,s,Q,_,_,h=>by
  obtain⟨s',k1,k2⟩:=Pu (Cc l s _ h);exact⟨.normal,s',k1,I7 (fun s hs=>⟨rfl,hs⟩) k2⟩
 | .dr t dS l af,s,Q,hd,hs,h=>by
  obtain⟨s',k1,k2⟩:=I5 hs (vn l t s _ h);exact⟨.normal,s',k1,hf,t,dS,hd,wX (fun s hs=>⟨rfl,hs⟩) k2⟩
 | .qZ ..,_,_,_,hs,_=>by cases hs
 | .bad,_,_,_,hs,_=>by cases hs
def EV (P:Program) (rs:List ResultVar) (j6:AV->ak->Prop):Exit->St->Prop
 | .ret,s=>∃res σout,j6 res σout/\mG P rs s res σout
 | .normal,s=>∃res σout,j6 res σout/\mG P rs s res σout
 | _,_=>False
theorem afy {n:Nat}{c:SC J}{N:Nat}{rs:List ResultVar}(hb:Ec P n c N rs) (hc:l4 c=true)
  {σin:ak} {args:List AV} (j6:AV->ak->Prop) (hlen:Nat.ble args.length N=true) (hv:jv P c ⟨N,mB 0 args,σin,1⟩ (EV P rs j6)):∃res σout,j6 res σout/\aY P n σin args res σout:=by
 obtain⟨fn,hf,hb,hn,rfl,rfl,pO,hd⟩:=hb;cases m6:fn.body with
 | none=>rw[m6]at hb;cases hb
 | some code=>
  rw[m6]at hb;have e:strip code=fx c:=Option.some.inj hb;obtain⟨e1,s1,hq,h1⟩:=qv pO c hd hc hv;have key:∀{res σout},mG P fn.results.toList s1 res σout->(e1=.ret\/e1=.normal)->aY P n σin args res σout:=by
   intro res σout hr he;refine Ms hf m6 hn (Nat.le_of_ble_eq_true hlen) (qY code (fun _ _ h=>h) (e▸jF (fun e' s' hs=>?_) h1));obtain⟨rfl,rfl⟩:=hs;rcases he with rfl|rfl<;>exact hr
  cases e1 with
  | ret=>obtain⟨res,σout,hp,hr⟩:=hq;exact⟨res,σout,hp,key hr (.inl rfl)⟩
  | normal=>obtain⟨res,σout,hp,hr⟩:=hq;exact⟨res,σout,hp,key hr (.inr rfl)⟩
  | _=>cases hq
end
theorem vm {P:Program}{n:Nat}{c:SC J}(fn:Func) (N:Nat) (rs:List ResultVar) (j6:AV->ak->Prop) {σin:ak}{args:List AV}
  (h:(P.funcs[n]?,fn.body.map strip,fn.name== "runtime.NumGoroutine",fn.ntmps,fn.results.toList,P.follows .mixedOrders)=(some fn,some (fx c),false,N,rs,true)) (hd:kL c=true) (hs:l4 c=true) (hlen:Nat.ble args.length N=true)
  (hv:jv P c ⟨N,mB 0 args,σin,1⟩ (EV P rs j6)):yK c (∃res σout,j6 res σout/\aY P n σin args res σout):=afy (HQ h hd) hs j6 hlen hv
def gL (P:Program) (rs:List ResultVar) (j6:AV->ak->Prop) (s:St):Prop:=∃res σout,j6 res σout/\mG P rs s res σout
theorem Zl {P:Program}{rs:List ResultVar}{j6:AV->ak->Prop}{s:St}:EV P rs j6 .ret s=gL P rs j6 s:=rfl
theorem Zm {P:Program}{rs:List ResultVar}{j6:AV->ak->Prop}{s:St}:EV P rs j6 .normal s=gL P rs j6 s:=rfl
theorem gL.intro {P:Program}{rs:List ResultVar}{j6:AV->ak->Prop}{s:St}(res:AV) (σout:ak) (h:j6 res σout) (k:mG P rs s res σout):gL P rs j6 s:=⟨res,σout,h,k⟩
attribute [go_sem] Zl Zm
def MK (ks:List Nat) (us:List (Nat × Nat)) (M:St->Prop) (s:St):Prop:=M (mW ks (gX us s))
theorem aii {ks:List Nat}{us:List (Nat × Nat)}{M:St->Prop}{n G:Nat}{tm:List (Nat × AV)}{σ:ak}:MK ks us M ⟨n,tm,σ,G⟩=M (mW ks (gX us ⟨n,tm,σ,G⟩)):=rfl
theorem Ux {P:Program}{a b:SC J}{s:St}{Q:Exit->St->Prop}(ks:List Nat) (us:List (Nat × Nat)) (M:St->Prop) (h1:jv P a s (gl Q (MK ks us M))) (h2:∀s',M s'->jv P b s' Q):jv P (.ct a b) s Q:=
 mi a (fun e s hs=>by
  cases e with
  | normal=>exact⟨_,(aB.gX us s).trans (.head ks _),h2 _ hs⟩
  | _=>exact hs) h1
attribute [go_sem] aii
def cw:List Nat:=[9,10,11]
def cz:List Nat:=[24,26,30,44,47,50,51,52,57,58,59,62,76,88,138,185,186,187,253,254,297,311]
theorem gj:(∀{α β:Type}{f:α->β}{l m:List α},List.map f (l++m)=List.map f l++List.map f m)/\(∀{α:Type}{l m:List α},(l++m).length=l.length+m.length)/\(∀{α β:Type}{f:α->β}{l:List α},(List.map f l).length=l.length)/\(∀{α β:Type}{f:α->β}{a:α}{l:List α},List.map f (a::l)=f a::List.map f l)/\(∀{α β:Type}{f:α->β},List.map f []=[])/\(∀{α:Type}{a:α}{l:List α},(a::l).length=l.length+1)/\(∀{α:Type},([]:List α).length=0):=⟨List.map_append,List.length_append,List.length_map _,List.map_cons,List.map_nil,List.length_cons,List.length_nil⟩
theorem nO:((∀{α β:Type}{f:α->β}{l m:List α},List.map f (l++m)=List.map f l++List.map f m)/\(∀{α:Type}{l m:List α},(l++m).length=l.length+m.length)/\(∀{α β:Type}{f:α->β}{l:List α},(List.map f l).length=l.length)/\(∀{α β:Type}{f:α->β}{a:α}{l:List α},List.map f (a::l)=f a::List.map f l)/\(∀{α β:Type}{f:α->β},List.map f []=[])/\(∀{α:Type}{a:α}{l:List α},(a::l).length=l.length+1)/\(∀{α:Type},([]:List α).length=0))/\(∀{α:Type}{l:List α},[]++l=l):=⟨gj,List.nil_append _⟩
theorem bb:(∀{P:Program}{n G:Nat}{tm:List (Nat × AV)}{σ:ak}{K:St->Prop}{t:Nat}{i:I},g9 P n tm σ G t true i K (.sc (.bool false))=rn i ⟨n,tm,σ,G⟩ K)/\(∀{P:Program}{n G:Nat}{tm:List (Nat × AV)}{σ:ak}{K:St->Prop}{t:Nat}{i:I},g9 P n tm σ G t false i K (.sc (.bool false))=dD P i ⟨n,tm,σ,G⟩ K)/\(∀{P:Program}{n G:Nat}{tm:List (Nat × AV)}{σ:ak}{K:St->Prop}{t:Nat}{i:I},g9 P n tm σ G t false i K (.sc (.bool true))=rn i ⟨n,tm,σ,G⟩ K)/\(∀{P:Program}{n G:Nat}{tm:List (Nat × AV)}{σ:ak}{K:St->Prop}{t:Nat}{i:I},g9 P n tm σ G t true i K (.sc (.bool true))=dD P i ⟨n,tm,σ,G⟩ K)/\(∀{P:Program}{a b:SC J}{s:St}{Q:Exit->St->Prop},vY P a b s Q (.sc (.bool true))=jv P a s Q)/\(∀{P:Program}{a b:SC J}{s:St}{Q:Exit->St->Prop},vY P a b s Q (.sc (.bool false))=jv P b s Q):=⟨rfl,rfl,rfl,rfl,rfl,rfl⟩
theorem d7:((∀{P:Program}{n G:Nat}{tm:List (Nat × AV)}{σ:ak}{K:St->Prop}{t:Nat}{i:I},g9 P n tm σ G t true i K (.sc (.bool false))=rn i ⟨n,tm,σ,G⟩ K)/\(∀{P:Program}{n G:Nat}{tm:List (Nat × AV)}{σ:ak}{K:St->Prop}{t:Nat}{i:I},g9 P n tm σ G t false i K (.sc (.bool false))=dD P i ⟨n,tm,σ,G⟩ K)/\(∀{P:Program}{n G:Nat}{tm:List (Nat × AV)}{σ:ak}{K:St->Prop}{t:Nat}{i:I},g9 P n tm σ G t false i K (.sc (.bool true))=rn i ⟨n,tm,σ,G⟩ K)/\(∀{P:Program}{n G:Nat}{tm:List (Nat × AV)}{σ:ak}{K:St->Prop}{t:Nat}{i:I},g9 P n tm σ G t true i K (.sc (.bool true))=dD P i ⟨n,tm,σ,G⟩ K)/\(∀{P:Program}{a b:SC J}{s:St}{Q:Exit->St->Prop},vY P a b s Q (.sc (.bool true))=jv P a s Q)/\(∀{P:Program}{a b:SC J}{s:St}{Q:Exit->St->Prop},vY P a b s Q (.sc (.bool false))=jv P b s Q))/\((!true)=false)/\((!false)=true):=⟨bb,rfl,rfl⟩
end
theorem au {p q:Prop}(h:q) (e:p=q:=by simp -implicitDefEqProofs only[go_sem];exact rfl):p:=Eq.mpr (e) h
theorem aA {a p q:Prop}(A:a) (h:q) (e:a->p=q:=by intro A;simp -implicitDefEqProofs only[go_sem,A];exact rfl):p:=Eq.mpr (e A) h
theorem b8 {a b p q:Prop}(A:a) (B:b) (h:q) (e:a->b->p=q:=by intro A B;simp -implicitDefEqProofs only[go_sem,A,B];exact rfl):p:=Eq.mpr (e A B) h
theorem cT {P N u K r s} {q:Prop}(call:ba P N u r s) (h:q) (e:K r s=q:=by simp -implicitDefEqProofs only[go_sem];exact rfl):aq P N u K:=.intro call (Eq.mpr (e) h)
theorem dp {a b p:Prop}(A:a) (B:b) (e:a->b->p:=by intro A B;simp -implicitDefEqProofs only[go_sem,A,B]):p:=e A B
theorem dy {p:Prop}(e:p:=by simp -implicitDefEqProofs only[go_sem]):p:=e
theorem dP {a b c d p q:Prop}(A:a) (B:b) (C:c) (D:d) (h:q) (e:a->b->c->d->p=q:=by intro A B C D;simp -implicitDefEqProofs only[go_sem,A,B,C,D];exact rfl):p:=Eq.mpr (e A B C D) h
theorem ep {P N U u K r s} {q:Prop}(call:aY P N U u r s) (h:q) (e:K r s=q:=by simp -implicitDefEqProofs only[go_sem];exact rfl):aE P N U u K:=.intro call (Eq.mpr (e) h)
theorem eE {a p:Prop}(A:a) (e:a->p:=by intro A;simp -implicitDefEqProofs only[go_sem,A]):p:=e A
theorem eK {P N U u K r s} {a b q:Prop}(call:aY P N U u r s) (A:a) (B:b) (h:q) (e:a->b->K r s=q:=by intro A B;simp -implicitDefEqProofs only[go_sem,A,B];exact rfl):aE P N U u K:=.intro call (Eq.mpr (e A B) h)
theorem eW {P N U u K r s} {a q:Prop}(call:aY P N U u r s) (A:a) (h:q) (e:a->K r s=q:=by intro A;simp -implicitDefEqProofs only[go_sem,A];exact rfl):aE P N U u K:=.intro call (Eq.mpr (e A) h)
theorem eV {a b c p q:Prop}(A:a) (B:b) (C:c) (h:q) (e:a->b->c->p=q:=by intro A B C;simp -implicitDefEqProofs only[go_sem,A,B,C];exact rfl):p:=Eq.mpr (e A B C) h
theorem gI {a b p q:Prop}(A:a) (B:b) (h:q) (e:a->b->p=q:=by intro A B;simp -implicitDefEqProofs only[go_sem,bb,A,B];exact rfl):p:=Eq.mpr (e A B) h
theorem jj {P N u K r s} {a q:Prop}(call:ba P N u r s) (A:a) (h:q) (e:a->K r s=q:=by intro A;simp -implicitDefEqProofs only[go_sem,A];exact rfl):aq P N u K:=.intro call (Eq.mpr (e A) h)
theorem ji {P N U u K r s} {a b c q:Prop}(call:aY P N U u r s) (A:a) (B:b) (C:c) (h:q) (e:a->b->c->K r s=q:=by intro A B C;simp -implicitDefEqProofs only[go_sem,A,B,C];exact rfl):aE P N U u K:=.intro call (Eq.mpr (e A B C) h)
theorem jh {a b c d f g i j l m n p q:Prop}(A:a) (B:b) (C:c) (D:d) (F:f) (G:g) (H:i) (I:j) (J:l) (L:m) (M:n) (h:q) (e:a->b->c->d->f->g->i->j->l->m->n->p=q:=by intro A B C D F G H I J L M;simp -implicitDefEqProofs only[go_sem,dw,bb,A,B,C,D,F,G,H,I,J,L,M];exact rfl):p:=Eq.mpr (e A B C D F G H I J L M) h
theorem nS {a b c d f g p q:Prop}(A:a) (B:b) (C:c) (D:d) (F:f) (G:g) (h:q) (e:a->b->c->d->f->g->p=q:=by intro A B C D F G;simp -implicitDefEqProofs only[go_sem,A,B,C,D,F,G];exact rfl):p:=Eq.mpr (e A B C D F G) h
theorem oG {p q:Prop}(h:q) (e:p=q:=by simp -implicitDefEqProofs only[go_sem,bW,fg,eD,eC];exact rfl):p:=Eq.mpr (e) h
theorem pn {a p q:Prop}(A:a) (h:q) (e:a->p=q:=by intro A;simp -implicitDefEqProofs only[go_sem,d7,A];exact rfl):p:=Eq.mpr (e A) h
theorem qd {a p q:Prop}(A:a) (h:q) (e:a->p=q:=by intro A;simp -implicitDefEqProofs only[go_sem,bb,A];exact rfl):p:=Eq.mpr (e A) h
theorem qc {a b c d f p q:Prop}(A:a) (B:b) (C:c) (D:d) (F:f) (h:q) (e:a->b->c->d->f->p=q:=by intro A B C D F;simp -implicitDefEqProofs only[go_sem,A,B,C,D,F];exact rfl):p:=Eq.mpr (e A B C D F) h
theorem sg {a b p:Prop}(A:a) (B:b) (e:a->b->p:=by intro A B;simp -implicitDefEqProofs only[go_sem,List.take_length,A,B]):p:=e A B
theorem sd {a p q:Prop}(A:a) (h:q) (e:a->p=q:=by intro A;simp -implicitDefEqProofs only[go_sem,Bool.not_true,bb,A];exact rfl):p:=Eq.mpr (e A) h
theorem tF {a b c d f g i j l m n o p:Prop}(A:a) (B:b) (C:c) (D:d) (F:f) (G:g) (H:i) (I:j) (J:l) (L:m) (M:n) (O:o) (e:a->b->c->d->f->g->i->j->l->m->n->o->p:=by intro A B C D F G H I J L M O;simp -implicitDefEqProofs only[go_sem,dw,bb,A,B,C,D,F,G,H,I,J,L,M,O]):p:=e A B C D F G H I J L M O
theorem tE {a b c d f g i j p q:Prop}(A:a) (B:b) (C:c) (D:d) (F:f) (G:g) (H:i) (I:j) (h:q) (e:a->b->c->d->f->g->i->j->p=q:=by intro A B C D F G H I;simp -implicitDefEqProofs only[go_sem,bb,A,B,C,D,F,G,H,I];exact rfl):p:=Eq.mpr (e A B C D F G H I) h
theorem uO {a b p:Prop}(A:a) (B:b) (e:a->b->p:=by intro A B;simp -implicitDefEqProofs only[go_sem,List.length_replicate,A,B]):p:=e A B
theorem uN {a p:Prop}(A:a) (e:a->p:=by intro A;simp -implicitDefEqProofs only[go_sem,List.take_length,A]):p:=e A
theorem uM {a p q:Prop}(A:a) (h:q) (e:a->p=q:=by intro A;simp -implicitDefEqProofs only[go_sem,aV,bW,A];exact rfl):p:=Eq.mpr (e A) h
theorem uL {P N u K r s} {q:Prop}(call:ba P N u r s) (h:q) (e:K r s=q:=by simp -implicitDefEqProofs only[go_sem,beq_self_eq_true,bne_self_eq_false,d7];exact rfl):aq P N u K:=.intro call (Eq.mpr (e) h)
theorem uK {a p:Prop}(A:a) (e:a->p:=by intro A;simp -implicitDefEqProofs only[go_sem,Bool.false_eq_true,beq_self_eq_true,bne_self_eq_false,d7,A]):p:=e A
theorem uJ {a b c d f g i j l m n p:Prop}(A:a) (B:b) (C:c) (D:d) (F:f) (G:g) (H:i) (I:j) (J:l) (L:m) (M:n) (e:a->b->c->d->f->g->i->j->l->m->n->p:=by intro A B C D F G H I J L M;simp -implicitDefEqProofs only[go_sem,dw,bb,A,B,C,D,F,G,H,I,J,L,M]):p:=e A B C D F G H I J L M
theorem uI {a b c d f g i j l m p q:Prop}(A:a) (B:b) (C:c) (D:d) (F:f) (G:g) (H:i) (I:j) (J:l) (L:m) (h:q) (e:a->b->c->d->f->g->i->j->l->m->p=q:=by intro A B C D F G H I J L;simp -implicitDefEqProofs only[go_sem,bb,A,B,C,D,F,G,H,I,J,L];exact rfl):p:=Eq.mpr (e A B C D F G H I J L) h
theorem wH {a p:Prop}(A:a) (e:a->p:=by intro A;simp -implicitDefEqProofs only[go_sem,Bool.false_eq_true,d7,A]):p:=e A
theorem wG {p q:Prop}(h:q) (e:p=q:=by simp -implicitDefEqProofs only[go_sem,Bool.not_true,bb];exact rfl):p:=Eq.mpr (e) h
theorem yQ {a p q:Prop}(A:a) (h:q) (e:a->p=q:=by intro A;simp -implicitDefEqProofs only[go_sem,aV,aT,A];exact rfl):p:=Eq.mpr (e A) h
theorem yP {a p q:Prop}(A:a) (h:q) (e:a->p=q:=by intro A;simp -implicitDefEqProofs only[go_sem,VY,A];exact rfl):p:=Eq.mpr (e A) h
theorem yO {a b c p q:Prop}(A:a) (B:b) (C:c) (h:q) (e:a->b->c->p=q:=by intro A B C;simp -implicitDefEqProofs only[go_sem,bb,A,B,C];exact rfl):p:=Eq.mpr (e A B C) h
theorem yN {a b c d f g p q:Prop}(A:a) (B:b) (C:c) (D:d) (F:f) (G:g) (h:q) (e:a->b->c->d->f->g->p=q:=by intro A B C D F G;simp -implicitDefEqProofs only[go_sem,Bool.not_false,Bool.not_true,bb,A,B,C,D,F,G];exact rfl):p:=Eq.mpr (e A B C D F G) h
theorem yM {a b p q:Prop}(A:a) (B:b) (h:q) (e:a->b->p=q:=by intro A B;simp -implicitDefEqProofs only[go_sem,List.length_set,A,B];exact rfl):p:=Eq.mpr (e A B) h
theorem AY {a b p q:Prop}(A:a) (B:b) (h:q) (e:a->b->p=q:=by intro A B;simp -implicitDefEqProofs only[go_sem,aV,aT,A,B];exact rfl):p:=Eq.mpr (e A B) h
theorem AX {a p:Prop}(A:a) (e:a->p:=by intro A;simp -implicitDefEqProofs only[go_sem,d7,A]):p:=e A
theorem AW {a b p:Prop}(A:a) (B:b) (e:a->b->p:=by intro A B;simp -implicitDefEqProofs only[go_sem,bb,A,B]):p:=e A B
theorem AU {a p:Prop}(A:a) (e:a->p:=by intro A;simp -implicitDefEqProofs only[go_sem,bb,A]):p:=e A
theorem AT {a p:Prop}(A:a) (e:a->p:=by intro A;simp -implicitDefEqProofs only[go_sem,List.length_set,A]):p:=e A
theorem AS {a b c d f p q:Prop}(A:a) (B:b) (C:c) (D:d) (F:f) (h:q) (e:a->b->c->d->f->p=q:=by intro A B C D F;simp -implicitDefEqProofs only[go_sem,aV,aT,A,B,C,D,F];exact rfl):p:=Eq.mpr (e A B C D F) h
theorem AR {a b p q:Prop}(A:a) (B:b) (h:q) (e:a->b->p=q:=by intro A B;simp -implicitDefEqProofs only[go_sem,d7,A,B];exact rfl):p:=Eq.mpr (e A B) h
theorem AQ {a b c p q:Prop}(A:a) (B:b) (C:c) (h:q) (e:a->b->c->p=q:=by intro A B C;simp -implicitDefEqProofs only[go_sem,jN,A,B,C];exact rfl):p:=Eq.mpr (e A B C) h
theorem Ey {a p q:Prop}(A:a) (h:q) (e:a->p=q:=by intro A;simp -implicitDefEqProofs only[go_sem,aT,A];exact rfl):p:=Eq.mpr (e A) h
theorem Ex {a p q:Prop}(A:a) (h:q) (e:a->p=q:=by intro A;simp -implicitDefEqProofs only[go_sem,List.take_length,A];exact rfl):p:=Eq.mpr (e A) h
theorem Ew {a b p q:Prop}(A:a) (B:b) (h:q) (e:a->b->p=q:=by intro A B;simp -implicitDefEqProofs only[go_sem,aV,A,B];exact rfl):p:=Eq.mpr (e A B) h
theorem Ev {a b c p q:Prop}(A:a) (B:b) (C:c) (h:q) (e:a->b->c->p=q:=by intro A B C;simp -implicitDefEqProofs only[go_sem,Bool.not_true,bb,A,B,C];exact rfl):p:=Eq.mpr (e A B C) h
theorem Eu {a p q:Prop}(A:a) (h:q) (e:a->p=q:=by intro A;simp -implicitDefEqProofs only[go_sem,Bool.not_false,bb,A];exact rfl):p:=Eq.mpr (e A) h
theorem Et {a b c d f p q:Prop}(A:a) (B:b) (C:c) (D:d) (F:f) (h:q) (e:a->b->c->d->f->p=q:=by intro A B C D F;simp -implicitDefEqProofs only[go_sem,Bool.not_false,Bool.not_true,bb,A,B,C,D,F];exact rfl):p:=Eq.mpr (e A B C D F) h
theorem Es {p q:Prop}(h:q) (e:p=q:=by simp -implicitDefEqProofs only[go_sem,Bool.not_true,Bool.true_and,bb];exact rfl):p:=Eq.mpr (e) h
theorem Er {a b p q:Prop}(A:a) (B:b) (h:q) (e:a->b->p=q:=by intro A B;simp -implicitDefEqProofs only[go_sem,Bool.false_eq_true,beq_self_eq_true,bne_self_eq_false,d7,A,B];exact rfl):p:=Eq.mpr (e A B) h
theorem Ep {a b c p:Prop}(A:a) (B:b) (C:c) (e:a->b->c->p:=by intro A B C;simp -implicitDefEqProofs only[go_sem,Bool.false_eq_true,beq_self_eq_true,bne_self_eq_false,d7,z0,A,B,C]):p:=e A B C
theorem Eo {a b c p q:Prop}(A:a) (B:b) (C:c) (h:q) (e:a->b->c->p=q:=by intro A B C;simp -implicitDefEqProofs only[go_sem,beq_self_eq_true,bne_self_eq_false,d7,A,B,C];exact rfl):p:=Eq.mpr (e A B C) h
theorem En {a b c d f g p:Prop}(A:a) (B:b) (C:c) (D:d) (F:f) (G:g) (e:a->b->c->d->f->g->p:=by intro A B C D F G;simp -implicitDefEqProofs only[go_sem,Bool.false_eq_true,beq_self_eq_true,bne_self_eq_false,d7,A,B,C,D,F,G]):p:=e A B C D F G
theorem Em {p q:Prop}(h:q) (e:p=q:=by simp -implicitDefEqProofs only[go_sem,Bool.not_true,aV,aT];exact rfl):p:=Eq.mpr (e) h
theorem El {a p:Prop}(A:a) (e:a->p:=by intro A;simp -implicitDefEqProofs only[go_sem,BW,A]):p:=e A
theorem Ek {a b c d p:Prop}(A:a) (B:b) (C:c) (D:d) (e:a->b->c->d->p:=by intro A B C D;simp -implicitDefEqProofs only[go_sem,List.length_replicate,A,B,C,D]):p:=e A B C D
theorem Ej {a p q:Prop}(A:a) (h:q) (e:a->p=q:=by intro A;simp -implicitDefEqProofs only[go_sem,bW,fg,eD,eC,A];exact rfl):p:=Eq.mpr (e A) h
theorem Im {a p q:Prop}(A:a) (h:q) (e:a->p=q:=by intro A;simp -implicitDefEqProofs only[go_sem,Bool.not_true,aV,aT,A];exact rfl):p:=Eq.mpr (e A) h
theorem Il {p q:Prop}(h:q) (e:p=q:=by simp -implicitDefEqProofs only[go_sem,Bool.and_false,Bool.false_and,Bool.false_eq_true,Bool.not_false,bb];exact rfl):p:=Eq.mpr (e) h
theorem Ik {a p q:Prop}(A:a) (h:q) (e:a->p=q:=by intro A;simp -implicitDefEqProofs only[go_sem,Bool.not_true,aV,A];exact rfl):p:=Eq.mpr (e A) h
theorem N1 {a p q:Prop}(A:a) (h:q) (e:a->p=q:=by intro A;simp -implicitDefEqProofs only[go_sem,Bool.not_false,Bool.not_true,Int.toNat_zero,List.drop_zero,Nat.sub_zero,bb,A];exact rfl):p:=Eq.mpr (e A) h
theorem N0 {p:Prop}(e:p:=by simp -implicitDefEqProofs only[go_sem,Bool.not_true,aV,aT,bW,fg,eD,eC,true_or]):p:=e
theorem NZ {a p:Prop}(A:a) (e:a->p:=by intro A;simp -implicitDefEqProofs only[go_sem,Bool.not_true,aV,aT,bW,fg,eD,eC,or_true,A]):p:=e A
end Go.Proofs.YtobpfkgabdeefaaGreat.E
