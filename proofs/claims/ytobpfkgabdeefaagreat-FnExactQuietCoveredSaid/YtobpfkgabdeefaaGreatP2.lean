/- An evaluator of the model's code, proved sound (E3): I J U K L R. -/
import Derived.Test.YtobpfkgabdeefaaGreatP1
import Derived.ChangeArms
import Derived.SizedLaws
import Derived.ProofKit
import Derived.OpenShut
namespace Go.Proofs.YtobpfkgabdeefaaGreat.E
section
open Go Go.RowKit
set_option linter.unusedVariables false
def Norm (Q:Exit→St→Prop) (s:St):Prop:=Q .normal s
theorem ah1 {Q:Exit→St→Prop}{n:Nat}{tm:List (Nat × AV)}{σ:aj}{G:Nat}:Norm Q ⟨n,tm,σ,G⟩=Q .normal ⟨n,tm,σ,G⟩:=rfl
theorem Yj {len:Nat}{es:List (List AV)}(h:es.length=len):sub 0 len es=es:=by unfold sub;rw[List.drop_zero,←h,List.take_length]
theorem Gg {α:Type}{a b:Nat}{x:Option α}(h:a≤b):kQ a b x=x:=by unfold kQ;rw[Nat.ble_eq_true_of_le h]
end
section
open Go Go.RowKit
set_option linter.unusedVariables false
structure SO where
 d:Option Nat
 o:Op
 g:Option (Nat × Bool)
inductive SC (α:Type) where
 | skip
 | ret
 | exit (id:Nat)
 | seq (a b:SC α)
 | sq (ks:List Nat) (a b:SC α)
 | ct (a b:SC α)
 | cond (c:Operand) (x y:SC α)
 | block (id:Nat) (c:SC α)
 | loop (c:SC α)
 | lp (ks:List Nat) (c:SC α)
 | nD (l:List α)
 | dr (t:DT) (dY:List (List Nat)) (l:List α) (af:List (List Nat))
 | tz (id:Nat) (l:List α) (it ty:Nat) (x:Operand) (tn tb:Nat) (b:SC α)
 | bad
def so (ops:Array Oper) (o:Oper):SO:=match o.guard with
 | none=>⟨o.dst,o.op,none⟩
 | some (j,want)=>match mh ops j with
  | some t=>⟨o.dst,o.op,some (t,want)⟩
  | none=>⟨o.dst,.panic (.const (.bool true)),none⟩
def jO (ops:Array Oper):List Oper→List SO
 | []=>[]
 | o::os=>so ops o::jO ops os
def strip:Code→SC SO
 | .skip=>.skip
 | .ret=>.ret
 | .exit id=>.exit id
 | .seq a b=>.seq (strip a) (strip b)
 | .cond c x y=>.cond c (strip x) (strip y)
 | .block id c=>.block id (strip c)
 | .loop c=>.loop (strip c)
 | .region _ ops false=>.nD (jO ops ops.toList)
 | .region _ ops true=>.dr .nil [] (jO ops ops.toList) (ops.toList.map wy)
 | _=>.bad
def zf (P:Program) (o:SO) (s:St) (K:St→Prop):Prop:=∃v σ' b,W3 P (o.d.getD 0) o.o (ev s) s.σ s.G v σ' b∧put s o.d v σ' b K
def sG (s:St) (d:Option Nat) (t:Nat) (w:Bool) (X:Prop) (K:St→Prop):Prop:=match bI s.tm t with
 | some (.sc (.bool b))=>Br b (Br w X (put s d (.ba []) s.σ false K)) (Br w (put s d (.ba []) s.σ false K) X)
 | some (.ba [])=>put s d (.ba []) s.σ false K
 | _=>False
def tv (P:Program) (o:SO) (s:St) (K:St→Prop):Prop:=
 match o.g with
 | none=>zf P o s K
 | some (t,w)=>sG s o.d t w (zf P o s K) K
def ze (P:Program):List SO→St→(St→Prop)→Prop
 | [],s,Q=>Q s
 | o::os,s,Q=>tv P o s fun s'=>ze P os s' Q
def OQ:Operand→Option Nat
 | .tmp t=>some t
 | _=>none
def tM (o:SO):List Nat:=(o.o.operands.toList.filterMap OQ)++(match o.g with
 | some (t,_)=>[t]
 | none=>[])
def qL (o:SO):Bool:=match o.o with
 | .panic _=>false
 | _=>true
def NI (x y:SO):Bool:=qL x&&qL y&&
 (match x.d with
  | some d=>!(tM y).contains d&&y.d != some d
  | none=>true)&&
 (match y.d with
  | some d=>!(tM x).contains d
  | none=>true)
def sV (P:Program) (σ:aj) (e:Operand→AV) (o:SO):Option AV:=match o.g with
 | none=>kL P σ e o.o
 | some (t,w)=>match e (.tmp t) with
  | .sc (.bool b)=>match b==w with
   | true=>kL P σ e o.o
   | false=>some (.ba [])
  | .ba []=>some (.ba [])
  | _=>none
def Bs (P:Program) (o:SO) (s:St) (K:St→Prop):Prop:=cZ (sV P s.σ (ev s) o) fun v=>put s o.d v s.σ false K
def Po (P:Program) (l:List SO) (rc:List Nat) (s:St) (σ':aj):Prop:=∀k∈rc,∀x,l[k]?=some x→sV P σ' (ev s) x=sV P s.σ (ev s) x
def sT (P:Program) (l:List SO):DT→St→(St→Prop)→Prop
 | .nil,s,K=>K s
 | .pu i t,s,K=>match l[i]? with
  | none=>False
  | some o=>iu o.o=true∧Bs P o s fun s'=>sT P l t s' K
 | .ef i rc t,s,K=>match l[i]? with
  | none=>False
  | some o=>tv P o s fun s'=>Po P l rc s s'.σ∧sT P l t s' K
 | .or a b,s,K=>sT P l a s K∧sT P l b s K
def Jw (l:List SO) (dY:List (List Nat)) (i:Nat) (t:DT):Bool:=match l[i]? with
 | none=>false
 | some x=>qL x&&(match x.d with
   | some d=>!(tM x).contains d
   | none=>true)&&
  (cG t).all (fun j=>match l[j]? with
   | some o=>qL o&&(match o.d with
    | some d=>!(tM x).contains d||(cG t).all fun m=>m==j||(dY.getD j []).contains m
    | none=>true)
   | none=>false)&&
  ((cG t).all fun m=>!(dY.getD i []).contains m)&&
  (j9 t).all (fun n=>(dY.getD n.1 []).contains i||(match l[n.1]? with
   | some o=>NI x o&&(Db x.o||(match n.2 with
    | none=>true
    | some rc=>rc.contains i))
   | none=>false))
def pc (l:List SO) (dY:List (List Nat)):Bool→DT→Bool
 | _,.nil=>true
 | false,.pu i t=>!(cG t).contains i&&(Jw l dY i t&&pc l dY false t)
 | true,.pu _ _=>false
 | false,.ef i rc t=>!(cG t).contains i&&((cG t).all (fun j=>(dY.getD j []).contains i)&&pc l dY false t)
 | true,.ef i rc t=>!(cG t).contains i&&pc l dY false t
 | f,.or a b=>pc l dY true a&&(pc l dY true b&&((((cG a).all fun i=>(cG b).contains i)&&((cG b).all fun i=>(cG a).contains i))&&(Nat.beq (cG a).length (cG b).length&&
   (f||(cG a).all fun j=>(kU a++kU b).any fun h=>h==j||(dY.getD j []).contains h))))
def MA (t:DT) (dY:List (List Nat)) (l:List SO) (af:List (List Nat)):Bool:=
 (List.range af.length).all (fun i=>(af.getD i []).all fun k=>Nat.blt k i)&&
 ((List.range dY.length).all (fun i=>(dY.getD i []).all fun k=>(af.getD i []).any fun j=>j==k||(dY.getD j []).contains k)&&
 (l.all qL&&pc l dY false t&&((List.range l.length).all (fun i=>(cG t).contains i)&&((cG t).all (fun i=>Nat.blt i l.length)&&Nat.ble (cG t).length l.length))))
def sv (P:Program):SC SO→St→(Exit→St→Prop)→Prop
 | .skip,s,Q=>Q .normal s
 | .ret,s,Q=>Q .ret s
 | .exit id,s,Q=>Q (.exit id) s
 | .seq a b,s,Q=>sv P a s (iq Q fun s'=>∃gG,aI s' gG∧sv P b gG Q)∨∀c:Code,strip c=.seq a b→AS P c s Q
 | .sq _ a b,s,Q=>sv P a s (iq Q fun s'=>∃gG,aI s' gG∧sv P b gG Q)
 | .ct a b,s,Q=>sv P a s (iq Q fun s'=>∃gG,aI s' gG∧sv P b gG Q)
 | .cond c x y,s,Q=>match ev s c with
  | .sc (.bool b)=>Br b (sv P x s Q) (sv P y s Q)
  | _=>False
 | .block id c,s,Q=>sv P c s (lP id Q)
 | .loop c,s,Q=>∃(I:Nat→St→Prop) (n:Nat) (s1:St),aI s s1∧I n s1∧∀m s2,I m s2→sv P c s2 (iq Q fun s3=>∃m' s4,m'<m∧aI s3 s4∧I m' s4)
 | .lp _ c,s,Q=>∃(I:Nat→St→Prop) (n:Nat) (s1:St),aI s s1∧I n s1∧∀m s2,I m s2→sv P c s2 (iq Q fun s3=>∃m' s4,m'<m∧aI s3 s4∧I m' s4)
 | .nD l,s,Q=>ze P l s fun s'=>Q .normal s'
 | .dr _ _ l af,s,Q=>P.follows .mixedOrders=true∧∃(t:DT) (dY:List (List Nat)),MA t dY l af=true∧sT P l t s (Q .normal)
 | .tz ..,_,_=>False
 | .bad,_,_=>False
section
variable {P:Program}
theorem AS.mono {c:Code}{s:St}{Q Q':Exit→St→Prop}(h:∀e s,Q e s→Q' e s) (hg:AS P c s Q):AS P c s Q':=
 fun rd O w0 a w hr=>wp_mono (hg rd O w0 a w hr) fun e a' w' ⟨s',hq,fQ⟩=>⟨s',h _ _ hq,fQ⟩
theorem Ps {o:SO}{s:St}{K K':St→Prop}(h:∀s,K s→K' s) (hk:zf P o s K):zf P o s K':=by
 obtain⟨v,σ',b,h1,h2⟩:=hk;exact⟨v,σ',b,h1,jP h h2⟩
theorem YX {s:St}{d:Option Nat}{t:Nat}{w:Bool}{X X':Prop}{K K':St→Prop}(hX:X→X') (h:∀s,K s→K' s) (hk:sG s d t w X K):sG s d t w X' K':=by
 unfold sG at hk ⊢;split at hk
 ·rename_i b hb;cases b<;>cases w<;>simp only[wc,we]at hk ⊢<;>first|exact hX hk|exact jP h hk
 ·exact jP h hk
 cases hk
theorem wH {o:SO}{s:St}{K K':St→Prop}(h:∀s,K s→K' s) (hk:tv P o s K):tv P o s K':=by
 unfold tv at hk ⊢;split at hk
 ·exact Ps h hk
 exact YX (Ps h) h hk
theorem YW {os:List SO}:∀{s:St}{K K':St→Prop},(∀s,K s→K' s)→ze P os s K→ze P os s K':=by
 induction os with
 | nil=>exact fun h hk=>h _ hk
 | cons o os ih=>exact fun h hk=>wH (fun s' hs=>ih h hs) hk
theorem Ja {o:SO}{s:St}{K K':St→Prop}(h:∀s,K s→K' s) (hk:Bs P o s K):Bs P o s K':=by
 obtain⟨v,h1,h2⟩:=f7 hk;exact ml h1 (jP h h2)
theorem Bq {l:List SO}:∀{t:DT}{s:St}{K K':St→Prop},(∀s,K s→K' s)→sT P l t s K→sT P l t s K'
 | .nil,s,K,K',h,hk=>h _ hk
 | .pu i t,s,K,K',h,hk=>by
  unfold sT at hk ⊢;split at hk
  ·cases hk
  exact⟨hk.1,Ja (fun s' hs=>Bq h hs) hk.2⟩
 | .ef i rc t,s,K,K',h,hk=>by
  unfold sT at hk ⊢;split at hk
  ·cases hk
  exact wH (fun s' hs=>⟨hs.1,Bq h hs.2⟩) hk
 | .or a b,s,K,K',h,hk=>⟨Bq h hk.1,Bq h hk.2⟩
theorem Pb {ops:Array Oper}{o:Oper}(hg:o.guard=none):so ops o=⟨o.dst,o.op,none⟩:=by simp[so,hg]
theorem Pa {ops:Array Oper}{o:Oper}{j:Nat}{w:Bool}{t:Nat}(hg:o.guard=some (j,w)) (hs:mh ops j=some t):so ops o=⟨o.dst,o.op,some (t,w)⟩:=by simp[so,hg,hs]
theorem Pc {ops:Array Oper}{o:Oper}{j:Nat}{w:Bool}(hg:o.guard=some (j,w)) (hs:mh ops j=none):so ops o=⟨o.dst,.panic (.const (.bool true)),none⟩:=by simp[so,hg,hs]
theorem Pq {ops:Array Oper}{o:Oper}{s:St}{K:St→Prop}(hk:tv P (so ops o) s K):kG P ops o s K:=by
 unfold kG;cases hg:o.guard with
 | none=>
  rw[Pb hg]at hk;exact hk
 | some jw=>
  obtain⟨j,want⟩:=jw;simp only;cases hs:mh ops j with
  | none=>
   rw[Pc hg hs]at hk;obtain⟨v,σ',b,h1,h2⟩:=hk;rcases h1 with ⟨h,_⟩|⟨h,_⟩|⟨_,c,n,h,_⟩|⟨h,_⟩|⟨_,c,n,x,h,_⟩|⟨_,t,h,_⟩|⟨_,t,x,k,ok,K,E,r,g,p,f,C,res,zv,h,_⟩|⟨_,t,m,k,x,K,E,r,g,p,f,C,ck,cx,h,_⟩
   all_goals cases h
  | some t=>
   rw[Pa hg hs]at hk;exact hk
theorem Jb {ops:Array Oper}:∀{os:List Oper}{s:St}{K K':St→Prop},(∀s,K s→K' s)→ze P (jO ops os) s K→yW P ops os s K'
 | [],s,K,K',h,hk=>h _ hk
 | o::os,s,K,K',h,hk=>yU (fun s' hs=>Jb h hs) (Pq hk)
theorem Pe {ops:Array Oper}:∀(os:List Oper) (i:Nat),(jO ops os)[i]?=(os[i]?).map (so ops)
 | [],i=>by simp[jO]
 | o::os,0=>rfl
 | o::os,i+1=>by simpa[jO]using Pe os i
theorem Pd {ops:Array Oper}:∀(os:List Oper),(jO ops os).length=os.length
 | []=>rfl
 | o::os=>by simp[jO,Pd os]
theorem RH {op:Op}{t:Nat}(h:t∈op.operands.toList.filterMap fun|.tmp t=>some t|_=>none):t∈op.operands.toList.filterMap OQ:=by
 obtain⟨a,h1,h2⟩:=List.mem_filterMap.1 h;refine List.mem_filterMap.2 ⟨a,h1,?_⟩;cases a with
 | tmp u=>exact h2
 | _=>cases h2
theorem Bm {ops:Array Oper}{o:Oper}(h:qL (so ops o)=true):(so ops o).o=o.op∧(so ops o).d=o.dst∧∀t∈o.looksAt ops,t∈tM (so ops o):=by
 unfold so at h ⊢;cases hg:o.guard with
 | none=>exact ⟨rfl,rfl,fun t ht=>by
   rcases List.mem_append.1 ht with ht|ht
   ·exact List.mem_append_left _ (RH ht)
   simp[hg]at ht⟩
 | some jw=>
  obtain⟨j,want⟩:=jw;rw[hg]at h;simp only at h ⊢;cases hs:mh ops j with
  | none=>rw[hs]at h;cases h
  | some t'=>
   refine⟨rfl,rfl,fun t ht=>?_⟩;have tU:(ops[j]?).bind (·.dst)=some t':=by
    unfold mh at hs;split at hs
    ·rename_i hx;rw[hx];exact hs
    cases hs
   rcases List.mem_append.1 ht with ht|ht
   ·exact List.mem_append_left _ (RH ht)
   simp[hg,tU]at ht;exact List.mem_append_right _ (by simp[ht])
theorem YG {ops:Array Oper}{x y:Oper}(h:NI (so ops x) (so ops y)=true):x.apart ops y=true:=by
 unfold NI at h;simp only[Bool.and_eq_true]at h;obtain⟨⟨⟨h1,h2⟩,h3⟩,h4⟩:=h;obtain⟨a1,a2,a3⟩:=Bm h1;obtain⟨b1,b2,b3⟩:=Bm h2;unfold Oper.apart;rw[a2,b2]at h3;rw[b2]at h4;simp only[Bool.and_eq_true];constructor
 ·cases hd:x.dst with
  | none=>rfl
  | some d=>
   rw[hd]at h3;simp only[Bool.and_eq_true,Bool.not_eq_true']at h3 ⊢;refine⟨?_,h3.2⟩;cases hc:(y.looksAt ops).contains d with
   | false=>rfl
   | true=>
    have:=b3 d (by simpa using hc);have h5:(tM (so ops y)).contains d=true:=by simpa using this
    rw[h5]at h3;exact absurd h3.1 (by simp)
 cases hd:y.dst with
 | none=>rfl
 | some d=>
  rw[hd]at h4;simp only[Bool.not_eq_true']at h4 ⊢;cases hc:(x.looksAt ops).contains d with
  | false=>rfl
  | true=>
   have:=a3 d (by simpa using hc);have h5:(tM (so ops x)).contains d=true:=by simpa using this
   rw[h5]at h4;cases h4
theorem aad {o:SO}(h:iu o.o=true):qL o=true:=by
 unfold qL;split
 ·rename_i he;rw[he]at h;cases h
 rfl
theorem I9 {ops:Array Oper}{o:Oper}{σ:aj}{e:Operand→AV}(hr:qL (so ops o)=true):sV P σ e (so ops o)=o7 P ops σ e o:=by
 unfold o7;cases hg:o.guard with
 | none=>rw[Pb hg];rfl
 | some jw=>
  obtain⟨j,want⟩:=jw;simp only;cases hs:mh ops j with
  | none=>rw[Pc hg hs]at hr;cases hr
  | some t=>rw[Pa hg hs];rfl
theorem Bp {ops:Array Oper}{l:List SO}(hl:∀i:Nat,l[i]?=(ops[i]?).map (so ops)) (kT:∀(i:Nat) (x:SO),l[i]?=some x→qL x=true):∀{t:DT}{s:St}{K:St→Prop},sT P l t s K→gP P ops t s K
 | .nil,s,K,hk=>hk
 | .pu i t,s,K,hk=>by
  unfold sT at hk;unfold gP;rw[hl]at hk;cases ho:ops[i]? with
  | none=>rw[ho]at hk;cases hk
  | some o=>
   rw[ho]at hk;simp only[Option.map_some]at hk ⊢;have hr:=aad hk.1;obtain⟨e1,e2,_⟩:=Bm hr;refine⟨e1▸hk.1,?_⟩;obtain⟨v,h1,h2⟩:=f7 hk.2;rw[I9 hr]at h1;rw[e2]at h2;exact ml h1 (jP (fun s' hs=>Bp hl kT hs) h2)
 | .ef i rc t,s,K,hk=>by
  unfold sT at hk;unfold gP;rw[hl]at hk;cases ho:ops[i]? with
  | none=>rw[ho]at hk;cases hk
  | some o=>
   rw[ho]at hk;simp only[Option.map_some]at hk ⊢;refine Pq (wH (fun s' hs=>⟨fun k nf x hx=>?_,Bp hl kT hs.2⟩) hk);have dR:l[k]?=some (so ops x):=by rw[hl,hx];rfl
   have:=hs.1 k nf _ dR
   rwa[I9 (kT k _ dR),I9 (kT k _ dR)]at this
 | .or a b,s,K,hk=>⟨Bp hl kT hk.1,Bp hl kT hk.2⟩
theorem aaf {ops:Array Oper}{l:List SO}(hl:∀i:Nat,l[i]?=(ops[i]?).map (so ops)) {dY:List (List Nat)}{i:Nat}{t:DT}(h:Jw l dY i t=true):WQ ops (fun i=>dY.getD i []) i t:=by
 unfold Jw at h;rw[hl]at h;cases hx:ops[i]? with
 | none=>rw[hx]at h;cases h
 | some x=>
  rw[hx]at h;simp only[Option.map_some,Bool.and_eq_true,List.all_eq_true,Bool.or_eq_true]at h;obtain⟨⟨⟨⟨hr,sx⟩,acV⟩,acA⟩,acL⟩:=h;obtain⟨e1,e2,e3⟩:=Bm hr;have QQ:∀{d:Nat},(!(tM (so ops x)).contains d)=true→d ∉ x.looksAt ops:=by
   intro d hd cc;have:(tM (so ops x)).contains d=true:=by simpa using e3 d cc
   rw[this]at hd;cases hd
  refine⟨⟨x,hx⟩,fun y hy d hd=>?_,fun y hy j hj o ho d hd=>?_,fun m hm cc=>?_,fun y hy n hn o ho=>?_⟩
  ·rw[hx]at hy;cases hy;rw[e2,hd]at sx;exact QQ sx
  ·rw[hx]at hy;cases hy;have h1:=acV j hj;rw[hl,ho]at h1;simp only[Option.map_some,Bool.and_eq_true]at h1;obtain⟨f1,f2,f3⟩:=Bm h1.1;have h2:=h1.2;rw[f2,hd]at h2;simp only[Bool.or_eq_true,List.all_eq_true,beq_iff_eq]at h2;rcases h2 with h2|h2
   ·exact .inl (QQ h2)
   exact .inr fun m hm=>(h2 m hm).imp id fun e=>by simpa using e
  ·have h1:=acA m hm;have:(dY.getD i []).contains m=true:=by simpa using cc
   rw[this]at h1;cases h1
  rw[hx]at hy;cases hy;rcases acL n hn with h1|h1
  ·exact .inl (by simpa using h1)
  right;rw[hl,ho]at h1;simp only[Option.map_some,Bool.and_eq_true,Bool.or_eq_true]at h1;refine⟨YG h1.1,?_⟩;rcases h1.2 with h2|h2
  ·exact .inl (e1▸h2)
  cases hk:n.2 with
  | none=>exact .inr (.inl rfl)
  | some rc=>rw[hk]at h2;exact .inr (.inr ⟨rc,rfl,by simpa using h2⟩)
theorem zu {ops:Array Oper}{l:List SO}(hl:∀i:Nat,l[i]?=(ops[i]?).map (so ops)) {dY:List (List Nat)}:∀{t:DT}{f:Bool},pc l dY f t=true→mo ops (fun i=>dY.getD i []) f t
 | .nil,_,_=>by unfold mo;trivial
 | .pu i t,false,h=>by
  simp only[pc,Bool.and_eq_true,Bool.not_eq_true']at h
  exact ⟨fun cc=>by have:(cG t).contains i=true:=by simpa using cc
                    rw[this]at h;exact absurd h.1 (by simp),aaf hl h.2.1,zu hl h.2.2⟩
 | .pu i t,true,h=>by cases h
 | .ef i rc t,false,h=>by
  simp only[pc,Bool.and_eq_true,Bool.not_eq_true',List.all_eq_true]at h
  exact ⟨fun cc=>by have:(cG t).contains i=true:=by simpa using cc
                    rw[this]at h;exact absurd h.1 (by simp),fun j hj=>by simpa using h.2.1 j hj,zu hl h.2.2⟩
 | .ef i rc t,true,h=>by
  simp only[pc,Bool.and_eq_true,Bool.not_eq_true']at h
  exact ⟨fun cc=>by have:(cG t).contains i=true:=by simpa using cc
                    rw[this]at h;exact absurd h.1 (by simp),zu hl h.2⟩
 | .or a b,f,h=>by
  have h':pc l dY true a=true∧pc l dY true b=true∧(((cG a).all fun i=>(cG b).contains i)=true∧((cG b).all fun i=>(cG a).contains i)=true)∧Nat.beq (cG a).length (cG b).length=true∧
    (f=true∨((cG a).all fun j=>(kU a++kU b).any fun h=>h==j||(dY.getD j []).contains h)=true):=by
   cases f<;>simp only[pc,Bool.and_eq_true,Bool.or_eq_true]at h<;>first|exact h|exact⟨h.1,h.2.1,h.2.2.1,h.2.2.2.1,.inl rfl⟩
  obtain⟨h1,h2,⟨h3,h4⟩,h5,h6⟩:=h';simp only[List.all_eq_true]at h3 h4;have key:mo ops (fun i=>dY.getD i []) true a∧mo ops (fun i=>dY.getD i []) true b∧((∀i,i∈cG a↔i∈cG b)∧(cG a).length=(cG b).length)∧(f=false→∀j∈cG a,∃h,(h∈kU a∨h∈kU b)∧(h=j∨h∈dY.getD j [])):=by
   refine⟨zu hl h1,zu hl h2,⟨fun i=>⟨fun hi=>by simpa using h3 i hi,fun hi=>by simpa using h4 i hi⟩,Nat.eq_of_beq_eq_true h5⟩,fun hf j hj=>?_⟩;rcases h6 with h6|h6
   ·rw[hf]at h6;cases h6
   simp only[List.all_eq_true,List.any_eq_true,List.mem_append,Bool.or_eq_true,beq_iff_eq]at h6;obtain⟨h,hh,iH⟩:=h6 j hj;exact⟨h,hh,iH.imp id fun e=>by simpa using e⟩
  cases f<;>exact key
theorem rS:∀(c:Code) {s:St}{Q Q':Exit→St→Prop},(∀e s,Q e s→Q' e s)→sv P (strip c) s Q→vc P c s Q'
 | .skip,s,Q,Q',h,hk=>h _ _ hk
 | .ret,s,Q,Q',h,hk=>h _ _ hk
 | .exit id,s,Q,Q',h,hk=>h _ _ hk
 | .seq a b,s,Q,Q',h,hk=>by
  rcases hk with hk|hk
  case inr=>exact .inr ((hk _ rfl).mono h)
  exact .inl (rS a (fun e s hs=>by
   cases e with
   | normal=>
    obtain⟨gG,hw,hs⟩:=hs;exact⟨gG,hw,rS b h hs⟩
   | _=>exact h _ _ hs) hk)
 | .cond c x y,s,Q,Q',h,hk=>by
  simp only[strip,sv]at hk;simp only[vc];split at hk
  ·rename_i b hb;rw[hb];cases b with
   | true=>exact rS x h hk
   | false=>exact rS y h hk
  cases hk
 | .block id c,s,Q,Q',h,hk=>rS c (fun e s hs=>by
   cases e with
   | exit kR=>
    simp only[lP]at hs ⊢;split at hs
    ·rename_i hh;exact h _ _ hs
    rename_i hh;exact h _ _ hs
   | _=>exact h _ _ hs) hk
 | .loop c,s,Q,Q',h,hk=>by
  obtain⟨I,n,s1,h1,h2,h3⟩:=hk;exact⟨I,n,s1,h1,h2,fun m s2 hI=>rS c (fun e s hs=>by
   cases e with
   | normal=>exact hs
   | _=>exact h _ _ hs) (h3 m s2 hI)⟩
 | .region _ ops draw,s,Q,Q',h,hk=>by
  cases draw with
  | false=>exact Jb (fun s hs=>h _ _ hs) hk
  | true=>
   obtain⟨hm,t,dY,hc,h5⟩:=hk;have dW:(jO ops ops.toList).length=ops.size:=by rw[Pd];simp
   have hl:∀i:Nat,(jO ops ops.toList)[i]?=(ops[i]?).map (so ops):=by intro i;rw[Pe];simp
   simp only[MA,Bool.and_eq_true,List.all_eq_true,List.mem_range,List.any_eq_true,Bool.or_eq_true,beq_iff_eq]at hc;obtain⟨h1,h2,⟨h0,h3⟩,h4,h6,h7⟩:=hc;have kA:∀i:Nat,(ops.toList.map wy).getD i []=match ops[i]? with|some o=>wy o|none=>[]:=by
    intro i;rw[List.getD_eq_getElem?_getD,List.getElem?_map];have:ops.toList[i]?=ops[i]?:=by simp
    rw[this];cases ops[i]?<;>rfl
   refine⟨hm,t,fun i=>dY.getD i [],⟨fun i o k ho hw=>?_,fun i k hk=>?_⟩,zu hl h3,fun i=>⟨fun hi=>?_,fun hi=>?_⟩,by rw[←dW];exact Nat.le_of_ble_eq_true h7,tt (fun s hs=>h _ _ hs) (Bp hl (fun i x hx=>h0 x (dh hx)) h5)⟩
   ·have ab:i<(ops.toList.map wy).length:=by simpa using (Array.getElem?_eq_some_iff.1 ho).1
    have:=h1 i ab k (by rw[kA,ho];exact Ox.2 hw);exact Nat.le_of_ble_eq_true this
   ·have ab:i<dY.length:=by
     rcases bm i dY.length with hx|hx
     ·exact hx
     simp[List.getD_eq_getElem?_getD,List.getElem?_eq_none hx]at hk
    obtain⟨j,hj,e⟩:=h2 i ab k hk;rw[kA]at hj;cases ho:ops[i]? with
    | none=>rw[ho]at hj;simp at hj
    | some o=>rw[ho]at hj;exact⟨o,j,rfl,Ox.1 hj,e.imp id fun e=>by simpa using e⟩
   ·have:=Nat.le_of_ble_eq_true (h6 i hi);rw[dW]at this;exact this
   have:=h4 i (by rw[dW];exact hi)
   simpa using this
 | .rangeFunc ..,s,Q,Q',h,hk=>by cases hk
 | .scope _,s,Q,Q',h,hk=>by cases hk
 | .label _,s,Q,Q',h,hk=>by cases hk
 | .goto _,s,Q,Q',h,hk=>by cases hk
 | .refuse _,s,Q,Q',h,hk=>by cases hk
end
inductive I where
 | mv (d:Nat) (x:Operand)
 | as (d:Nat) (x:Operand)
 | pk (d:Nat) (c a b:Operand)
 | al (d t:Nat)
 | bx (d t:Nat) (x:Operand)
 | ld (d t:Nat) (x:Operand)
 | st (t:Nat) (a x:Operand)
 | fa (d t:Nat) (x:Operand) (f:Nat)
 | ex (d:Nat) (x:Operand) (i:Nat)
 | nc (d:Nat) (x:Operand)
 | bn (d:Nat) (op:BinOp) (t:Nat) (x y:Operand) (u:Nat)
 | un (d:Nat) (op:UnOp) (t:Nat) (x:Operand)
 | cv (d s t:Nat) (x:Operand)
 | ln (d t:Nat) (x:Operand)
 | mn (d:Nat) (x y:Operand) (ts:List Nat)
 | mx (d:Nat) (x y:Operand) (ts:List Nat)
 | ia (d t:Nat) (x y:Operand)
 | ix (d t:Nat) (x y:Operand)
 | fd (d t:Nat) (x:Operand) (f:Nat)
 | sl (d t:Nat) (x:Operand) (lo hi mx:Option Operand)
 | bd (d t:Nat) (ps:List (Nat × Operand))
 | bo (d t n:Nat) (ps:List (Nat × Operand))
 | bs (d t n:Nat) (ps:List (Nat × Operand))
 | ms (d t:Nat) (x y:Operand)
 | ap (d:Option Nat) (t tx:Nat) (x y:Operand)
 | cp (d:Option Nat) (t tx:Nat) (x y:Operand)
 | sb (d s t:Nat) (x:Operand)
 | ca (d:Option Nat) (f:Nat) (xs:List Operand) (ts:List Nat)
 | cl (d:Option Nat) (f:Nat) (xs:List Operand) (ts:List Nat)
 | cm (d:Option Nat) (f:Nat) (ms:List Bool) (xs:List Operand) (ts:List Nat)
 | cn (d:Option Nat) (f:Nat) (ms:List Bool) (xs:List Operand) (ts:List Nat)
 | cu (d:Option Nat) (x:Operand) (xs:List Operand) (ts:List Nat)
 | lz (d t g:Nat)
 | mf (d f:Nat) (x:Operand)
 | mk (d t:Nat)
 | lu (d t:Nat) (x k:Operand) (ok:Bool)
 | mu (t:Nat) (m k x:Operand)
 | op (d:Option Nat) (o:Op)
inductive J where
 | p (i:I)
 | g (t:Nat) (w:Bool) (i:I)
def I.so:I→SO
 | .mv d x=>⟨some d,.move x,none⟩
 | .as d x=>⟨some d,.assign x,none⟩
 | .pk d c a b=>⟨some d,.pick c a b,none⟩
 | .al d t=>⟨some d,.alloc t,none⟩
 | .bx d t x=>⟨some d,.box t x,none⟩
 | .ld d t x=>⟨some d,.load t x,none⟩
 | .st t a x=>⟨none,.store t a x,none⟩
 | .fa d t x f=>⟨some d,.fieldAddr t x f,none⟩
 | .ex d x i=>⟨some d,.extract x i,none⟩
 | .nc d x=>⟨some d,.nilCheck x,none⟩
 | .bn d b t x y u=>⟨some d,.binOp b t x y u,none⟩
 | .un d b t x=>⟨some d,.unOp b t x,none⟩
 | .cv d s t x=>⟨some d,.convert s t x,none⟩
 | .ln d t x=>⟨some d,.call {callee:=.builtin .len,args:=#[x],argTypes:=#[t]},none⟩
 | .mn d x y ts=>⟨some d,.call {callee:=.builtin .min,args:=#[x,y],argTypes:=ts.toArray},none⟩
 | .mx d x y ts=>⟨some d,.call {callee:=.builtin .max,args:=#[x,y],argTypes:=ts.toArray},none⟩
 | .ia d t x y=>⟨some d,.indexAddr t x y,none⟩
 | .ix d t x y=>⟨some d,.index t x y,none⟩
 | .fd d t x f=>⟨some d,.field t x f,none⟩
 | .sl d t x lo hi m=>⟨some d,.slice t x lo hi m,none⟩
 | .bd d t ps=>⟨some d,.build t ps.toArray,none⟩
 | .bo d t n ps=>⟨some d,.buildSlice t n ps.toArray,none⟩
 | .bs d t n ps=>⟨some d,.buildSlice t n ps.toArray,none⟩
 | .ms d t x y=>⟨some d,.makeSlice t x y,none⟩
 | .ap d t tx x y=>⟨d,.call {callee:=.builtin .append,args:=#[x,y],argTypes:=#[t,tx]},none⟩
 | .cp d t tx x y=>⟨d,.call {callee:=.builtin .copy,args:=#[x,y],argTypes:=#[t,tx]},none⟩
 | .sb d s t x=>⟨some d,.convert s t x,none⟩
 | .ca d f xs ts=>⟨d,.call {callee:=.value (.func f),args:=xs.toArray,argTypes:=ts.toArray},none⟩
 | .cl d f xs ts=>⟨d,.call {callee:=.value (.func f),args:=xs.toArray,argTypes:=ts.toArray},none⟩
 | .cm d f _ xs ts=>⟨d,.call {callee:=.value (.func f),args:=xs.toArray,argTypes:=ts.toArray},none⟩
 | .cn d f _ xs ts=>⟨d,.call {callee:=.value (.func f),args:=xs.toArray,argTypes:=ts.toArray},none⟩
 | .cu d x xs ts=>⟨d,.call {callee:=.value x,args:=xs.toArray,argTypes:=ts.toArray},none⟩
 | .lz d t g=>⟨some d,.load t (.global g),none⟩
 | .mf d f x=>⟨some d,.makeFunc (.func f) #[x] #[],none⟩
 | .mk d t=>⟨some d,.makeMap t none,none⟩
 | .lu d t x k ok=>⟨some d,.lookup t x k ok,none⟩
 | .mu t m k x=>⟨none,.mapUpdate t m k x,none⟩
 | .op d o=>⟨d,o,none⟩
def pU:List J→List SO
 | []=>[]
 | .p i::l=>⟨i.so.d,i.so.o,none⟩::pU l
 | .g t w i::l=>⟨i.so.d,i.so.o,some (t,w)⟩::pU l
def ie:SC J→SC SO
 | .skip=>.skip
 | .ret=>.ret
 | .exit id=>.exit id
 | .seq a b=>.seq (ie a) (ie b)
 | .sq _ a b=>.seq (ie a) (ie b)
 | .ct a b=>.seq (ie a) (ie b)
 | .cond c x y=>.cond c (ie x) (ie y)
 | .block id c=>.block id (ie c)
 | .loop c=>.loop (ie c)
 | .lp _ c=>.loop (ie c)
 | .nD l=>.nD (pU l)
 | .dr _ _ l af=>.dr .nil [] (pU l) af
 | .tz id l it ty x tn tb b=>.seq (.nD (pU l++[⟨some it,.range ty x,none⟩])) (.block id (.loop (.seq (.nD [⟨some tn,.next (.tmp it) true,none⟩,⟨some tb,.extract (.tmp tn) 0,none⟩]) (.seq (.cond (.tmp tb) .skip (.exit id)) (ie b)))))
 | .bad=>.bad
def cE (tm:List (Nat × AV)):Operand→AV
 | .tmp t=>match bI tm t with
  | some v=>v
  | none=>.dead
 | .const v=>v8 v
 | .func f=>.sc (.func (.func f) #[] #[])
 | .global _=>.dead
def mM (tm:List (Nat × AV)):List Operand→List AV
 | []=>[]
 | x::l=>cE tm x::mM tm l
def fx:List (Nat × AV)→Nat→AV
 | [],_=>.dead
 | (k,v)::l,n=>match k==n with
  | true=>v
  | false=>fx l n
def yp (tm:List (Nat × AV)):List (Nat × Operand)→List (Nat × AV)
 | []=>[]
 | x::l=>(x.1,cE tm x.2)::yp tm l
def tB (n d:Nat) (tm:List (Nat × AV)) (G:Nat) (K:St→Prop) (x:AV × aj):Prop:=Br (Nat.blt d n) (K ⟨n,(d,x.1)::tm,x.2,G+1⟩) False
def iY (n d:Nat) (tm:List (Nat × AV)) (σ:aj) (G:Nat) (K:St→Prop) (v:AV):Prop:=Br (Nat.blt d n) (K ⟨n,(d,v)::tm,σ,G⟩) False
def Fb (n:Nat) (tm:List (Nat × AV)) (G:Nat) (K:St→Prop) (σ:aj):Prop:=K ⟨n,tm,σ,G⟩
def oi (n:Nat) (tm:List (Nat × AV)) (G:Nat) (K:St→Prop):Option Nat→AV × aj→Prop
 | none,x=>K ⟨n,tm,x.2,G+1⟩
 | some d,x=>Br (Nat.blt d n) (K ⟨n,(d,x.1)::tm,x.2,G+1⟩) False
def Ix (P:Program) (n:Nat) (d:Option Nat) (tm:List (Nat × AV)) (σ:aj) (G f:Nat) (K:St→Prop) (x:aj × List AV):Prop:=aq P f x.2 (Ee ⟨n,tm,σ,G⟩ d K x.1)
def N3 (Z:Nat→Nat→List Nat→dZ→Row→Prop) (r g:Nat) (p:List Nat) (f:dZ):Option Row→Prop
 | some row=>Z r g p f row
 | none=>False
def Ea (Z:Nat→Nat→List Nat→dZ→Row→Prop) (r g:Nat) (p:List Nat):Option (Nat × dZ)→Prop
 | some (g',f)=>match Nat.beq g' g with
  | true=>N3 Z r g p f (f p)
  | false=>False
 | none=>False
def te (σ:aj) (Z:Nat→Nat→List Nat→dZ→Row→Prop):AV→Prop
 | .mr r g p=>Ea Z r g p (bI σ r)
 | _=>False
def Ii (P:Program) (t:Nat) (k:AV) (ok:Bool) (K:AV→Prop) (row:Row):Prop:=∃C res K0 E zv,row=gR C∧tG P t=some (K0,E)∧Eg P E=some zv∧sk P K0 k=true∧oQ P K0 k C=some res∧K (Ca zv ok res)
def N2 (P:Program) (t:Nat) (k x:AV) (σ:aj) (K:aj→Prop) (r g:Nat) (p:List Nat) (f:dZ) (row:Row):Prop:=∃C K0 E ck cx,row=gR C∧tG P t=some (K0,E)∧sk P K0 k=true∧oQ P K0 k C=some none∧kB k=some ck∧kB x=some cx∧K (bQ σ r (g,dB f p (gR (C++[(k,x)]))))
theorem RG {P:Program}{t:Nat}{k:AV}{ok:Bool}{K:AV→Prop}{C:MC}{res:Option AV}{K0 E:Nat}(hT:tG P t=some (K0,E)) {zv:Value}(hE:Eg P E=some zv) (hk:sk P K0 k=true) (hf:oQ P K0 k C=some res) (h:K (Ca zv ok res)):Ii P t k ok K (gR C):=⟨C,res,K0,E,zv,rfl,hT,hE,hk,hf,h⟩
theorem aa1 {P:Program}{t:Nat}{k x:AV}{σ:aj}{K:aj→Prop}{r g:Nat}{p:List Nat}{f:dZ}{C:MC}{K0 E:Nat}{ck cx:List Nat}(hT:tG P t=some (K0,E)) (hk:sk P K0 k=true) (hf:oQ P K0 k C=some none) (h1:kB k=some ck) (h2:kB x=some cx) (h:K (bQ σ r (g,dB f p (gR (C++[(k,x)]))))):N2 P t k x σ K r g p f (gR C):=⟨C,K0,E,ck,cx,rfl,hT,hk,hf,h1,h2,h⟩
theorem J7 {σ:aj}{Z:Nat→Nat→List Nat→dZ→Row→Prop}{v:AV}(h:te σ Z v):∃r g p f row,v=.mr r g p∧bI σ r=some (g,f)∧f p=some row∧Z r g p f row:=by
 cases v<;>first|exact h.elim|skip
 rename_i r g p;have h:Ea Z r g p (bI σ r):=h;cases hl:bI σ r with
 | none=>rw[hl]at h;exact h.elim
 | some gf=>
  obtain⟨g',f⟩:=gf;rw[hl]at h;simp only[Ea]at h;split at h
  ·rename_i hg;have hg:=Nat.eq_of_beq_eq_true hg;subst hg;cases hf:f p with
   | none=>rw[hf]at h;exact h.elim
   | some row=>rw[hf]at h;exact⟨_,_,_,f,row,rfl,hl,hf,h⟩
  cases h
theorem Ro {σ:aj}{Z Z':Nat→Nat→List Nat→dZ→Row→Prop}{v:AV}(hz:∀r g p f row,Z r g p f row→Z' r g p f row) (h:te σ Z v):te σ Z' v:=by
 obtain⟨r,g,p,f,row,rfl,h1,h2,h3⟩:=J7 h;simp only[te,Ea,N3,h1,h2,Nat.beq_refl];exact hz _ _ _ _ _ h3
def dw (P:Program) (i:I) (s:St) (K:St→Prop):Prop:=match i with
 | .ca d f xs _=>cZ (oP s.σ (mM s.tm xs)) (Ix P s.n d s.tm s.σ s.G f K)
 | .cl d f xs _=>ED P s d f (mM s.tm xs) K
 | .cm d f ms xs _=>IK P s d f ms (mM s.tm xs) K
 | .bs d t n ps=>cZ (yK P d s.G s.σ t n (yp s.tm ps)) (oi s.n s.tm s.G K (some d))
 | .ap d t tx x y=>cZ (AO P (d.getD 0) s.G s.σ t tx (cE s.tm x) (cE s.tm y)) (oi s.n s.tm s.G K d)
 | .cp d t tx x y=>cZ (AL P s.σ t tx (cE s.tm x) (cE s.tm y)) (oi s.n s.tm s.G K d)
 | .sb d r t x=>match tk P r with
  | some .string=>cZ (zg P d s.G s.σ t (cE s.tm x)) (oi s.n s.tm s.G K (some d))
  | _=>False
 | .cn d f ms xs _=>IJ P s d f ms (mM s.tm xs) K
 | .cu d x xs _=>cZ (Af (cE s.tm x)) fun f=>ED P s d f (.agg []::mM s.tm xs) K
 | .lz d t _=>cZ (DW P t) fun v=>put s (some d) v s.σ false K
 | .mf d f x=>cZ (AJ f (cE s.tm x)) fun v=>put s (some d) v s.σ false K
 | .mk d t=>put s (some d) (.mr d s.G []) (bQ s.σ d (s.G,one (gR []))) true K
 | .lu d t x k ok=>te s.σ (fun r g p f row=>Ii P t (cE s.tm k) ok (fun v=>put s (some d) v s.σ false K) row) (cE s.tm x)
 | .mu t m k x=>te s.σ (N2 P t (cE s.tm k) (cE s.tm x) s.σ fun σ'=>put s none .dead σ' false K) (cE s.tm m)
 | i=>cZ (jJ P (i.so.d.getD 0) s.G (cE s.tm) s.σ i.so.o) (pM s i.so.d (uv i.so.o) K)
def qW (i:I) (s:St) (K:St→Prop):Prop:=put s i.so.d (.ba []) s.σ false K
section
variable {P:Program}{n G:Nat}{tm:List (Nat × AV)}{σ:aj}{Q:Exit→St→Prop}{K:St→Prop}{d t f i s u:Nat}{x y z:Operand}{l:List J}{w:Bool}
theorem L9:∀{tm:List (Nat × AV)}{t:Nat},cE tm (.tmp t)=fx tm t:=by
 intro tm t;induction tm with
 | nil=>rfl
 | cons x l ih=>
  obtain⟨k,v⟩:=x;simp only[cE,bI,fx]at ih ⊢;cases hk:k==t with
  | true=>rfl
  | false=>exact ih
theorem Hd:ev ⟨n,tm,σ,G⟩ x=cE tm x:=by cases x<;>rfl
theorem Hc:(ev ⟨n,tm,σ,G⟩)=cE tm:=funext fun _=>Hd
theorem l6 (s:St):ev s=cE s.tm:=by obtain⟨n,tm,σ,G⟩:=s;exact Hc
theorem Rl:∀(xs:List Operand),xs.map (cE tm)=mM tm xs
 | []=>rfl
 | x::xs=>by rw[List.map_cons,Rl xs];rfl
theorem FO:∀(xs:List (Nat × Operand)),xs.map (fun x=>(x.1,cE tm x.2))=yp tm xs
 | []=>rfl
 | x::xs=>by rw[List.map_cons,FO xs];rfl
theorem Fc {s:St}{d:Option Nat}{x:AV × aj}(h:oi s.n s.tm s.G K d x):put s d x.1 x.2 true K:=by
 unfold put;cases d with
 | none=>exact h
 | some d=>
  simp only[oi]at h ⊢;cases hb:Nat.blt d s.n with
  | true=>rw[hb]at h;exact h
  | false=>rw[hb]at h;exact h.elim
theorem KG {i:I}{s:St}(h:dw P i s K):zf P ⟨i.so.d,i.so.o,none⟩ s K:=by
 have plain:cZ (jJ P (i.so.d.getD 0) s.G (cE s.tm) s.σ i.so.o) (pM s i.so.d (uv i.so.o) K)→zf P ⟨i.so.d,i.so.o,none⟩ s K:=by
  intro h;obtain⟨x,h1,h2⟩:=f7 h;exact⟨x.1,x.2,_,.inl ⟨by rw[l6];exact h1,rfl⟩,h2⟩
 have args:∀(xs:List Operand) (c:Call),c.args=xs.toArray→c.args.toList.map (ev s)=mM s.tm xs:=by
  intro xs c hc;rw[hc,List.toList_toArray,l6,Rl]
 cases i with
 | ca d f xs ts=>
  obtain⟨⟨σ1,as⟩,h1,res,rf,h2,h3,h4⟩:=f7 h;exact⟨nm (d.getD 0) s.G res,np σ1 (d.getD 0) s.G rf,true,.inr (.inr (.inl ⟨rfl,{callee:=.value (.func f),args:=xs.toArray,argTypes:=ts.toArray},f,rfl,rfl,.inl ⟨σ1,as,res,rf,by rw[args xs _ rfl];exact h1,h2,h3,rfl,rfl⟩⟩)),h4⟩
 | cl d f xs ts=>
  obtain⟨⟨σ1,as⟩,h1,res,rf,h2,h3,h4⟩:=f7 h;exact⟨nm (d.getD 0) s.G res,np s.σ (d.getD 0) s.G rf,true,.inr (.inr (.inl ⟨rfl,{callee:=.value (.func f),args:=xs.toArray,argTypes:=ts.toArray},f,rfl,rfl,.inr (.inl ⟨σ1,as,res,rf,by rw[args xs _ rfl];exact h1,h2,h3,rfl,rfl⟩)⟩)),h4⟩
 | cm d f ms xs ts=>
  obtain⟨h0,h⟩:=h;obtain⟨⟨σ1,as⟩,h1,h⟩:=f7 h;obtain⟨σin,h2,res,σout,h3,h4,h⟩:=f7 h;obtain⟨σ2,h5,h6⟩:=f7 h;exact⟨_,σ2,true,.inr (.inr (.inl ⟨rfl,{callee:=.value (.func f),args:=xs.toArray,argTypes:=ts.toArray},f,rfl,rfl,.inr (.inr (.inl ⟨ms,_,σ1,as,σin,res,σout,by rw[args xs _ rfl],h0,by rw[args xs _ rfl];exact h1,h2,h3,h4,h5,rfl⟩))⟩)),h6⟩
 | cn d f ms xs ts=>
  obtain⟨h0,h⟩:=h;obtain⟨⟨σ1,as⟩,h1,h⟩:=f7 h;obtain⟨σin,h2,h2',res,σout,h3,oL,h4,h⟩:=f7 h;obtain⟨σ2,h5,h6⟩:=f7 h;exact⟨_,σ2,true,.inr (.inr (.inl ⟨rfl,{callee:=.value (.func f),args:=xs.toArray,argTypes:=ts.toArray},f,rfl,rfl,.inr (.inr (.inr ⟨ms,_,σ1,as,σin,res,σout,by rw[args xs _ rfl],h0,by rw[args xs _ rfl];exact h1,h2,h2',h3,oL,h4,h5,rfl⟩))⟩)),h6⟩
 | cu d x xs ts=>
  obtain⟨f,h0,h⟩:=f7 h;obtain⟨⟨σ1,as⟩,h1,res,rf,h2,h3,h4⟩:=f7 h;exact⟨nm (d.getD 0) s.G res,np s.σ (d.getD 0) s.G rf,true,.inr (.inr (.inr (.inr (.inl ⟨rfl,{callee:=.value x,args:=xs.toArray,argTypes:=ts.toArray},f,x,rfl,rfl,by rw[l6];exact h0,⟨σ1,as,res,rf,by rw[args xs _ rfl];exact h1,h2,h3,rfl,rfl⟩⟩)))),h4⟩
 | mk d t=>exact⟨_,_,true,.inr (.inr (.inr (.inr (.inr (.inl ⟨rfl,t,rfl,rfl,rfl⟩))))),h⟩
 | lu d t x k ok=>
  obtain⟨r,g,p,f,row,h1,h2,h3,C,res,K0,E,zv,rfl,h4,h5,h6,h7,h8⟩:=J7 h;exact⟨_,_,false,.inr (.inr (.inr (.inr (.inr (.inr (.inl ⟨rfl,t,x,k,ok,K0,E,r,g,p,f,C,res,zv,rfl,h4,h5,by rw[l6];exact h1,h2,h3,by rw[l6];exact h6,by rw[l6];exact h7,rfl,rfl⟩)))))),h8⟩
 | mu t m k x=>
  obtain⟨r,g,p,f,row,h1,h2,h3,C,K0,E,ck,cx,rfl,h4,h5,h6,h7,h8,h9⟩:=J7 h;exact⟨_,_,false,.inr (.inr (.inr (.inr (.inr (.inr (.inr ⟨rfl,t,m,k,x,K0,E,r,g,p,f,C,ck,cx,rfl,h4,by rw[l6];exact h1,h2,h3,by rw[l6];exact h5,by rw[l6];exact h6,by rw[l6];exact h7,by rw[l6];exact h8,rfl,rfl⟩)))))),by rw[l6];exact h9⟩
 | lz d t g=>
  obtain⟨v,h1,h2⟩:=f7 h;exact⟨v,s.σ,false,.inr (.inr (.inr (.inl ⟨h1,rfl,rfl⟩))),h2⟩
 | mf d f x=>
  obtain⟨v,h1,h2⟩:=f7 h;exact⟨v,s.σ,false,.inr (.inr (.inr (.inl ⟨by rw[l6];exact h1,rfl,rfl⟩))),h2⟩
 | bs d t n ps=>
  obtain⟨x,h1,h2⟩:=f7 h;exact⟨x.1,x.2,true,.inr (.inl ⟨by rw[l6];show yK P d s.G s.σ t n (ps.toArray.toList.map fun x=>(x.1,cE s.tm x.2))=_;rw[List.toList_toArray,FO];exact h1,rfl⟩),Fc h2⟩
 | ap d t tx x y=>
  obtain⟨z,h1,h2⟩:=f7 h;exact⟨z.1,z.2,true,.inr (.inl ⟨by rw[l6];exact h1,rfl⟩),Fc h2⟩
 | cp d t tx x y=>
  obtain⟨z,h1,h2⟩:=f7 h;exact⟨z.1,z.2,true,.inr (.inl ⟨by rw[l6];exact h1,rfl⟩),Fc h2⟩
 | sb d r t x=>
  simp only[dw]at h;split at h
  ·rename_i hk;obtain⟨z,h1,h2⟩:=f7 h;exact⟨z.1,z.2,true,.inr (.inl ⟨by rw[l6];simp only[I.so,td,hk];exact h1,rfl⟩),Fc h2⟩
  cases h
 | _=>exact plain h
theorem N1 {s:St}{d:Option Nat}{b:Bool}{K K':St→Prop}{x:AV × aj}(h:∀s,K s→K' s) (hk:pM s d b K x):pM s d b K' x:=jP h hk
theorem Fe {n:Nat}{tm:List (Nat × AV)}{G:Nat}{K K':St→Prop}{d:Option Nat}{x:AV × aj}(h:∀s,K s→K' s) (hk:oi n tm G K d x):oi n tm G K' d x:=by
 cases d with
 | none=>exact h _ hk
 | some d=>
  simp only[oi]at hk ⊢;cases hb:Nat.blt d n with
  | true=>rw[hb]at hk;exact h _ hk
  | false=>rw[hb]at hk;exact hk
theorem lh {α:Type}{x:Option α}{K K':α→Prop}(h:∀a,K a→K' a) (hk:cZ x K):cZ x K':=by
 obtain⟨a,h1,h2⟩:=f7 hk;exact ml h1 (h a h2)
theorem Gh {i:I}{s:St}{K K':St→Prop}(h:∀s,K s→K' s) (hk:dw P i s K):dw P i s K':=by
 cases i with
 | ca d f xs ts=>exact lh (fun x ⟨res,rf,h1,h2,h3⟩=>⟨res,rf,h1,h2,jP h h3⟩) hk
 | cl d f xs ts=>exact lh (fun x ⟨res,rf,h1,h2,h3⟩=>⟨res,rf,h1,h2,jP h h3⟩) hk
 | cm d f ms xs ts=>exact⟨hk.1,lh (fun x=>lh fun σin ⟨res,σout,h1,h2,h3⟩=>⟨res,σout,h1,h2,lh (fun σ2=>jP h) h3⟩) hk.2⟩
 | cn d f ms xs ts=>exact⟨hk.1,lh (fun x=>lh fun σin ⟨h0,res,σout,h1,oM,h2,h3⟩=>⟨h0,res,σout,h1,oM,h2,lh (fun σ2=>jP h) h3⟩) hk.2⟩
 | cu d x xs ts=>exact lh (fun f=>lh (fun x ⟨res,rf,h1,h2,h3⟩=>⟨res,rf,h1,h2,jP h h3⟩)) hk
 | lz d t g=>exact lh (fun v=>jP h) hk
 | mf d f x=>exact lh (fun v=>jP h) hk
 | mk d t=>exact jP h (show put s (some d) (.mr d s.G []) (bQ s.σ d (s.G,one (gR []))) true K from hk)
 | lu d t x k ok=>exact Ro (fun r g p f row ⟨C,res,K0,E,zv,h1,h2,h3,h4,h5,h6⟩=>⟨C,res,K0,E,zv,h1,h2,h3,h4,h5,jP h h6⟩) hk
 | mu t m k x=>exact Ro (fun r g p f row ⟨C,K0,E,ck,cx,h1,h2,h3,h4,h5,h6,h7⟩=>⟨C,K0,E,ck,cx,h1,h2,h3,h4,h5,h6,jP h h7⟩) hk
 | bs d t n ps=>exact lh (fun x=>Fe h) hk
 | ap d t tx x y=>exact lh (fun x=>Fe h) hk
 | cp d t tx x y=>exact lh (fun x=>Fe h) hk
 | sb d r t x=>
  simp only[dw]at hk ⊢;split at hk
  ·exact lh (fun x=>Fe h) hk
  cases hk
 | mv d x=>exact lh (x:=jJ P d s.G (cE s.tm) s.σ (.move x)) (fun x=>N1 h) hk
 | as d x=>exact lh (x:=jJ P d s.G (cE s.tm) s.σ (.assign x)) (fun x=>N1 h) hk
 | _=>exact lh (fun x=>N1 h) hk
theorem Ju {v:AV}{σ':aj}:put ⟨n,tm,σ,G⟩ (some d) v σ' true K=tB n d tm G K (v,σ'):=by
 show(match Nat.blt d n with|true=>_|false=>_)=Br (Nat.blt d n) _ _
 cases Nat.blt d n<;>rfl
theorem Z6 {v:AV}:put ⟨n,tm,σ,G⟩ (some d) v σ false K=iY n d tm σ G K v:=by
 show(match Nat.blt d n with|true=>_|false=>_)=Br (Nat.blt d n) _ _
 cases Nat.blt d n<;>rfl
theorem JG {α β:Type}{x:Option α}{g:α→β}{K:β→Prop}:cZ (x.map g) K=cZ x (fun a=>K (g a)):=by cases x<;>rfl
theorem lb {x:Option AV}:cZ (x.map fun v=>(v,σ)) (pM ⟨n,tm,σ,G⟩ (some d) false K)=cZ x (iY n d tm σ G K):=by
 rw[JG];congr 1
theorem JA {x:Option (AV × aj)}:cZ x (pM ⟨n,tm,σ,G⟩ (some d) true K)=cZ x (tB n d tm G K):=by
 congr 1
theorem Zz:dw P (.mv d x) ⟨n,tm,σ,G⟩ K=iY n d tm σ G K (cE tm x):=lb (x:=some (cE tm x))
theorem Z0:dw P (.as d x) ⟨n,tm,σ,G⟩ K=iY n d tm σ G K (cE tm x):=lb (x:=some (cE tm x))
theorem Zw:dw P (.pk d x y z) ⟨n,tm,σ,G⟩ K=cZ (H3 (cE tm x) (cE tm y) (cE tm z)) (iY n d tm σ G K):=lb
theorem Z2:dw P (.al d t) ⟨n,tm,σ,G⟩ K=cZ (D8 P d G σ t) (tB n d tm G K):=JA
theorem ZV:dw P (.bx d t x) ⟨n,tm,σ,G⟩ K=cZ (D6 P d G σ t (cE tm x)) (tB n d tm G K):=JA
theorem ZI:dw P (.ld d t x) ⟨n,tm,σ,G⟩ K=cZ (yJ P σ t (cE tm x)) (iY n d tm σ G K):=lb
theorem ZM:dw P (.fa d t x f) ⟨n,tm,σ,G⟩ K=cZ (D2 P t (cE tm x) f) (iY n d tm σ G K):=lb
theorem ZN:dw P (.ex d x i) ⟨n,tm,σ,G⟩ K=cZ (D4 (cE tm x) i) (iY n d tm σ G K):=lb
theorem Zx:dw P (.nc d x) ⟨n,tm,σ,G⟩ K=cZ (H4 (cE tm x)) (iY n d tm σ G K):=lb
theorem ZY {b:BinOp}:dw P (.bn d b t x y u) ⟨n,tm,σ,G⟩ K=cZ (D7 P b t (cE tm x) (cE tm y)) (iY n d tm σ G K):=lb
theorem Zs {b:UnOp}:dw P (.un d b t x) ⟨n,tm,σ,G⟩ K=cZ (DX b (cE tm x)) (iY n d tm σ G K):=lb
theorem ZO:dw P (.cv d s t x) ⟨n,tm,σ,G⟩ K=cZ (H8 P σ s t (cE tm x)) (iY n d tm σ G K):=lb
theorem Zt:dw P (.st t x y) ⟨n,tm,σ,G⟩ K=cZ (AH P σ t (cE tm x) (cE tm y)) (Fb n tm G K):=by
 show cZ ((AH P σ t (cE tm x) (cE tm y)).map fun σ'=>(AV.dead,σ')) (pM ⟨n,tm,σ,G⟩ none false K)=_
 rw[JG];rfl
theorem ZK:dw P (.ia d t x y) ⟨n,tm,σ,G⟩ K=cZ (D0 P σ t (cE tm x) (cE tm y)) (iY n d tm σ G K):=lb
theorem ZJ:dw P (.ix d t x y) ⟨n,tm,σ,G⟩ K=cZ (D1 P t (cE tm x) (cE tm y)) (iY n d tm σ G K):=lb
theorem ZL:dw P (.fd d t x f) ⟨n,tm,σ,G⟩ K=cZ (D3 P t (cE tm x) f) (iY n d tm σ G K):=lb
theorem ZB:dw P (.ms d t x y) ⟨n,tm,σ,G⟩ K=cZ (DY P d G σ t (cE tm x) (cE tm y)) (tB n d tm G K):=JA
theorem ZH:dw P (.ln d t x) ⟨n,tm,σ,G⟩ K=cZ (DZ P t (cE tm x)) (iY n d tm σ G K):=lb
theorem ZC {ts:List Nat}:dw P (.mn d x y ts) ⟨n,tm,σ,G⟩ K=cZ (H5 (cE tm x) (cE tm y)) (iY n d tm σ G K):=lb
theorem Zy {ts:List Nat}:dw P (.mx d x y ts) ⟨n,tm,σ,G⟩ K=cZ (H6 (cE tm x) (cE tm y)) (iY n d tm σ G K):=lb
def Dh (tm:List (Nat × AV)):Option Operand→Option AV
 | none=>none
 | some x=>some (cE tm x)
theorem J4 {o:Option Operand}:o.map (cE tm)=Dh tm o:=by cases o<;>rfl
theorem Zu {lo hi mx:Option Operand}:dw P (.sl d t x lo hi mx) ⟨n,tm,σ,G⟩ K=cZ (AI P t (cE tm x) (Dh tm lo) (Dh tm hi) (Dh tm mx)) (iY n d tm σ G K):=by
 show cZ ((AI P t (cE tm x) (lo.map (cE tm)) (hi.map (cE tm)) (mx.map (cE tm))).map fun v=>(v,σ)) (pM ⟨n,tm,σ,G⟩ (some d) false K)=_
 rw[J4,J4,J4];exact lb
theorem ZZ {ps:List (Nat × Operand)}:dw P (.bd d t ps) ⟨n,tm,σ,G⟩ K=cZ (AN P t (yp tm ps)) (iY n d tm σ G K):=by
 show cZ ((AN P t (ps.toArray.toList.map fun x=>(x.1,cE tm x.2))).map fun v=>(v,σ)) (pM ⟨n,tm,σ,G⟩ (some d) false K)=_
 rw[List.toList_toArray,FO];exact lb
theorem ZX {m:Nat}{ps:List (Nat × Operand)}:dw P (.bo d t m ps) ⟨n,tm,σ,G⟩ K=cZ (AM P t m (yp tm ps)) (iY n d tm σ G K):=by
 show cZ ((AM P t m (ps.toArray.toList.map fun x=>(x.1,cE tm x.2))).map fun v=>(v,σ)) (pM ⟨n,tm,σ,G⟩ (some d) false K)=_
 rw[List.toList_toArray,FO];exact lb
theorem ZW {m:Nat}{ps:List (Nat × Operand)}:dw P (.bs d t m ps) ⟨n,tm,σ,G⟩ K=cZ (yK P d G σ t m (yp tm ps)) (oi n tm G K (some d)):=rfl
theorem Z1 {d:Option Nat}{tx:Nat}:dw P (.ap d t tx x y) ⟨n,tm,σ,G⟩ K=cZ (AO P (d.getD 0) G σ t tx (cE tm x) (cE tm y)) (oi n tm G K d):=rfl
theorem ZQ {d:Option Nat}{tx:Nat}:dw P (.cp d t tx x y) ⟨n,tm,σ,G⟩ K=cZ (AL P σ t tx (cE tm x) (cE tm y)) (oi n tm G K d):=rfl
def I8 (P:Program) (n d G:Nat) (tm:List (Nat × AV)) (σ:aj) (t:Nat) (x:AV) (K:St→Prop):Option TK→Prop
 | some .string=>cZ (zg P d G σ t x) (oi n tm G K (some d))
 | _=>False
theorem Zv:dw P (.sb d s t x) ⟨n,tm,σ,G⟩ K=I8 P n d G tm σ t (cE tm x) K (tk P s):=by
 unfold I8;simp only[dw];try(split<;>rfl)
theorem ZU {xs:List Operand}{ts:List Nat}{d:Option Nat}:dw P (.ca d f xs ts) ⟨n,tm,σ,G⟩ K=cZ (oP σ (mM tm xs)) (Ix P n d tm σ G f K):=rfl
theorem ZT {xs:List Operand}{ts:List Nat}{d:Option Nat}:dw P (.cl d f xs ts) ⟨n,tm,σ,G⟩ K=cZ (oP σ (mM tm xs)) (Cd P ⟨n,tm,σ,G⟩ d f K):=rfl
theorem ZS {xs:List Operand}{ts:List Nat}{ms:List Bool}{d:Option Nat}:dw P (.cm d f ms xs ts) ⟨n,tm,σ,G⟩ K=FJ P ⟨n,tm,σ,G⟩ d f K ms (mM tm xs) (mN false σ 1 30 1000000 [] (qM ms (mM tm xs))):=rfl
theorem ZR {xs:List Operand}{ts:List Nat}{ms:List Bool}{d:Option Nat}:dw P (.cn d f ms xs ts) ⟨n,tm,σ,G⟩ K=FI P ⟨n,tm,σ,G⟩ d f K ms (mM tm xs) (mN false σ 1 30 1000000 [] (qM ms (mM tm xs))):=rfl
def Up (P:Program) (n:Nat) (d:Option Nat) (tm:List (Nat × AV)) (σ:aj) (G:Nat) (xs:List Operand) (K:St→Prop) (f:Nat):Prop:=cZ (oP σ (.agg []::mM tm xs)) (Cd P ⟨n,tm,σ,G⟩ d f K)
theorem ZP {xs:List Operand}{ts:List Nat}{d:Option Nat}:dw P (.cu d x xs ts) ⟨n,tm,σ,G⟩ K=cZ (Af (cE tm x)) (Up P n d tm σ G xs K):=rfl
theorem ae3 {xs:List Operand}{d:Option Nat}:Up P n d tm σ G xs K f=cZ (oP σ (.agg []::mM tm xs)) (Cd P ⟨n,tm,σ,G⟩ d f K):=rfl
theorem ZF {g:Nat}:dw P (.lz d t g) ⟨n,tm,σ,G⟩ K=cZ (DW P t) (iY n d tm σ G K):=by
 show cZ (DW P t) (fun v=>put ⟨n,tm,σ,G⟩ (some d) v σ false K)=_
 congr 1
theorem ZE:dw P (.mf d f x) ⟨n,tm,σ,G⟩ K=cZ (AJ f (cE tm x)) (iY n d tm σ G K):=by
 show cZ (AJ f (cE tm x)) (fun v=>put ⟨n,tm,σ,G⟩ (some d) v σ false K)=_
 congr 1
theorem ZD:dw P (.mk d t) ⟨n,tm,σ,G⟩ K=tB n d tm G K (.mr d G [],bQ σ d (G,one (gR []))):=Ju
theorem ZG {k:Operand}{ok:Bool}:dw P (.lu d t x k ok) ⟨n,tm,σ,G⟩ K=te σ (fun _ _ _ _=>Ii P t (cE tm k) ok (iY n d tm σ G K)) (cE tm x):=by
 show te σ (fun r g p f row=>Ii P t (cE tm k) ok (fun v=>put ⟨n,tm,σ,G⟩ (some d) v σ false K) row) (cE tm x)=_
 congr 1
theorem ZA {m k:Operand}:dw P (.mu t m k x) ⟨n,tm,σ,G⟩ K=te σ (N2 P t (cE tm k) (cE tm x) σ (Fb n tm G K)) (cE tm m):=rfl
theorem RJ:∀(tm:List (Nat × AV)) (t:Nat) (b:Bool),fx tm t=.sc (.bool b)→bI tm t=some (.sc (.bool b))
 | [],_,_,h=>by cases h
 | (k,v)::l,t,b,h=>by
  simp only[fx,bI]at h ⊢;split at h
  ·rename_i hk;rw[hk];rw[h]
  rename_i hk;rw[hk];exact RJ l t b h
theorem RI:∀(tm:List (Nat × AV)) (t:Nat),fx tm t=.ba []→bI tm t=some (.ba [])
 | [],_,h=>by cases h
 | (k,v)::l,t,h=>by
  simp only[fx,bI]at h ⊢;split at h
  ·rename_i hk;rw[hk];rw[h]
  rename_i hk;rw[hk];exact RI l t h
def gL (P:Program) (n:Nat) (tm:List (Nat × AV)) (σ:aj) (G t:Nat) (w:Bool) (i:I) (K:St→Prop) (v:AV):Prop:=
 match v with
 | .sc (.bool b)=>Br b (Br w (dw P i ⟨n,tm,σ,G⟩ K) (qW i ⟨n,tm,σ,G⟩ K)) (Br w (qW i ⟨n,tm,σ,G⟩ K) (dw P i ⟨n,tm,σ,G⟩ K))
 | .ba []=>qW i ⟨n,tm,σ,G⟩ K
 | _=>False
theorem Ta {i:I}(h:gL P n tm σ G t w i K (fx tm t)):tv P ⟨i.so.d,i.so.o,some (t,w)⟩ ⟨n,tm,σ,G⟩ K:=by
 cases hv:fx tm t with
 | sc v=>
  rw[hv]at h;cases v with
  | bool b=>
   unfold tv sG;simp only[RJ _ _ _ hv];cases b<;>cases w<;>simp only[gL,wc,we]at h ⊢<;>first|exact KG h|exact h
  | _=>cases h
 | ba vs=>
  rw[hv]at h;cases vs with
  | nil=>
   unfold tv sG;simp only[RI _ _ hv];exact h
  | cons=>cases h
 | _=>rw[hv]at h;cases h
theorem LR {K K':St→Prop}{i:I}{v:AV}(h:∀s,K s→K' s) (hk:gL P n tm σ G t w i K v):gL P n tm σ G t w i K' v:=by
 unfold gL at hk ⊢;split at hk
 ·rename_i b;cases b<;>cases w<;>simp only[wc,we]at hk ⊢<;>first|exact Gh h hk|exact jP h hk
 ·exact jP h hk
 cases hk
def oB (P:Program):List J→St→(St→Prop)→Prop
 | [],s,Q=>Q s
 | .p i::l,s,Q=>dw P i s fun s'=>oB P l s' Q
 | .g t w i::l,s,Q=>gL P s.n s.tm s.σ s.G t w i (fun s'=>oB P l s' Q) (fx s.tm t)
def oo:List J→Nat→Option J
 | [],_=>none
 | j::l,i=>match i==0 with
  | true=>some j
  | false=>oo l (i - 1)
theorem BQ:∀(l:List J) (i:Nat),(pU l)[i]?=(oo l i).map fun
  | .p j=>⟨j.so.d,j.so.o,none⟩
  | .g t w j=>⟨j.so.d,j.so.o,some (t,w)⟩
 | [],i=>rfl
 | .p j::l,0=>rfl
 | .g t w j::l,0=>rfl
 | .p j::l,i+1=>by simpa[pU,oo]using BQ l i
 | .g t w j::l,i+1=>by simpa[pU,oo]using BQ l i
def Jo (P:Program) (σ:aj) (tm:List (Nat × AV)) (i:I):Option AV:=kL P σ (cE tm) i.so.o
def LS (w:Bool) (x:Option AV):AV→Option AV
 | .sc (.bool b)=>match b==w with
  | true=>x
  | false=>some (.ba [])
 | .ba []=>some (.ba [])
 | _=>none
def E4 (P:Program) (σ:aj) (tm:List (Nat × AV)):Option J→Option AV
 | some (.p i)=>Jo P σ tm i
 | some (.g t w i)=>LS w (Jo P σ tm i) (fx tm t)
 | none=>none
def wG (P:Program) (l:List J) (tm:List (Nat × AV)) (σ σ':aj):List Nat→Prop
 | []=>True
 | k::rc=>E4 P σ' tm (oo l k)=E4 P σ tm (oo l k)∧wG P l tm σ σ' rc
def puW (P:Program) (i:I) (s:St) (K:St→Prop):Prop:=iu i.so.o=true∧dw P i s K
def ve:I→Bool
 | .bs ..|.sb ..|.lz ..|.mf ..=>false
 | _=>true
def jT (P:Program) (l:List J):DT→St→(St→Prop)→Prop
 | .nil,s,K=>K s
 | .pu i t,s,K=>match oo l i with
  | some (.p j)=>(ve j=true∧iu j.so.o=true)∧dw P j s fun s'=>jT P l t s' K
  | some (.g u w j)=>(ve j=true∧iu j.so.o=true)∧gL P s.n s.tm s.σ s.G u w j (fun s'=>jT P l t s' K) (fx s.tm u)
  | none=>False
 | .ef i rc t,s,K=>match oo l i with
  | some (.p j)=>dw P j s fun s'=>wG P l s.tm s.σ s'.σ rc∧jT P l t s' K
  | some (.g u w j)=>gL P s.n s.tm s.σ s.G u w j (fun s'=>wG P l s.tm s.σ s'.σ rc∧jT P l t s' K) (fx s.tm u)
  | none=>False
 | .or a b,s,K=>jT P l a s K∧jT P l b s K
def qf:List Nat→List (Nat × AV)→List (Nat × AV)
 | [],_=>[]
 | k::ks,tm=>(k,fx tm k)::qf ks tm
def Ga (ks:List Nat) (s:St):St:=⟨s.n,qf ks s.tm,s.σ,s.G⟩
def mJ (ks:List Nat) (s:St):St:=s7 s (qf ks s.tm) (MG s ks)
def jv (P:Program):SC J→St→(Exit→St→Prop)→Prop
 | .skip,s,Q=>Q .normal s
 | .ret,s,Q=>Q .ret s
 | .exit id,s,Q=>Q (.exit id) s
 | .seq a b,s,Q=>jv P a s (iq Q fun s'=>jv P b s' Q)
 | .sq ks a b,s,Q=>jv P a s (iq Q fun s'=>jv P b (Ga ks s') Q)
 | .ct a b,s,Q=>jv P a s (iq Q fun s'=>∃gG,aI s' gG∧jv P b gG Q)
 | .cond c x y,s,Q=>match cE s.tm c with
  | .sc (.bool b)=>Br b (jv P x s Q) (jv P y s Q)
  | _=>False
 | .block id c,s,Q=>jv P c s (lP id Q)
 | .loop c,s,Q=>∃(I:Nat→St→Prop) (n:Nat) (s1:St),aI s s1∧I n s1∧∀m s2,I m s2→jv P c s2 (iq Q fun s3=>∃m' s4,m'<m∧aI s3 s4∧I m' s4)
 | .lp _ c,s,Q=>∃(I:Nat→St→Prop) (n:Nat) (s1:St),aI s s1∧I n s1∧∀m s2,I m s2→jv P c s2 (iq Q fun s3=>∃m' s4,m'<m∧aI s3 s4∧I m' s4)
 | .nD l,s,Q=>oB P l s fun s'=>Q .normal s'
 | .dr t _ l _,s,Q=>jT P l t s (Q .normal)
 | .tz id l it ty x tn tb b,s,Q=>tk P ty=some .string∧oB P l s fun s1=>∃str,cE s1.tm x=.sc (.string str)∧it<s1.n∧∀r,∃(I:Nat→St→Prop) (s2:St),aI ⟨s1.n,(it,.it r)::s1.tm,s1.σ,s1.G⟩ s2∧I 0 s2∧∀pos s3,I pos s3→
   (bI s3.tm it=some (.it r)∧tn<s3.n∧tb<s3.n)∧
   (pos<str.size→∃c,Utf8.decode str pos=(c,1)∧jv P b ⟨s3.n,(tb,.sc (.bool true))::(tn,.ba [.sc (.bool true),.sc (.int .i64 pos),.sc (.int .i32 c)])::s3.tm,s3.σ,s3.G⟩ (iq (lP id Q) fun s4=>∃s5,aI s4 s5∧I (pos+1) s5))∧
   (¬pos<str.size→Q .normal ⟨s3.n,(tb,.sc (.bool false))::(tn,.ba [.sc (.bool false)])::s3.tm,s3.σ,s3.G⟩)
 | .bad,_,_=>False
theorem Gc:∀(l:List J) (s:St) (Q:St→Prop),oB P l s Q→ze P (pU l) s Q
 | [],s,Q,h=>h
 | .p i::l,s,Q,h=>wH (o:=⟨i.so.d,i.so.o,none⟩) (fun s' hs=>Gc l s' Q hs) (KG h)
 | .g t w i::l,⟨n,tm,σ,G⟩,Q,h=>wH (fun s' hs=>Gc l s' Q hs) (Ta h)
theorem Qa {j:I}{s:St}(h0:ve j=true) (hp:iu j.so.o=true) (h:dw P j s K):cZ (kL P s.σ (ev s) j.so.o) fun v=>put s j.so.d v s.σ false K:=by
 have plain:cZ (jJ P (j.so.d.getD 0) s.G (cE s.tm) s.σ j.so.o) (pM s j.so.d (uv j.so.o) K)→cZ (kL P s.σ (ev s) j.so.o) fun v=>put s j.so.d v s.σ false K:=by
  intro h;rw[WH hp,JG,P9 hp]at h;rw[l6];exact h
 cases j with
 | ca d f xs ts=>simp[I.so,iu]at hp
 | cl d f xs ts=>simp[I.so,iu]at hp
 | cm d f ms xs ts=>simp[I.so,iu]at hp
 | cn d f ms xs ts=>simp[I.so,iu]at hp
 | cu d x xs ts=>simp[I.so,iu]at hp
 | lz=>cases h0
 | mf=>cases h0
 | bs=>cases h0
 | sb=>cases h0
 | ap=>simp[I.so,iu]at hp
 | cp=>simp[I.so,iu]at hp
 | mk=>simp[I.so,iu]at hp
 | lu=>simp[I.so,iu]at hp
 | mu=>simp[I.so,iu]at hp
 | _=>exact plain h
theorem xF (l:List J):∀(t:DT) (s:St) (Q:St→Prop),jT P l t s Q→sT P (pU l) t s Q
 | .nil,s,Q,h=>h
 | .pu i t,⟨n,tm,σ,G⟩,Q,h=>by
  unfold jT at h;unfold sT;rw[BQ];split at h
  ·rename_i j hj;rw[hj];exact⟨h.1.2,Ja (o:=⟨j.so.d,j.so.o,none⟩) (fun s' hs=>xF l t s' Q hs) (Qa h.1.1 h.1.2 h.2)⟩
  ·rename_i u w j hj;rw[hj];refine⟨h.1.2,?_⟩;obtain⟨⟨h1,h2⟩,h3⟩:=h;have key:Bs P ⟨j.so.d,j.so.o,some (u,w)⟩ ⟨n,tm,σ,G⟩ (fun s'=>jT P l t s' Q):=by
    unfold Bs sV;rw[Hc];simp only at h3;simp only[L9];cases hv:fx tm u with
    | sc v=>
     rw[hv]at h3;cases v with
     | bool b=>
      have pl:dw P j ⟨n,tm,σ,G⟩ (fun s'=>jT P l t s' Q)→cZ (kL P σ (cE tm) j.so.o) fun v=>put ⟨n,tm,σ,G⟩ j.so.d v σ false fun s'=>jT P l t s' Q:=fun hh=>by
       have:=Qa h1 h2 hh
       rwa[Hc]at this
      cases b<;>cases w<;>simp only[gL,wc,we]at h3<;>first|exact pl h3|exact h3
     | _=>cases h3
    | ba vs=>
     rw[hv]at h3;cases vs with
     | nil=>exact h3
     | cons=>cases h3
    | _=>rw[hv]at h3;cases h3
   exact Ja (fun s' hs=>xF l t s' Q hs) key
  cases h
 | .ef i rc t,⟨n,tm,σ,G⟩,Q,h=>by
  have same:∀{s':St},wG P l tm σ s'.σ rc→Po P (pU l) rc ⟨n,tm,σ,G⟩ s'.σ:=by
   clear h;intro s';induction rc with
   | nil=>intro _ k hk;simp at hk
   | cons k0 rc ih=>
    intro hs k hk x hx;rcases List.mem_cons.1 hk with rfl|hk
    ·have h1:=hs.1;rw[BQ]at hx;rw[Hc];cases hn:oo l k with
     | none=>rw[hn]at hx;cases hx
     | some j=>
      rw[hn]at hx h1;cases j with
      | p j=>
       simp only[Option.map_some,Option.some.injEq]at hx;subst hx;exact h1
      | g u w j=>
       simp only[Option.map_some,Option.some.injEq]at hx;subst hx;simp only[E4]at h1;unfold sV;simp only[L9];unfold LS at h1;exact h1
    exact ih hs.2 k hk x hx
  unfold jT at h;unfold sT;rw[BQ];split at h
  ·rename_i j hj;rw[hj];exact wH (o:=⟨j.so.d,j.so.o,none⟩) (fun s' hs=>⟨same hs.1,xF l t s' Q hs.2⟩) (KG h)
  ·rename_i u w j hj;rw[hj];exact wH (fun s' hs=>⟨same hs.1,xF l t s' Q hs.2⟩) (Ta h)
  cases h
 | .or a b,s,Q,h=>⟨xF l a s Q h.1,xF l b s Q h.2⟩
theorem xG {l:List J}:∀{t:DT}{s:St}{K K':St→Prop},(∀s,K s→K' s)→jT P l t s K→jT P l t s K'
 | .nil,s,K,K',h,hk=>h _ hk
 | .pu i t,s,K,K',h,hk=>by
  unfold jT at hk ⊢;split at hk
  ·exact⟨hk.1,Gh (fun s' hs=>xG h hs) hk.2⟩
  ·exact⟨hk.1,LR (fun s' hs=>xG h hs) hk.2⟩
  cases hk
 | .ef i rc t,s,K,K',h,hk=>by
  unfold jT at hk ⊢;split at hk
  ·exact Gh (fun s' hs=>⟨hs.1,xG h hs.2⟩) hk
  ·exact LR (fun s' hs=>⟨hs.1,xG h hs.2⟩) hk
  cases hk
 | .or a b,s,K,K',h,hk=>⟨xG h hk.1,xG h hk.2⟩
theorem RO:∀(tm:List (Nat × AV)) (t:Nat) (v:AV),bI tm t=some v→fx tm t=v
 | [],_,_,h=>by cases h
 | (k,u)::l,t,v,h=>by
  simp only[fx,bI]at h ⊢;split at h
  ·rename_i hk;rw[hk];exact Option.some.inj h
  rename_i hk;rw[hk];exact RO l t v h
theorem RK:∀(tm:List (Nat × AV)) (t:Nat),bI tm t=none→fx tm t=.dead
 | [],_,_=>rfl
 | (k,u)::l,t,h=>by
  simp only[fx,bI]at h ⊢;split at h
  ·cases h
  rename_i hk;rw[hk];exact RK l t h
theorem Cb:∀(ks:List Nat) (tm:List (Nat × AV)) (t:Nat) (v:AV),bI (qf ks tm) t=some v→fx tm t=v
 | [],_,_,_,h=>by cases h
 | k::ks,tm,t,v,h=>by
  simp only[qf,gx]at h;split at h
  ·rename_i hk;subst hk;exact Option.some.inj h
  exact Cb ks tm t v h
theorem Rel.look {rd:RD}{φ:b9}{O:Nat→Prop}{w0 w:World}{s:St}{a:Act}(h:Rel rd φ O w0 s a w) (t:Nat):aL rd φ (fx s.tm t) (a.tmps.getD t undef):=by
 cases hl:bI s.tm t with
 | none=>rw[RK _ _ hl];exact .dead _
 | some v=>rw[RO _ _ _ hl];exact h.tm t v hl
theorem aI.pn (ks:List Nat) (s:St):aI s (Ga ks s):=by
 intro rd O w0 a w ⟨rd',φ,hx,h⟩;exact⟨rd',φ,hx,h.heap,fun t v hl=>Cb ks s.tm t v hl▸h.look t,h.size,h.defers,h.gen⟩
theorem aI.head (ks:List Nat) (s:St):aI s (mJ ks s):=
 aI.s7 (fun t v hl rd φ O w0 a w h=>Cb ks s.tm t v hl▸h.look t) _
def FD (s:St) (t:Nat) (x:AV × aj × Nat):St:=⟨s.n,(t,x.1)::s.tm,x.2.1,x.2.2⟩
def FC (s:St) (t:Nat) (u:AV):St:=FD s t (uW u (fx s.tm t) s.σ s.G)
def JQ (σ:aj) (r g:Nat) (f:dZ) (p:List Nat) (row:Row) (i j sz G:Nat) (e:List AV):Option AV→Option aj
 | some .aG=>some (bQ (bQ σ (800000+G) (G,one ⟨sz,[],2,false⟩)) r (g,dB f p ⟨row.sz,row.es.set i (e.set j (.au (800000+G) G [] sz 0 0)),0,false⟩))
 | _=>none
def JR (σ:aj) (r g:Nat) (p:List Nat) (i j sz G:Nat) (f:dZ):Option Row→Option aj
 | some row=>match row.es[i]?,row.ao with
  | some e,false=>JQ σ r g f p row i j sz G e (e[j]?)
  | _,_=>none
 | none=>none
def BS (σ:aj) (j sz G:Nat):AV→Option aj
 | .ptr r g p _ i _=>match Nat.beq r (800000+G),bI σ r with
  | false,some (g',f)=>match Nat.beq g' g with
   | true=>JR σ r g p i j sz G f (f p)
   | false=>none
  | _,_=>none
 | _=>none
def JS (s:St):Option aj→St
 | some σ'=>⟨s.n,s.tm,σ',s.G+1⟩
 | none=>s
def zB (s:St) (t j sz:Nat):St:=JS s (BS s.σ j sz s.G (fx s.tm t))
def gQ:List (Nat × Nat)→St→St
 | [],s=>s
 | (t,sz)::l,s=>match Nat.ble 1000 t with
  | true=>gQ l (zB s (t%1000) (t/1000 - 1) sz)
  | false=>gQ l (FC s t (.au 0 0 [] sz 0 0))
theorem bp.review {rd:RD}{φ:b9}{O:Nat→Prop}{w0 w:World}{σ:aj}{r g:Nat}{p:List Nat}{f:dZ}{row:Row}(h:bp rd φ O w0 σ w) (hl:bI σ r=some (g,f)) (hf:f p=some row) (j6:row.ao=false)
  {ig:List (List AV)} (hlen:ig.length=row.es.length) (vg:∀e∈ig,e.length=row.sz)
  (hc:∀(i j:Nat) (c':AV),(ig[i]?).bind (·[j]?)=some c'→∃c,(row.es[i]?).bind (·[j]?)=some c∧∀v,aL rd φ c v→aL rd φ c' v):bp rd φ O w0 (bQ σ r (g,dB f p ⟨row.sz,ig,0,false⟩)) w:=by
 have cj:rowAt σ r g p=some row:=by unfold rowAt;rw[hl];simp[hf]
 obtain⟨pl,hφ,aF⟩:=h.rows r g p row cj;have ch:=fun {r2 g2 p2 bD} (hr:rowAt (bQ σ r (g,dB f p ⟨row.sz,ig,0,false⟩)) r2 g2 p2=some bD)=>wI hl hr
 have lD:∀{r2 g2 p2 bD},rowAt (bQ σ r (g,dB f p ⟨row.sz,ig,0,false⟩)) r2 g2 p2=some bD→∃x,rowAt σ r2 g2 p2=some x:=by
  intro r2 g2 p2 bD hr;rcases ch hr with ⟨rfl,rfl,rfl,rfl⟩|⟨h1,_⟩
  ·exact⟨_,cj⟩
  exact⟨_,h1⟩
 refine⟨?_,?_,h.eh,?_,?_,h.frame,h.size,h.os,h.tape,h.output⟩
 ·intro r2 g2 p2 bD hr;rcases ch hr with ⟨rfl,rfl,rfl,rfl⟩|⟨hr,bO⟩
  ·refine⟨pl,hφ,vg,by rw[hlen];exact aF.len,fun e he=>⟨fun h=>absurd h (by simp),fun h=>absurd h (by simp)⟩,aF.nil,aF.room,fun b q aK i j c' aU=>?_,fun ha=>(by cases ha),lj (by show(0:Nat)<3;decide)⟩;obtain⟨c,h1,h2⟩:=hc i j c' aU;obtain⟨v,h3,h4⟩:=aF.cells b q aK i j c h1;exact⟨v,h3,h2 v h4⟩
  exact h.rows _ _ _ _ hr
 ·intro r1 g1 p1 fg r2 g2 p2 bD iZ cX b q1 q2 h1 h2 h3 h4 h5 h6;obtain⟨x1,e1⟩:=lD h1;obtain⟨x2,e2⟩:=lD h2;exact h.sep _ _ _ _ _ _ _ _ _ _ _ _ _ e1 e2 h3 h4 h5 h6
 ·intro r2 g2 p2 bD cX b2 q2 h1 h2 h3 k dD;rcases ch h1 with ⟨rfl,rfl,rfl,rfl⟩|⟨h1,_⟩
  ·exact h.et _ _ _ _ _ _ _ cj h2 h3 k (.inl j6)
  exact h.et _ _ _ _ _ _ _ h1 h2 h3 k dD
 intro r1 g1 p1 fg iZ b q1 h1 h2 h3;obtain⟨x1,e1⟩:=lD h1;exact h.own _ _ _ _ _ _ _ e1 h2 h3
theorem aI.zB (s:St) (t j sz:Nat):aI s (zB s t j sz):=by
 unfold E.zB;cases hx:BS s.σ j sz s.G (fx s.tm t) with
 | none=>exact .refl s
 | some σ'=>
  intro rd O w0 a w ⟨rd',φ,gW,h⟩;unfold BS at hx;split at hx
  ·rename_i r g p Yg i o hp;split at hx
   ·rename_i g' f bO hl;split at hx
    ·rename_i hg;have hg:=Nat.eq_of_beq_eq_true hg;subst hg;unfold JR at hx;split at hx
     ·rename_i row hf;split at hx
      ·rename_i e mH j6;unfold JQ at hx;split at hx
       ·rename_i SP;cases hx;have dJ:∀q,φ (800000+s.G) s.G q=none:=fun q=>by
         cases hh:φ (800000+s.G) s.G q with
         | none=>rfl
         | some x=>exact absurd (h.gen _ _ _ (by rw[hh];simp)) (Nat.lt_irrefl _)
        obtain⟨n1,n2⟩:=h.heap.JT dJ sz 2;generalize fj:(dz φ (800000+s.G) s.G fun q=>match q with|[]=>some (⟨none,0⟩:Pl)|_=>none)=φ' at n1 n2;have acQ:r≠800000+s.G:=fun e=>by rw[e,Nat.beq_refl]at bO;cases bO
        have l0:bI (bQ s.σ (800000+s.G) (s.G,one ⟨sz,[],2,false⟩)) r=some (g',f):=by rw[zK,if_neg acQ,hl]
        have cj:rowAt s.σ r g' p=some row:=by unfold rowAt;rw[hl];simp[hf]
        obtain⟨pl,hφr,aF⟩:=h.heap.rows _ _ _ _ cj;have oG:e∈row.es:=dh mH;refine⟨rd',φ',gW.step .refl n2,n1.review l0 hf j6 (by simp) ?_ ?_,fun t' v K7=>(h.tm t' v K7).mono (fun _ _ _ h=>h) n2,h.size,h.defers,?_⟩
        ·intro x hx;rcases List.mem_or_eq_of_mem_set hx with hx|rfl
         ·exact aF.wide x hx
         rw[List.length_set];exact aF.wide e oG
        ·intro i' j' c' aU;by_cases hi:i=i'
         ·subst hi;have ab:i<row.es.length:=(List.getElem?_eq_some_iff.1 mH).1;rw[List.getElem?_set_self ab]at aU;by_cases hj:j=j'
          ·subst hj;have sC:j<e.length:=(List.getElem?_eq_some_iff.1 SP).1;simp only[Option.bind_some,List.getElem?_set_self sC,Option.some.injEq]at aU;subst aU;refine⟨.aG,by rw[mH];exact SP,fun v hv=>?_⟩;cases hv;exact .au (800000+s.G) s.G [] sz 0 0 ⟨none,0⟩ none (by rw[←fj];simp[dz]) (.inl rfl) (aQ _)
          simp only[Option.bind_some,List.getElem?_set_ne hj]at aU;exact⟨c',by rw[mH];exact aU,fun v hv=>hv⟩
         rw[List.getElem?_set_ne hi]at aU;exact⟨c',aU,fun v hv=>hv⟩
        intro r' g0 p' je;rw[←fj]at je;unfold dz at je;split at je
        ·rename_i ee;rw[ee.2];exact Nat.lt_succ_self _
        exact Nat.lt_succ_of_lt (h.gen _ _ _ je)
       cases hx
      cases hx
     cases hx
    cases hx
   cases hx
  cases hx
theorem aI.aaU (s:St) (t:Nat) (u:AV):aI s (FC s t u):=by
 intro rd O w0 a w ⟨rd',φ,hx,h⟩;obtain⟨φ1,x1,h1,g1,v1⟩:=QR (u:=u) h.heap h.gen (h.look t);refine⟨rd',φ1,hx.step .refl x1,h1,fun t' v hl=>?_,h.size,h.defers,g1⟩;show aL rd' φ1 v _
 unfold FC FD at hl;simp only[gx]at hl;split at hl
 ·rename_i e;subst e;cases hl;exact v1
 exact(h.tm t' v hl).mono (fun _ _ _ h=>h) x1
theorem aI.gQ:∀(l:List (Nat × Nat)) (s:St),aI s (gQ l s)
 | [],s=>.refl s
 | (t,sz)::l,s=>by
  simp only[E.gQ];split
  ·exact(aI.zB s _ _ _).trans (aI.gQ l _)
  exact(aI.aaU s t _).trans (aI.gQ l _)
end
def lN:SC J→Bool
 | .dr t dY l af=>MA t dY (pU l) af
 | .seq a b=>lN a&&lN b
 | .sq _ a b=>lN a&&lN b
 | .ct a b=>lN a&&lN b
 | .cond _ a b=>lN a&&lN b
 | .block _ c=>lN c
 | .loop c=>lN c
 | .lp _ c=>lN c
 | .tz _ _ _ _ _ _ _ b=>lN b
 | _=>true
end
section
open Go Go.RowKit
set_option linter.unusedVariables false
inductive CK where
 | cl
 | ca
 | cm (ms:List Bool)
 | cn (ms:List Bool)
structure bX where
 mv:List (Nat × CK)
 str:List Nat
 YI:List Nat
 oc:Bool
def UB (f:Nat):List (Nat × CK)→CK
 | []=>.cl
 | (g,k)::r=>match Nat.beq g f with
  | true=>k
  | false=>UB f r
def zZ (x:Nat):List Nat→Bool
 | []=>false
 | y::l=>match Nat.beq x y with
  | true=>true
  | false=>zZ x l
def zO (x:Nat):List Nat→List Nat
 | []=>[x]
 | y::l=>match Nat.blt x y with
  | true=>x::y::l
  | false=>match Nat.beq x y with
   | true=>y::l
   | false=>y::zO x l
def IN:List Nat→List Nat→List Nat
 | [],m=>m
 | x::l,m=>IN l (zO x m)
def sP (x:Nat):List Nat→List Nat
 | []=>[]
 | y::l=>match Nat.beq x y with
  | true=>l
  | false=>y::sP x l
def qx {α:Type}:Nat→(Nat→α)→α
 | 0,k=>k 0
 | n+1,k=>k (n+1)
def rn {α:Type}:List Nat→(List Nat→α)→α
 | [],k=>k []
 | x::l,k=>qx x fun x=>rn l fun l=>k (x::l)
def Ts {α:Type}:List (List Nat)→(List (List Nat)→α)→α
 | [],k=>k []
 | x::l,k=>rn x fun x=>Ts l fun l=>k (x::l)
def OM:Nat→List Nat→List Nat
 | 0,l=>l
 | n+1,l=>OM n (n::l)
def Pp:List Nat→List Nat→Bool
 | [],[]=>true
 | x::l,y::m=>match Nat.beq x y with
  | true=>Pp l m
  | false=>false
 | _,_=>false
def afg (D:bX) (d:Option Nat) (c:Call):I:=
 match c.callee,c.args.toList,c.argTypes.toList,d with
 | .value (.func f),xs,ts,d=>match UB f D.mv with
  | .cl=>.cl d f xs ts
  | .ca=>.ca d f xs ts
  | .cm ms=>.cm d f ms xs ts
  | .cn ms=>.cn d f ms xs ts
 | .value (.tmp t),xs,ts,d=>.cu d (.tmp t) xs ts
 | .builtin .len,[x],[t],some d=>.ln d t x
 | .builtin .min,[x,y],ts,some d=>.mn d x y ts
 | .builtin .max,[x,y],ts,some d=>.mx d x y ts
 | .builtin .append,[x,y],[t,u],d=>.ap d t u x y
 | .builtin .copy,[x,y],[t,u],d=>.cp d t u x y
 | _,_,_,_=>.op d (.call c)
def opW (D:bX) (d:Nat) (bo:Bool):Op→I
 | .move x=>.mv d x
 | .assign x=>.as d x
 | .pick c a b=>.pk d c a b
 | .alloc t=>.al d t
 | .box t x=>.bx d t x
 | .load t (.global g)=>.lz d t g
 | .load t x=>.ld d t x
 | .fieldAddr t x f=>.fa d t x f
 | .extract x i=>.ex d x i
 | .nilCheck x=>.nc d x
 | .binOp b t x y u=>.bn d b t x y u
 | .unOp b t x=>.un d b t x
 | .convert s t x=>match zZ s D.str&&zZ t D.YI with
  | true=>.sb d s t x
  | false=>.cv d s t x
 | .indexAddr t x y=>.ia d t x y
 | .index t x y=>.ix d t x y
 | .field t x f=>.fd d t x f
 | .slice t x a b c=>.sl d t x a b c
 | .build t ps=>.bd d t ps.toList
 | .buildSlice t n ps=>match bo with
  | true=>.bo d t n ps.toList
  | false=>.bs d t n ps.toList
 | .makeSlice t x y=>.ms d t x y
 | .makeFunc (.func f) a b=>match a.toList,b.toList with
  | [x],[]=>.mf d f x
  | _,_=>.op (some d) (.makeFunc (.func f) a b)
 | .makeMap t none=>.mk d t
 | .lookup t x k ok=>.lu d t x k ok
 | o=>.op (some d) o
def word (D:bX) (bo:Bool) (d:Option Nat) (o:Op):I:=
 match o,d with
 | .store t a x,none=>.st t a x
 | .call c,d=>afg D d c
 | .mapUpdate t m k x,none=>.mu t m k x
 | o,some d=>opW D d bo o
 | o,none=>.op none o
def Tb (ops:List Oper) (j:Nat):Nat:=match ops[j]? with
 | some o=>o.dst.getD 0
 | none=>0
def A5 (D:bX) (ops:List Oper) (Ay:List Nat):Nat→List Oper→List J
 | _,[]=>[]
 | i,o::r=>(match o.guard with
  | none=>J.p (word D (zZ i Ay) o.dst o.op)
  | some (j,w)=>J.g (Tb ops j) w (word D (zZ i Ay) o.dst o.op))::A5 D ops Ay (i+1) r
def tmpsOf:List Operand→List Nat→List Nat
 | [],m=>m
 | .tmp t::l,m=>tmpsOf l (zO t m)
 | _::l,m=>tmpsOf l m
def RU (ops:List Oper):List Oper→List Nat→List Nat
 | [],m=>m
 | o::r,m=>rn (RU ops r m) fun m=>
  let m:=match o.dst with
   | some d=>sP d m
   | none=>m
  let m:=tmpsOf o.op.operands.toList m
  match o.guard with
  | some (j,_)=>zO (Tb ops j) m
  | none=>m
def TF (id:Nat):List (Nat × List Nat)→List Nat
 | []=>[]
 | (i,m)::r=>match Nat.beq i id with
  | true=>m
  | false=>TF id r
def abR:I→Nat
 | .mv ..|.as ..|.pk ..|.fa ..|.ex ..|.nc ..|.bn ..|.un ..|.ln ..|.mn ..|.mx ..|.ix ..|.fd ..|.sl ..|.bd ..|.bo ..=>1
 | .ld ..|.ia ..|.cv ..=>2
 | .bs ..=>3
 | _=>0
def iOf:J→I
 | .p i=>i
 | .g _ _ i=>i
def AA (s i:Nat):Bool:=Nat.beq (Nat.land (Nat.shiftRight s i) 1) 1
def zc (a i:Nat):Nat:=Nat.land (Nat.shiftRight a (Nat.mul i 256)) (Nat.sub (Nat.pow 2 256) 1)
def Ky (ks i:Nat):Nat:=Nat.land (Nat.shiftRight ks (Nat.mul i 2)) 3
def JD:List J→Nat
 | []=>0
 | j::l=>Nat.add (abR (iOf j)) (Nat.mul 4 (JD l))
def Rg:List Nat→Nat
 | []=>0
 | j::l=>Nat.lor (Nat.shiftLeft 1 j) (Rg l)
def Qs:List (List Nat)→Nat
 | []=>0
 | a::l=>Nat.lor (Rg a) (Nat.shiftLeft (Qs l) 256)
def Qy (acc:Nat):List Nat→Nat
 | []=>0
 | j::a=>Nat.lor (Nat.lor (Nat.shiftLeft 1 j) (zc acc j)) (Qy acc a)
def Wm:Nat→Nat→List (List Nat)→Nat
 | _,acc,[]=>acc
 | i,acc,a::r=>qx (Nat.lor acc (Nat.shiftLeft (Qy acc a) (Nat.mul i 256))) fun acc=>qx (Nat.add i 1) fun i=>Wm i acc r
def Nu (s:Nat):List Nat→List Nat
 | []=>[]
 | i::r=>match AA s i with
  | true=>i::Nu s r
  | false=>Nu s r
def ON (a:Nat) (all:List Nat):List Nat→List (List Nat)
 | []=>[]
 | i::r=>(qx (zc a i) fun s=>Nu s all)::ON a all r
def PM (af done i:Nat):Bool:=match AA done i with
 | true=>false
 | false=>qx (zc af i) fun s=>Nat.beq (Nat.land s done) s
def P8 (ks i:Nat):Bool:=match Ky ks i with
 | 1=>true
 | 2=>true
 | _=>false
def L3 (ks af done:Nat):List Nat→Option Nat
 | []=>none
 | i::r=>match P8 ks i with
  | false=>L3 ks af done r
  | true=>match PM af done i with
   | true=>some i
   | false=>L3 ks af done r
def Jm (af done:Nat):List Nat→List Nat
 | []=>[]
 | i::r=>match PM af done i with
  | true=>i::Jm af done r
  | false=>Jm af done r
def Jn (ks done an:Nat):List Nat→List Nat
 | []=>[]
 | k::r=>match AA done k,Nat.beq (Ky ks k) 2,AA an k with
  | true,true,false=>k::Jn ks done an r
  | _,_,_=>Jn ks done an r
def Qx:List DT→DT
 | []=>.nil
 | [t]=>t
 | t::r=>.or t (Qx r)
def IS (ks:Nat) (all:List Nat) (dY af:Nat):Nat→Nat→DT
 | 0,_=>.nil
 | n+1,done=>match L3 ks af done all with
  | some p=>qx (Nat.lor done (Nat.shiftLeft 1 p)) fun done=>.pu p (IS ks all dY af n done)
  | none=>Qx ((Jm af done all).map fun e=>qx (zc dY e) fun an=>.ef e (Jn ks done an all) (qx (Nat.lor done (Nat.shiftLeft 1 e)) fun done=>IS ks all dY af n done))
def drW (D:bX) (ops:List Oper):SC J:=
 Ts (ops.map wy) fun NN=>rn (OM ops.length []) fun all=>qx (Qs NN) fun af=>qx (Wm 0 0 NN) fun dY=>qx (JD (A5 D ops [] 0 ops)) fun ks=>
 rn (all.filter fun i=>!P8 ks i) fun TU=>
 rn (TU.filter fun i=>Nat.beq (Ky ks i) 3&&TU.any fun j=>!Nat.beq i j&&!AA (zc dY i) j&&!AA (zc dY j) i) fun Ay=>
 qx (JD (A5 D ops Ay 0 ops)) fun ks=>.dr (IS ks all dY af ops.length 0) (ON dY all all) (A5 D ops Ay 0 ops) NN
def Al:Code→Bool
 | .ret=>true
 | .exit _=>true
 | .seq a b=>Al a||Al b
 | .cond _ a b=>Al a&&Al b
 | _=>false
def aco:Code→Bool
 | .seq _ (.cond _ a b)=>!Al a&&!Al b
 | _=>false
def R2:List J→Option (List J × Nat × Nat × Operand)
 | []=>none
 | [.p (.op (some it) (.range ty x))]=>some ([],it,ty,x)
 | j::l=>match R2 l with
  | some (pre,r)=>some (j::pre,r)
  | none=>none
def YS (D:bX) (ct:Bool) (ks:List Nat) (a b:SC J):SC J:=
 match a,b with
 | .nD l,.block id (.lp ms (.sq k1 (.nD [.p (.op (some tn) (.next n s)),.p (.ex tb y z)]) (.sq k2 (.cond c .skip (.exit e)) body)))=>match R2 l with
  | some (pre,it,ty,x)=>match zZ ty D.str with
   | true=>.tz id pre it ty x tn tb body
   | false=>.sq ks a b
  | none=>.sq ks a b
 | a,b=>match ct with
  | true=>.ct a b
  | false=>.sq ks a b
def JF:DT→Bool
 | .nil=>false
 | .pu _ t=>JF t
 | .ef _ _ t=>JF t
 | .or _ _=>true
def orC:SC J→Bool
 | .dr t _ _ _=>JF t
 | _=>false
def L2 (f:List Nat→List Nat):Nat→List Nat→List Nat
 | 0,m=>m
 | n+1,m=>rn (f m) fun m2=>match Pp m2 m with
  | true=>m
  | false=>rn (IN m2 m) fun m=>L2 f n m
def u9 (ret:List Nat):Code→List Nat→List (Nat × List Nat)→List Nat
 | .skip,out,ex=>out
 | .ret,out,ex=>ret
 | .exit id,out,ex=>TF id ex
 | .seq a b,out,ex=>rn (u9 ret b out ex) fun m=>u9 ret a m ex
 | .cond c a b,out,ex=>tmpsOf [c] (IN (u9 ret a out ex) (u9 ret b out ex))
 | .block id c,out,ex=>u9 ret c out ((id,out)::ex)
 | .loop c,out,ex=>L2 (fun m=>u9 ret c m ex) 5 []
 | .region _ ops _,out,ex=>RU ops.toList ops.toList out
 | _,out,ex=>out
def vK (D:bX) (ct:Bool) (ret:List Nat):Code→List Nat→List (Nat × List Nat)→SC J
 | .skip,_,_=>.skip
 | .ret,_,_=>.ret
 | .exit id,_,_=>.exit id
 | .seq a b,out,ex=>
  rn (u9 ret b out ex) fun m=>YS D ((ct&&aco a)||(D.oc&&orC (vK D ct ret a m ex))) m (vK D ct ret a m ex) (vK D ct ret b out ex)
 | .cond c a b,out,ex=>.cond c (vK D ct ret a out ex) (vK D ct ret b out ex)
 | .block id c,out,ex=>.block id (vK D ct ret c out ((id,out)::ex))
 | .loop c,out,ex=>
  rn (L2 (fun m=>u9 ret c m ex) 5 []) fun m=>.lp m (vK D ct ret c m ex)
 | .region _ ops false,out,ex=>.nD (A5 D ops.toList [] 0 ops.toList)
 | .region _ ops true,out,ex=>drW D ops.toList
 | _,_,_=>.bad
def ES:List ResultVar→List Nat→List Nat
 | [],m=>m
 | .tmp t::r,m=>ES r (zO t m)
 | .cell t _::r,m=>ES r (zO t m)
def T3 (D:bX) (ct:Bool) (f:Func):SC J:=match f.body with
 | some c=>vK D ct (ES f.results.toList []) c (ES f.results.toList []) []
 | none=>.bad
end
section
open Go Go.RowKit
set_option linter.unusedVariables false
theorem zb:∀{c:Code}{A B:SC SO},strip c=.seq A B→∃a b,c=.seq a b∧strip a=A∧strip b=B
 | .seq a b,A,B,h=>by cases h;exact⟨a,b,rfl,rfl,rfl⟩
 | .region _ ops d,A,B,h=>by cases d<;>cases h
 | .skip,A,B,h|.ret,A,B,h|.exit _,A,B,h|.cond ..,A,B,h|.block ..,A,B,h|.loop _,A,B,h|.rangeFunc ..,A,B,h|.scope _,A,B,h|.label _,A,B,h|.goto _,A,B,h|.refuse _,A,B,h=>by cases h
theorem OW:∀{c:Code}{L:List SO},strip c=.nD L→∃i ops,c=.region i ops false∧jO ops ops.toList=L
 | .region i ops d,L,h=>by
  cases d with
  | true=>cases h
  | false=>cases h;exact⟨i,ops,rfl,rfl⟩
 | .seq ..,L,h|.skip,L,h|.ret,L,h|.exit _,L,h|.cond ..,L,h|.block ..,L,h|.loop _,L,h|.rangeFunc ..,L,h|.scope _,L,h|.label _,L,h|.goto _,L,h|.refuse _,L,h=>by cases h
theorem Yo:∀{c:Code}{id:Nat}{A:SC SO},strip c=.block id A→∃a,c=.block id a∧strip a=A
 | .block _ a,id,A,h=>by cases h;exact⟨a,rfl,rfl⟩
 | .region _ ops d,id,A,h=>by cases d<;>cases h
 | .seq ..,id,A,h|.skip,id,A,h|.ret,id,A,h|.exit _,id,A,h|.cond ..,id,A,h|.loop _,id,A,h|.rangeFunc ..,id,A,h|.scope _,id,A,h|.label _,id,A,h|.goto _,id,A,h|.refuse _,id,A,h=>by cases h
theorem Yl:∀{c:Code}{A:SC SO},strip c=.loop A→∃a,c=.loop a∧strip a=A
 | .loop a,A,h=>by cases h;exact⟨a,rfl,rfl⟩
 | .region _ ops d,A,h=>by cases d<;>cases h
 | .seq ..,A,h|.skip,A,h|.ret,A,h|.exit _,A,h|.cond ..,A,h|.block ..,A,h|.rangeFunc ..,A,h|.scope _,A,h|.label _,A,h|.goto _,A,h|.refuse _,A,h=>by cases h
theorem Yn:∀{c:Code}{x:Operand}{A B:SC SO},strip c=.cond x A B→∃a b,c=.cond x a b∧strip a=A∧strip b=B
 | .cond _ a b,x,A,B,h=>by cases h;exact⟨a,b,rfl,rfl,rfl⟩
 | .region _ ops d,x,A,B,h=>by cases d<;>cases h
 | .seq ..,x,A,B,h|.skip,x,A,B,h|.ret,x,A,B,h|.exit _,x,A,B,h|.block ..,x,A,B,h|.loop _,x,A,B,h|.rangeFunc ..,x,A,B,h|.scope _,x,A,B,h|.label _,x,A,B,h|.goto _,x,A,B,h|.refuse _,x,A,B,h=>by cases h
theorem Yk:∀{c:Code},strip c=.skip→c=.skip
 | .skip,h=>rfl
 | .region _ ops d,h=>by cases d<;>cases h
 | .seq ..,h|.ret,h|.exit _,h|.cond ..,h|.block ..,h|.loop _,h|.rangeFunc ..,h|.scope _,h|.label _,h|.goto _,h|.refuse _,h=>by cases h
theorem Ym:∀{c:Code}{id:Nat},strip c=.exit id→c=.exit id
 | .exit _,id,h=>by cases h;rfl
 | .region _ ops d,id,h=>by cases d<;>cases h
 | .seq ..,id,h|.ret,id,h|.skip,id,h|.cond ..,id,h|.block ..,id,h|.loop _,id,h|.rangeFunc ..,id,h|.scope _,id,h|.label _,id,h|.goto _,id,h|.refuse _,id,h=>by cases h
theorem Pf {ops:Array Oper}:∀{l:List Oper}{A B:List SO},jO ops l=A++B→∃a b,l=a++b∧jO ops a=A∧jO ops b=B
 | l,[],B,h=>⟨[],l,rfl,rfl,h⟩
 | [],x::A,B,h=>by cases h
 | o::l,x::A,B,h=>by
  simp only[jO,List.cons_append,List.cons.injEq]at h;obtain⟨a,b,h1,h2,h3⟩:=Pf h.2;exact⟨o::a,b,by rw[h1];rfl,by simp only[jO,h2,h.1],h3⟩
theorem I5 {ops:Array Oper}{o:Oper}{d:Option Nat}{p:Op}(h:so ops o=⟨d,p,none⟩) (hp:qL ⟨d,p,none⟩=true):o.op=p∧o.dst=d∧o.guard=none:=by
 unfold so at h;split at h
 ·rename_i hg;cases h;exact⟨rfl,rfl,hg⟩
 split at h
 ·cases h
 cases h;cases hp
theorem X8 {P:Program}{t:Nat}(h:tk P t=some .string):P.underlying t=some .string:=by
 obtain⟨i,hi,hk⟩:=jM h;obtain⟨dj,h1,h2,-⟩:=mW hi;rw[hk]at h2;cases dj<;>simp[kP]at h2;exact h1
theorem nI {P:Program}(hf:P.follows .mixedOrders=true):∀(c:SC J) {s:St}{Q Q':Exit→St→Prop},lN c=true→(∀e s,Q e s→Q' e s)→jv P c s Q→sv P (ie c) s Q'
 | .skip,s,Q,Q',hd,h,hk=>h _ _ hk
 | .ret,s,Q,Q',hd,h,hk=>h _ _ hk
 | .exit id,s,Q,Q',hd,h,hk=>h _ _ hk
 | .seq a b,s,Q,Q',hd,h,hk=>.inl (nI hf a (Bool.and_eq_true_iff.1 hd).1 (fun e s hs=>by
   cases e with
   | normal=>exact⟨s,.refl s,nI hf b (Bool.and_eq_true_iff.1 hd).2 h hs⟩
   | _=>exact h _ _ hs) hk)
 | .sq ks a b,s,Q,Q',hd,h,hk=>.inl (nI hf a (Bool.and_eq_true_iff.1 hd).1 (fun e s hs=>by
   cases e with
   | normal=>exact⟨_,.pn ks s,nI hf b (Bool.and_eq_true_iff.1 hd).2 h hs⟩
   | _=>exact h _ _ hs) hk)
 | .ct a b,s,Q,Q',hd,h,hk=>.inl (nI hf a (Bool.and_eq_true_iff.1 hd).1 (fun e s hs=>by
   cases e with
   | normal=>
    obtain⟨gG,hw,hs⟩:=hs;exact⟨gG,hw,nI hf b (Bool.and_eq_true_iff.1 hd).2 h hs⟩
   | _=>exact h _ _ hs) hk)
 | .cond c x y,⟨n,tm,σ,G⟩,Q,Q',hd,h,hk=>by
  simp only[jv]at hk;simp only[ie,sv,Hd];split at hk
  ·rename_i b hb;cases b with
   | true=>exact nI hf x (Bool.and_eq_true_iff.1 hd).1 h hk
   | false=>exact nI hf y (Bool.and_eq_true_iff.1 hd).2 h hk
  cases hk
 | .block id c,s,Q,Q',hd,h,hk=>nI hf c hd (fun e s hs=>by
   cases e with
   | exit kR=>
    simp only[lP]at hs ⊢;split at hs
    ·exact h _ _ hs
    exact h _ _ hs
   | _=>exact h _ _ hs) hk
 | .loop c,s,Q,Q',hd,h,hk=>by
  obtain⟨I,n,s1,h1,h2,h3⟩:=hk;exact⟨I,n,s1,h1,h2,fun m s2 hI=>nI hf c hd (fun e s hs=>by
   cases e with
   | normal=>exact hs
   | _=>exact h _ _ hs) (h3 m s2 hI)⟩
 | .lp ks c,s,Q,Q',hd,h,hk=>by
  obtain⟨I,n,s1,h1,h2,h3⟩:=hk;exact⟨I,n,s1,h1,h2,fun m s2 hI=>nI hf c hd (fun e s hs=>by
   cases e with
   | normal=>exact hs
   | _=>exact h _ _ hs) (h3 m s2 hI)⟩
 | .nD l,s,Q,Q',hd,h,hk=>YW (fun s hs=>h _ _ hs) (Gc l s _ hk)
 | .dr t dY l af,s,Q,Q',hd,h,hk=>⟨hf,t,dY,hd,Bq (fun s hs=>h _ _ hs) (xF l t s _ hk)⟩
 | .tz id l it ty x tn tb b,s,Q,Q',hd,h,hk=>by
  refine .inr fun c hc=>?_
  obtain⟨Ck,hk⟩:=hk;obtain⟨a,b',rfl,ha,lK⟩:=zb hc;obtain⟨i1,r6,rfl,h1⟩:=OW ha;obtain⟨c1,rfl,j5⟩:=Yo lK;obtain⟨c2,rfl,yf⟩:=Yl j5;obtain⟨c3,c4,rfl,h20,hb4⟩:=zb yf;obtain⟨i2,r5,rfl,h2⟩:=OW h20;obtain⟨c5,body,rfl,h3,hb⟩:=zb hb4;obtain⟨c6,c7,rfl,h4,h5⟩:=Yn h3;obtain rfl:=Yk h4;obtain rfl:=Ym h5;obtain⟨pre,last,e1,h6,h7⟩:=Pf h1;obtain⟨oR,l8,rfl,h8⟩:∃oR l8,last=oR::l8∧jO r6 last=so r6 oR::jO r6 l8:=by
   cases last with
   | nil=>cases h7
   | cons o l=>exact⟨o,l,rfl,rfl⟩
  rw[h8]at h7;simp only[List.cons.injEq]at h7;have SG:l8=[]:=by
   cases l8 with
   | nil=>rfl
   | cons o l=>cases h7.2
  subst SG;obtain⟨oN,oE,e2,hN,hE⟩:∃oN oE,r5.toList=[oN,oE]∧so r5 oN=⟨some tn,.next (.tmp it) true,none⟩∧so r5 oE=⟨some tb,.extract (.tmp tn) 0,none⟩:=by
   cases hl:r5.toList with
   | nil=>rw[hl]at h2;cases h2
   | cons o1 l=>
    rw[hl]at h2;cases l with
    | nil=>simp[jO]at h2
    | cons o2 l=>
     cases l with
     | nil=>
      simp only[jO,List.cons.injEq]at h2;exact⟨o1,o2,rfl,h2.1,h2.2.1⟩
     | cons o3 l=>simp[jO]at h2
  refine Y1 e1 (I5 h7.1 rfl) e2 (I5 hN rfl) (I5 hE rfl) (X8 Ck) ?_;refine Jb ?_ (h6▸Gc l s _ hk);rintro⟨n,tm,σ,G⟩ ⟨str,hx,CB,hI⟩;refine⟨str,by rw[Hd];exact hx,CB,fun r=>?_⟩;obtain⟨I,s2,hw,h0,hr⟩:=hI r;refine⟨I,s2,hw,h0,fun pos s3 hp=>⟨(hr pos s3 hp).1,fun ab=>?_,fun ab=>h _ _ ((hr pos s3 hp).2.2 ab)⟩⟩;obtain⟨c,GJ,re⟩:=(hr pos s3 hp).2.1 ab;refine⟨c,GJ,rS body (fun _ _ h=>h) (hb▸nI hf b hd (fun e s hs=>?_) re)⟩;cases e with
  | normal=>exact hs
  | exit kR=>
   simp only[iq,lP]at hs ⊢;split at hs
   ·exact h _ _ hs
   exact h _ _ hs
  | _=>exact h _ _ hs
 | .bad,s,Q,Q',hd,h,hk=>by cases hk
def D9 (P:Program) (rs:List ResultVar) (s:St) (res:AV) (rf:List (List Nat × Row)):Prop:=
 match tc P s rs with
 | some vs=>Ig res rf (mY (uJ res vs) vs s.σ s.G)
 | none=>False
def By (P:Program) (rs:List ResultVar) (res:AV) (rf:List (List Nat × Row)):Exit→St→Prop
 | .ret,s=>D9 P rs s res rf
 | .normal,s=>D9 P rs s res rf
 | _,_=>False
def Ik (P:Program) (n:Nat) (c:SC J) (N:Nat) (rs:List ResultVar):Prop:=
 ∃fn:Func,P.funcs[n]?=some fn∧fn.body.map strip=some (ie c)∧(fn.name== "runtime.NumGoroutine")=false∧fn.ntmps=N∧fn.results.toList=rs∧P.follows .mixedOrders=true∧lN c=true
theorem Nq {P:Program}{n:Nat}{fn:Func}{c:SC J}{N:Nat}{rs:List ResultVar}
  (h:(P.funcs[n]?,fn.body.map strip,fn.name== "runtime.NumGoroutine",fn.ntmps,fn.results.toList,P.follows .mixedOrders)=(some fn,some (ie c),false,N,rs,true)) (hd:lN c=true):Ik P n c N rs:=by
 simp only[Prod.mk.injEq]at h;exact⟨fn,h.1,h.2.1,h.2.2.1,h.2.2.2.1,h.2.2.2.2.1,h.2.2.2.2.2,hd⟩
abbrev AP (_:SC J) (G:Prop):Prop:=G
theorem aA {G:Prop}(D:bX) (ct:Bool) (fn:Func) (h:AP (T3 D ct fn) G):G:=h
theorem afi {P:Program}{n:Nat}{c:SC J}{N:Nat}{rs:List ResultVar}(hb:Ik P n c N rs)
  {args:List AV} {res:AV} {rf:List (List Nat × Row)} (hlen:Nat.ble args.length N=true) (hv:jv P c ⟨N,nj 0 args,[],0⟩ (By P rs res rf)):aR P n args res rf:=by
 obtain⟨fn,hf,hb,hn,rfl,rfl,CH,hd⟩:=hb;cases pB:fn.body with
 | none=>rw[pB]at hb;cases hb
 | some code=>
  rw[pB]at hb;have e:strip code=ie c:=Option.some.inj hb;have hq:∀e s,By P fn.results.toList res rf e s→PH P fn res rf e s:=by
   intro e s h;cases e<;>exact h
  exact afh hf pB hn (Nat.le_of_ble_eq_true hlen) (rS code (fun _ _ h=>h) (e▸nI CH c hd hq hv))
def Bx (P:Program) (rs:List ResultVar) (res:AV) (σout:aj):Exit→St→Prop
 | .ret,s=>mR P rs s res σout
 | .normal,s=>mR P rs s res σout
 | _,_=>False
theorem afk {P:Program}{n:Nat}{c:SC J}{N:Nat}{rs:List ResultVar}(hb:Ik P n c N rs)
  {σin:aj} {args:List AV} {res:AV} {σout:aj} (hlen:Nat.ble args.length N=true) (hv:jv P c ⟨N,nj 0 args,σin,1⟩ (Bx P rs res σout)):bb P n σin args res σout:=by
 obtain⟨fn,hf,hb,hn,rfl,rfl,CH,hd⟩:=hb;cases pB:fn.body with
 | none=>rw[pB]at hb;cases hb
 | some code=>
  rw[pB]at hb;have e:strip code=ie c:=Option.some.inj hb;exact UK hf pB hn (Nat.le_of_ble_eq_true hlen) (rS code (fun _ _ h=>h) (e▸nI CH c hd (fun e s h=>by
   cases e<;>exact h) hv))
theorem Zf {P:Program}{rs:List ResultVar}{res:AV}{σout:aj}{s:St}:Bx P rs res σout .ret s=mR P rs s res σout:=rfl
theorem Zg {P:Program}{rs:List ResultVar}{res:AV}{σout:aj}{s:St}:Bx P rs res σout .normal s=mR P rs s res σout:=rfl
theorem bf {P:Program}{n:Nat}{c:SC J}(fn:Func) (N:Nat) (rs:List ResultVar) {args:List AV}{res:AV}{rf:List (List Nat × Row)}
  (h:(P.funcs[n]?,fn.body.map strip,fn.name== "runtime.NumGoroutine",fn.ntmps,fn.results.toList,P.follows .mixedOrders)=(some fn,some (ie c),false,N,rs,true)) (hd:lN c=true) (hlen:Nat.ble args.length N=true)
  (hv:jv P c ⟨N,nj 0 args,[],0⟩ (By P rs res rf)):AP c (aR P n args res rf):=afi (Nq h hd) hlen hv
theorem bT {P:Program}{n:Nat}{c:SC J}(fn:Func) (N:Nat) (rs:List ResultVar) {σin:aj}{args:List AV}{res:AV}{σout:aj}
  (h:(P.funcs[n]?,fn.body.map strip,fn.name== "runtime.NumGoroutine",fn.ntmps,fn.results.toList,P.follows .mixedOrders)=(some fn,some (ie c),false,N,rs,true)) (hd:lN c=true) (hlen:Nat.ble args.length N=true)
  (hv:jv P c ⟨N,nj 0 args,σin,1⟩ (Bx P rs res σout)):AP c (bb P n σin args res σout):=afk (Nq h hd) hlen hv
def WU (P:Program) (b:SC J) (Q:Exit→St→Prop) (s:St):Prop:=jv P b s Q
def N4 (P:Program) (l:List J) (Q:St→Prop) (s:St):Prop:=oB P l s Q
def vJ (P:Program) (a b:SC J) (s:St) (Q:Exit→St→Prop) (v:AV):Prop:=match v with
 | .sc (.bool c)=>Br c (jv P a s Q) (jv P b s Q)
 | _=>False
theorem b8 {P:Program}{a b:SC J}{s:St}{Q:Exit→St→Prop}{c:Bool}(h:c=true→jv P a s Q) (k:c=false→jv P b s Q):vJ P a b s Q (.sc (.bool c)):=aij h k
section
variable {P:Program}{n G:Nat}{tm:List (Nat × AV)}{σ:aj}{Q:Exit→St→Prop}{K:St→Prop}{d t f i id:Nat}{x y z:Operand}{l:List J}{w:Bool}{s:St}{a b:SC J}
theorem aZ:vJ P a b s Q (.sc (.bool true))=jv P a s Q:=rfl
theorem aY:vJ P a b s Q (.sc (.bool false))=jv P b s Q:=rfl
theorem ek {i:I}:gL P n tm σ G t true i K (.sc (.bool true))=dw P i ⟨n,tm,σ,G⟩ K:=rfl
theorem bU {i:I}:gL P n tm σ G t false i K (.sc (.bool false))=dw P i ⟨n,tm,σ,G⟩ K:=rfl
theorem eo {i:I}:gL P n tm σ G t true i K (.sc (.bool false))=qW i ⟨n,tm,σ,G⟩ K:=rfl
theorem eO {i:I}:gL P n tm σ G t false i K (.sc (.bool true))=qW i ⟨n,tm,σ,G⟩ K:=rfl
theorem ads {i:I}:gL P n tm σ G t w i K (.ba [])=qW i ⟨n,tm,σ,G⟩ K:=rfl
theorem ew {i:I}{c:Bool}(h:c=true→gL P n tm σ G t w i K (.sc (.bool true))) (k:c=false→gL P n tm σ G t w i K (.sc (.bool false))):gL P n tm σ G t w i K (.sc (.bool c)):=by
 cases c with
 | true=>exact h rfl
 | false=>exact k rfl
theorem ah8:WU P b Q ⟨n,tm,σ,G⟩=jv P b ⟨n,tm,σ,G⟩ Q:=rfl
theorem aia:N4 P l K ⟨n,tm,σ,G⟩=oB P l ⟨n,tm,σ,G⟩ K:=rfl
theorem abZ:jv P .skip s Q=Q .normal s:=rfl
theorem ab2:jv P .ret s Q=Q .ret s:=rfl
theorem ab4:jv P (.exit id) s Q=Q (.exit id) s:=rfl
theorem ab0:jv P (.seq a b) s Q=jv P a s (iq Q (WU P b Q)):=rfl
theorem ab7:jv P (.block id a) s Q=jv P a s (lP id Q):=rfl
theorem ab6:jv P (.cond x a b) ⟨n,tm,σ,G⟩ Q=vJ P a b ⟨n,tm,σ,G⟩ Q (cE tm x):=rfl
theorem ab3:jv P (.nD l) s Q=oB P l s (Norm Q):=rfl
theorem ach:oB P [] s K=K s:=rfl
theorem acg {i:I}:oB P (.p i::l) s K=dw P i s (N4 P l K):=rfl
theorem aci {i:I}:oB P (.g t w i::l) ⟨n,tm,σ,G⟩ K=gL P n tm σ G t w i (N4 P l K) (fx tm t):=rfl
def WV (P:Program) (l:List J) (t:DT) (K:St→Prop) (s:St):Prop:=jT P l t s K
def WW (P:Program) (l:List J) (rc:List Nat) (tm:List (Nat × AV)) (σ:aj) (t:DT) (K:St→Prop) (s:St):Prop:=wG P l tm σ s.σ rc∧jT P l t s K
def KA (P:Program) (n:Nat) (tm:List (Nat × AV)) (σ:aj) (G:Nat) (K:St→Prop):Option J→Prop
 | some (.p j)=>(ve j=true∧iu j.so.o=true)∧dw P j ⟨n,tm,σ,G⟩ K
 | some (.g u w j)=>(ve j=true∧iu j.so.o=true)∧gL P n tm σ G u w j K (fx tm u)
 | none=>False
def KB (P:Program) (n:Nat) (tm:List (Nat × AV)) (σ:aj) (G:Nat) (K:St→Prop):Option J→Prop
 | some (.p j)=>dw P j ⟨n,tm,σ,G⟩ K
 | some (.g u w j)=>gL P n tm σ G u w j K (fx tm u)
 | none=>False
theorem ah9 {t:DT}:WV P l t K ⟨n,tm,σ,G⟩=jT P l t ⟨n,tm,σ,G⟩ K:=rfl
theorem aib {t:DT}{rc:List Nat}{OR:List (Nat × AV)}{σ0:aj}:WW P l rc OR σ0 t K ⟨n,tm,σ,G⟩=(wG P l OR σ0 σ rc∧jT P l t ⟨n,tm,σ,G⟩ K):=rfl
theorem ab5 {t:DT}{dY af:List (List Nat)}:jv P (.dr t dY l af) s Q=jT P l t s (Norm Q):=rfl
theorem acb:jT P l .nil s K=K s:=rfl
theorem ab9 {t:DT}:jT P l (.pu i t) ⟨n,tm,σ,G⟩ K=KA P n tm σ G (WV P l t K) (oo l i):=by
 rw[jT];cases h:oo l i with
 | none=>rfl
 | some j=>cases j<;>rfl
theorem acd {t:DT}{rc:List Nat}:jT P l (.ef i rc t) ⟨n,tm,σ,G⟩ K=KB P n tm σ G (WW P l rc tm σ t K) (oo l i):=by
 rw[jT];cases h:oo l i with
 | none=>rfl
 | some j=>cases j<;>rfl
theorem Sf {a b:DT}:jT P l (.or a b) s K=(jT P l a s K∧jT P l b s K):=rfl
theorem ace {i:I}:KA P n tm σ G K (some (.p i))=((ve i=true∧iu i.so.o=true)∧dw P i ⟨n,tm,σ,G⟩ K):=rfl
theorem acf {i:I}:KA P n tm σ G K (some (.g t w i))=((ve i=true∧iu i.so.o=true)∧gL P n tm σ G t w i K (fx tm t)):=rfl
theorem acj {i:I}:KB P n tm σ G K (some (.p i))=dw P i ⟨n,tm,σ,G⟩ K:=rfl
theorem acm {i:I}:KB P n tm σ G K (some (.g t w i))=gL P n tm σ G t w i K (fx tm t):=rfl
theorem Ya {K:St→Prop}:iq Q K .normal s=K s:=rfl
theorem X9 {K:St→Prop}:iq Q K .ret s=Q .ret s:=rfl
theorem Yb {K:St→Prop}:iq Q K (.exit id) s=Q (.exit id) s:=rfl
theorem ahk:lP id Q .normal s=Q .normal s:=rfl
theorem ahj:lP id Q .ret s=Q .ret s:=rfl
theorem ahl {kR:Nat}:lP id Q (.exit kR) s=Br (kR==id) (Q .normal s) (Q (.exit kR) s):=by
 cases h:kR==id<;>simp[lP,h,Br]
theorem Y7 {rs:List ResultVar}{res:AV}{rf:List (List Nat × Row)}:By P rs res rf .ret s=D9 P rs s res rf:=rfl
theorem Y8 {rs:List ResultVar}{res:AV}{rf:List (List Nat × Row)}:By P rs res rf .normal s=D9 P rs s res rf:=rfl
theorem Np {X:Prop}:Br (Nat.blt d n) X False=if d<n then X else False:=by
 by_cases h:d<n
 ·rw[if_pos h,show Nat.blt d n=true from Nat.ble_eq_true_of_le h];rfl
 rw[if_neg h];cases hb:Nat.blt d n with
 | false=>rfl
 | true=>exact absurd (Nat.le_of_ble_eq_true hb) h
theorem aaa {v:AV}:iY n d tm σ G K v=if d<n then K ⟨n,(d,v)::tm,σ,G⟩ else False:=Np
theorem aac {v:AV}{σ':aj}:tB n d tm G K (v,σ')=if d<n then K ⟨n,(d,v)::tm,σ',G+1⟩ else False:=Np
theorem put_eq {v:AV}:put ⟨n,tm,σ,G⟩ (some d) v σ false K=if d<n then K ⟨n,(d,v)::tm,σ,G⟩ else False:=by rw[Z6];exact Np
theorem Z9 {v:AV}{σ':aj}:put ⟨n,tm,σ,G⟩ none v σ' false K=K ⟨n,tm,σ',G⟩:=rfl
theorem Z8 {v:AV}{σ':aj}:put ⟨n,tm,σ,G⟩ none v σ' true K=K ⟨n,tm,σ',G+1⟩:=rfl
theorem aab {σ':aj}:Fb n tm G K σ'=K ⟨n,tm,σ',G⟩:=rfl
theorem Xs {d:Option Nat}{qF:List AV}{σ':aj}:Ix P n d tm σ G f K (σ',qF)=aq P f qF (Ee ⟨n,tm,σ,G⟩ d K σ'):=rfl
theorem afn {res:AV}{σ':aj}{rf:List (List Nat × Row)}:Ee ⟨n,tm,σ,G⟩ (some d) K σ' res rf=(Bz rf=true∧tB n d tm G K (nm d G res,np σ' d G rf)):=by
 have h:put ⟨n,tm,σ,G⟩ (some d) (nm d G res) (np σ' d G rf) true K=tB n d tm G K (nm d G res,np σ' d G rf):=Ju;show(_∧put ⟨n,tm,σ,G⟩ (some d) (nm d G res) (np σ' d G rf) true K)=_
 rw[h]
theorem afm {res:AV}{σ':aj}{rf:List (List Nat × Row)}:Ee ⟨n,tm,σ,G⟩ none K σ' res rf=(Bz rf=true∧Fb n tm (G+1) K (np σ' 0 G rf)):=rfl
def WT (P:Program) (ks:List Nat) (b:SC J) (Q:Exit→St→Prop) (s:St):Prop:=jv P b (Ga ks s) Q
theorem ah7 {ks:List Nat}:WT P ks b Q ⟨n,tm,σ,G⟩=jv P b ⟨n,qf ks tm,σ,G⟩ Q:=rfl
theorem abY {ks:List Nat}:jv P (.sq ks a b) s Q=jv P a s (iq Q (WT P ks b Q)):=rfl
theorem aeg {v:Value}:cE tm (.const v)=v8 v:=rfl
theorem aef:cE tm (.func f)=.sc (.func (.func f) #[] #[]):=rfl
theorem acx {i:I}:qW i s K=put s i.so.d (.ba []) s.σ false K:=rfl
end
theorem Gd {P:Program}:∀(l:List J) {s:St}{K K':St→Prop},(∀s,K s→K' s)→oB P l s K→oB P l s K'
 | [],_,_,_,h,hk=>h _ hk
 | .p i::l,_,_,_,h,hk=>Gh (fun s hs=>Gd l h hs) hk
 | .g t w i::l,s,K,K',h,hk=>by
  exact LR (fun s hs=>Gd l h hs) hk
theorem mA {P:Program}:∀(c:SC J) {s:St}{Q Q':Exit→St→Prop},(∀e s,Q e s→Q' e s)→jv P c s Q→jv P c s Q'
 | .skip,s,Q,Q',h,hk=>h _ _ hk
 | .ret,s,Q,Q',h,hk=>h _ _ hk
 | .exit id,s,Q,Q',h,hk=>h _ _ hk
 | .seq a b,s,Q,Q',h,hk=>mA a (fun e s hs=>by
   cases e with
   | normal=>exact mA b h hs
   | _=>exact h _ _ hs) hk
 | .sq ks a b,s,Q,Q',h,hk=>mA a (fun e s hs=>by
   cases e with
   | normal=>exact mA b h hs
   | _=>exact h _ _ hs) hk
 | .ct a b,s,Q,Q',h,hk=>mA a (fun e s hs=>by
   cases e with
   | normal=>
    obtain⟨gG,hw,hs⟩:=hs;exact⟨gG,hw,mA b h hs⟩
   | _=>exact h _ _ hs) hk
 | .cond c x y,⟨n,tm,σ,G⟩,Q,Q',h,hk=>by
  simp only[jv]at hk ⊢;split at hk
  ·rename_i b hb;cases b with
   | true=>exact mA x h hk
   | false=>exact mA y h hk
  cases hk
 | .block id c,s,Q,Q',h,hk=>mA c (fun e s hs=>by
   cases e with
   | exit kR=>
    simp only[lP]at hs ⊢;split at hs
    ·exact h _ _ hs
    exact h _ _ hs
   | _=>exact h _ _ hs) hk
 | .loop c,s,Q,Q',h,hk=>by
  obtain⟨I,n,s1,h1,h2,h3⟩:=hk;exact⟨I,n,s1,h1,h2,fun m s2 hI=>mA c (fun e s hs=>by
   cases e with
   | normal=>exact hs
   | _=>exact h _ _ hs) (h3 m s2 hI)⟩
 | .lp ks c,s,Q,Q',h,hk=>by
  obtain⟨I,n,s1,h1,h2,h3⟩:=hk;exact⟨I,n,s1,h1,h2,fun m s2 hI=>mA c (fun e s hs=>by
   cases e with
   | normal=>exact hs
   | _=>exact h _ _ hs) (h3 m s2 hI)⟩
 | .nD l,s,Q,Q',h,hk=>Gd l (fun s hs=>h _ _ hs) hk
 | .dr _ _ l _,s,Q,Q',h,hk=>xG (l:=l) (fun s hs=>h _ _ hs) hk
 | .tz id l it ty x tn tb b,s,Q,Q',h,hk=>by
  obtain⟨Ck,hk⟩:=hk;refine⟨Ck,Gd l ?_ hk⟩;rintro s1 ⟨str,hx,CB,hI⟩;refine⟨str,hx,CB,fun r=>?_⟩;obtain⟨I,s2,hw,h0,hr⟩:=hI r;refine⟨I,s2,hw,h0,fun pos s3 hp=>⟨(hr pos s3 hp).1,fun ab=>?_,fun ab=>h _ _ ((hr pos s3 hp).2.2 ab)⟩⟩;obtain⟨c,hd,hb⟩:=(hr pos s3 hp).2.1 ab;refine⟨c,hd,mA b (fun e s hs=>?_) hb⟩;cases e with
  | normal=>exact hs
  | exit kR=>
   simp only[iq,lP]at hs ⊢;split at hs
   ·exact h _ _ hs
   exact h _ _ hs
  | _=>exact h _ _ hs
 | .bad,s,Q,Q',h,hk=>by cases hk
def WS (ks:List Nat) (I:Nat→St→Prop) (m:Nat) (s:St):Prop:=∃m',m'<m∧I m' (mJ ks s)
theorem ah5 {ks:List Nat}{I:Nat→St→Prop}{m n G:Nat}{tm:List (Nat × AV)}{σ:aj}:WS ks I m ⟨n,tm,σ,G⟩=∃m',m'<m∧I m' (mJ ks ⟨n,tm,σ,G⟩):=rfl
theorem adg {ks:List Nat}{n G:Nat}{tm:List (Nat × AV)}{σ:aj}:mJ ks ⟨n,tm,σ,G⟩=s7 ⟨n,tm,σ,G⟩ (qf ks tm) (MG ⟨n,tm,σ,G⟩ ks):=rfl
theorem cR {P:Program}{ks:List Nat}{c:SC J}{s:St}{Q:Exit→St→Prop}(I:Nat→St→Prop) (n:Nat) (h1:I n (mJ ks s))
  (h2:∀m s2,I m s2→jv P c s2 (iq Q (WS ks I m))):jv P (.lp ks c) s Q:=⟨I,n,_,.head ks s,h1,fun m s2 hI=>mA c (fun e s hs=>by
   cases e with
   | normal=>
    obtain⟨m',h4,h5⟩:=hs;exact⟨m',_,h4,.head ks s,h5⟩
   | _=>exact hs) (h2 m s2 hI)⟩
def WR (ks:List Nat) (us:List (Nat × Nat)) (I:Nat→St→Prop) (m:Nat) (s:St):Prop:=∃m',m'<m∧I m' (mJ ks (gQ us s))
theorem ah4 {ks:List Nat}{us:List (Nat × Nat)}{I:Nat→St→Prop}{m n G:Nat}{tm:List (Nat × AV)}{σ:aj}:WR ks us I m ⟨n,tm,σ,G⟩=∃m',m'<m∧I m' (mJ ks (gQ us ⟨n,tm,σ,G⟩)):=rfl
theorem jX {P:Program}{ks:List Nat}{c:SC J}{s:St}{Q:Exit→St→Prop}(us:List (Nat × Nat)) (I:Nat→St→Prop) (n:Nat) (h1:I n (mJ ks (gQ us s)))
  (h2:∀m s2,I m s2→jv P c s2 (iq Q (WR ks us I m))):jv P (.lp ks c) s Q:=⟨I,n,_,(aI.gQ us s).trans (.head ks _),h1,fun m s2 hI=>mA c (fun e s hs=>by
   cases e with
   | normal=>
    obtain⟨m',h4,h5⟩:=hs;exact⟨m',_,h4,(aI.gQ us s).trans (.head ks _),h5⟩
   | _=>exact hs) (h2 m s2 hI)⟩
def WO (P:Program) (id it:Nat) (x:Operand) (tn tb:Nat) (b:SC J) (Q:Exit→St→Prop) (s1:St):Prop:=∃str,cE s1.tm x=.sc (.string str)∧it<s1.n∧∀r,∃(I:Nat→St→Prop) (s2:St),aI ⟨s1.n,(it,.it r)::s1.tm,s1.σ,s1.G⟩ s2∧I 0 s2∧∀pos s3,I pos s3→
   (bI s3.tm it=some (.it r)∧tn<s3.n∧tb<s3.n)∧
   (pos<str.size→∃c,Utf8.decode str pos=(c,1)∧jv P b ⟨s3.n,(tb,.sc (.bool true))::(tn,.ba [.sc (.bool true),.sc (.int .i64 pos),.sc (.int .i32 c)])::s3.tm,s3.σ,s3.G⟩ (iq (lP id Q) fun s4=>∃s5,aI s4 s5∧I (pos+1) s5))∧
   (¬pos<str.size→Q .normal ⟨s3.n,(tb,.sc (.bool false))::(tn,.ba [.sc (.bool false)])::s3.tm,s3.σ,s3.G⟩)
theorem ab1 {P:Program}{id it ty tn tb:Nat}{x:Operand}{l:List J}{b:SC J}{s:St}{Q:Exit→St→Prop}:jv P (.tz id l it ty x tn tb b) s Q=(tk P ty=some .string∧oB P l s (WO P id it x tn tb b Q)):=rfl
def WN (ks:List Nat) (us:List (Nat × Nat)) (I:Nat→St→Prop) (pos:Nat) (s:St):Prop:=I pos (mJ ks (gQ us s))
theorem ahY {ks:List Nat}{us:List (Nat × Nat)}{I:Nat→St→Prop}{pos n G:Nat}{tm:List (Nat × AV)}{σ:aj}:WN ks us I pos ⟨n,tm,σ,G⟩=I pos (mJ ks (gQ us ⟨n,tm,σ,G⟩)):=rfl
theorem PC {P:Program}{id it tn tb n G:Nat}{tm:List (Nat × AV)}{σ:aj}{x:Operand}{b:SC J}{Q:Exit→St→Prop}(str:ByteArray) (ks:List Nat) (us:List (Nat × Nat)) (I:Nat→Nat→St→Prop)
  (hx:cE tm x=.sc (.string str)) (hn:it<n∧tn<n∧tb<n) (h0:∀r,I r 0 (mJ ks (gQ us ⟨n,(it,.it r)::tm,σ,G⟩)))
  (hr:∀r pos s,I r pos s→bI s.tm it=some (.it r)∧s.n=n)
  (h1:∀r pos s,I r pos s→pos<str.size→∃c,Utf8.decode str pos=(c,1)∧jv P b ⟨s.n,(tb,.sc (.bool true))::(tn,.ba [.sc (.bool true),.sc (.int .i64 pos),.sc (.int .i32 c)])::s.tm,s.σ,s.G⟩ (iq (lP id Q) (WN ks us (I r) (pos+1))))
  (h2:∀r pos s,I r pos s→¬pos<str.size→Q .normal ⟨s.n,(tb,.sc (.bool false))::(tn,.ba [.sc (.bool false)])::s.tm,s.σ,s.G⟩):WO P id it x tn tb b Q ⟨n,tm,σ,G⟩:=by
 refine⟨str,hx,hn.1,fun r=>⟨I r,_,(aI.gQ us _).trans (.head ks _),h0 r,fun pos s3 hp=>⟨⟨(hr r pos s3 hp).1,by rw[(hr r pos s3 hp).2];exact hn.2.1,by rw[(hr r pos s3 hp).2];exact hn.2.2⟩,fun ab=>?_,h2 r pos s3 hp⟩⟩⟩;obtain⟨c,hd,hb⟩:=h1 r pos s3 hp ab;refine⟨c,hd,mA b (fun e s hs=>?_) hb⟩;cases e with
 | normal=>exact⟨_,(aI.gQ us s).trans (.head ks _),hs⟩
 | _=>exact hs
theorem aaR {n G t:Nat}{tm:List (Nat × AV)}{σ:aj}{u:AV}:FC ⟨n,tm,σ,G⟩ t u=FD ⟨n,tm,σ,G⟩ t (uW u (fx tm t) σ G):=rfl
theorem aaT {n G t j sz:Nat}{tm:List (Nat × AV)}{σ:aj}:zB ⟨n,tm,σ,G⟩ t j sz=JS ⟨n,tm,σ,G⟩ (BS σ j sz G (fx tm t)):=rfl
theorem aaS {n G t G':Nat}{tm:List (Nat × AV)}{σ σ':aj}{v:AV}:FD ⟨n,tm,σ,G⟩ t (v,σ',G')=⟨n,(t,v)::tm,σ',G'⟩:=rfl
theorem aI.only (ks:List Nat) (s:St):aI s ⟨s.n,qf ks s.tm,[],s.G⟩:=by
 intro rd O w0 a w ⟨rd',φ,hx,h⟩;have eH:∀{r g p row},rowAt ([]:aj) r g p=some row→False:=by
  intro r g p row hr;simp[rowAt,bI]at hr
 exact⟨rd',φ,hx,⟨fun r g p row hr=>(eH hr).elim,fun r g p row r' g' p' cq pl cV b q q' hr=>(eH hr).elim,h.heap.eh,fun r g p row pl b q hr=>(eH hr).elim,fun r g p row pl b q hr=>(eH hr).elim,h.heap.frame,h.heap.size,h.heap.os,h.heap.tape,h.heap.output⟩,
  fun t v hl=>Cb ks s.tm t v hl▸h.look t,h.size,h.defers,h.gen⟩
theorem ahy (n:Nat):Nat.beq n n=true:=Nat.beq_refl n
theorem abE {row:Row}:lX [([],row)]=one row:=by
 funext p;cases p<;>rfl
theorem DN:∀{a b:List Nat},nZ a b=true↔a=b
 | [],[]=>by simp[nZ]
 | [],_::_=>by simp[nZ]
 | _::_,[]=>by simp[nZ]
 | a::l,b::m=>by
  simp only[nZ,List.cons.injEq];cases h:a==b with
  | true=>simp only[DN];simp at h;simp[h]
  | false=>simp at h;simp[h]
theorem abG {q p:List Nat}{row:Row}{l:List (List Nat × Row)}:lX ((q,row)::l) p=match nZ p q with
  | true=>some row
  | false=>lX l p:=by
 rw[lX];cases h:nZ p q with
 | true=>rw[if_pos (DN.1 h)]
 | false=>rw[if_neg (fun e=>by rw[DN.2 e]at h;cases h)]
theorem adG {f:dZ}{p q:List Nat}{row:Row}:dB f p row q=match nZ q p with
  | true=>some row
  | false=>f q:=by
 unfold dB;cases h:nZ q p with
 | true=>rw[if_pos (DN.1 h)]
 | false=>rw[if_neg (fun e=>by rw[DN.2 e]at h;cases h)]
theorem ahn (a b:Nat):Nat.ble a b=decide (a≤b):=by
 by_cases h:a≤b
 ·rw[Nat.ble_eq_true_of_le h,decide_eq_true h]
 rw[decide_eq_false h];cases hb:Nat.ble a b with
 | false=>rfl
 | true=>exact absurd (Nat.le_of_ble_eq_true hb) h
theorem abF {p:List Nat}:lX [] p=none:=rfl
attribute [go_sem] ZD ZG ZA te Ea N3 Ca vz oI abF aaT JS BS JR JQ C2 Option.getD_none Int.le_refl ZP ae3 ZF ZE Af adU DW AJ ab1 ahY ah4 aaR aaS uW qO uX mY Ig NZ gQ uJ ahn List.set_set List.length_set List.replicate_succ List.replicate_zero Nat.succ_eq_add_one List.take_length abE abG adG nZ ahy Bool.true_or Bool.false_or Bool.not_not Bool.not_true Bool.not_false Bool.false_and beq_self_eq_true Nat.min_def Int.toNat_natCast Int.natCast_nonneg acw Gg Yj Yi Nat.zero_add Nat.le_refl List.getElem?_map List.length_map ad2 Ju Z8 ab5 acb ab9 acd Sf ace acf acj acm ah9 aib wG E4 Jo LS kL jJ oo ve iu Zf Zg mR N0 Jh Bu wD Bj adg ah5 MG s7 Du NP xg Il mN OU CP GQ l7 iy sh mi Jc JO qN zA Fz aaM qM ei xc Gf xI QL ot mapA zD lU abb Cf rU FJ Q5 Q3 JX Q0 oY pH yr uR vC BH BG BJ BI zq zr R0 Cd oi BM Dj AI NW D1 oS D3 AK AN DR DK D5 AM yK Ia H8 H5 H6 wE dx fp DS Nw Am NH AO AL zg I8 Dh yp pX abZ ab2 ab4 ab0 abY ab7 ab6 ab3 ach acg aci Ya X9 Yb ahk ahj ahl Y7 Y8 aaa aac aab Xs afn afm L9 aeg aef acx ah8 aia ah7 ah1 aZ aY ek bU eo eO ads Zz Z0 Zw Z2 ZV ZI ZM ZN Zx ZY Zs ZO Zt ZH ZU ZT ZS ZR FI Q4 Q2 Q1 Ah ad0 ZK ZJ ZL Zu ZZ ZX ZW Z1 ZQ Zv ZC Zy ZB D0 DY mM fx qf I.so put_eq Z9 Hd nj v8 kW tu aau wc we D7 H7 NX NV Ge H3 DX D8 D6 yJ AH Bl isVar D2 D4 H4 DZ H9 sj I2 ji nk iz Fi gE one Tj rowAt bI bQ Option.map_some Option.map_none Option.bind_some Option.bind_none D9 tc C6 C5 C3 C4 rk C8 ic oP LU CX CW CV Ac v7 DQ rowsOf Bz nm FB FA np Nat.blt tk decide_true decide_false List.getElem?_toArray List.getElem?_cons_succ List.getElem?_cons_zero List.getElem?_nil List.all_cons List.all_nil List.any_cons List.any_nil Bool.and_true Bool.true_and Bool.or_false Bool.false_or Bool.and_self List.map_cons List.map_nil List.length_cons List.length_nil List.drop_succ_cons List.drop_zero List.take_succ_cons List.take_zero List.drop_nil List.take_nil List.append_nil List.nil_append List.cons_append List.set_cons_zero List.set_cons_succ Nat.ble_eq Nat.beq_eq Option.getD_some and_self true_and and_true ite_true ite_false if_true if_false
end
section
open Go Go.RowKit
set_option linter.unusedVariables false
def rT (w:World):RD:=fun b o=>w.cell? (cI b o)
abbrev uV:b9:=fun _ _ _=>none
def gC (P:Program) (t:TypeId) (sz:Nat) {α:Type} (E:α→List AV) (Wf:α→Prop):Prop:=
 P.cellsOf t=sz∧(∀a,(E a).length=sz∧∀c∈E a,gE c=true)∧
  ∀(H:Type) (enc:TypeId × Value→H) (w:World) (fuel:Nat) (cs:List Value) (x:DataW H × List MemPlace),DataW.trod enc P w 0 (fun _=>true) true fuel t cs=some x→∃a,Wf a∧PW (rT w) uV (E a) cs
theorem PW.one {rd:RD}{φ:b9}{c:AV}{v:Value}(h:aL rd φ c v):PW rd φ [c] [v]:=PW.cons h PW.nil
theorem Fo {P:Program}{t:TypeId}{k:IntKind}(ht:P.underlying t=some (.int k)) (hs:P.cellsOf t=1):gC P t 1 (fun n:Int=>[.sc (.int k n)]) (fun n=>(Lit.int k n).wf=true):=
 ⟨hs,fun a=>⟨rfl,by simp[gE]⟩,fun H enc w fuel cs x h=>by
  obtain⟨n,rfl,rfl,hw⟩:=DataW.trod_int ht h;exact⟨n,hw,PW.one (.sc _ rfl)⟩⟩
theorem Fl {P:Program}{t:TypeId}(ht:P.underlying t=some .string) (hs:P.cellsOf t=1):gC P t 1 (fun b:ByteArray=>[.sc (.string b)]) (fun b=>b.size≤maxLen):=
 ⟨hs,fun a=>⟨rfl,by simp[gE]⟩,fun H enc w fuel cs x h=>by
  obtain⟨n,rfl,rfl,hw⟩:=DataW.trod_string ht h;exact⟨n,hw,PW.one (.sc _ rfl)⟩⟩
theorem RV {α:Type}{p:Nat→α→Prop}:∀(n:Nat),(∀i,i<n→∃a,p i a)→∃l:List α,l.length=n∧∀i a,l[i]?=some a→p i a
 | 0,_=>⟨[],rfl,fun i a h=>by simp at h⟩
 | n+1,h=>by
  obtain⟨l,hl,hp⟩:=RV n (fun i hi=>h i (Nat.lt_succ_of_lt hi));obtain⟨a,ha⟩:=h n (Nat.lt_succ_self n);refine⟨l++[a],by simp[hl],fun i b hb=>?_⟩;rcases bm i n with hi|hi
  ·rw[List.getElem?_append_left (by omega)]at hb;exact hp i b hb
  rw[List.getElem?_append_right (by omega)]at hb;cases hz:i - l.length with
  | zero=>
   rw[hz]at hb;cases hb;have:i=n:=by omega
   rw[this];exact ha
  | succ k=>rw[hz]at hb;simp at hb
theorem UF {w:World}{base:Nat}{a:Addr}{n:Nat}{cs:List Value}(h:w.cells? base a n=some cs):cs.length=n∧∀j,j<n→w.cell? (a.add j)=cs[j]?:=by
 unfold World.cells? at h;split at h
 ·refine⟨by simpa using mapM_some_length h,fun j hj=>?_⟩;have:=mapM_some_get h j j (by simp[hj]);exact this
 cases h
theorem Fm {P:Program}{t e:TypeId}{sz:Nat}{α:Type}{E:α→List AV}{Wf:α→Prop}(ht:P.underlying t=some (.slice e)) (hs:P.cellsOf t=1) (he:gC P e sz E Wf) (gZ:0<sz):
  gC P t 1 (fun l:List α=>[.ro sz (l.map E)]) (fun l=>(∀a∈l,Wf a)∧l.length≤maxLen):=by
 obtain⟨Ls,GH,he3⟩:=he;refine⟨hs,fun a=>⟨rfl,by simp[gE]⟩,fun H enc w fuel cs x h=>?_⟩;rcases DataW.trod_slice ht h with ⟨rfl,rfl⟩|⟨a,len,cap,elems,rest,n,rfl,rfl,rfl,hb,hl,hc,hlen,sD,-,-⟩
 ·exact⟨[],⟨by simp,by simp⟩,PW.one (.ir _ _ _)⟩
 obtain⟨l,dW,hp⟩:=RV (p:=fun i a'=>Wf a'∧∃cs,w.cells? 0 (a.add (i * P.cellsOf e)) (P.cellsOf e)=some cs∧PW (rT w) uV (E a') cs) len (fun i hi=>by
  have hx:=sD i hi;rw[bz (by omega)]at hx;obtain⟨cs,h1,h2⟩:=cw hx;obtain⟨a',h3,h4⟩:=he3 _ _ _ _ _ _ h2;exact⟨a',h3,cs,h1,h4⟩)
 refine⟨l,⟨fun a' ha=>by obtain⟨i,hi⟩:=List.getElem?_of_mem ha;exact(hp i a' hi).1,by omega⟩,PW.one ?_⟩;by_cases hz:len=0
 ·subst hz;have:l=[]:=List.eq_nil_of_length_eq_zero dW;subst this;exact .ir _ _ _
 obtain⟨b,q,spot⟩:=a;have acD:spot=none:=by
  obtain⟨a0,ha0⟩:∃a0,l[0]?=some a0:=⟨l[0],by rw[List.getElem?_eq_getElem]⟩;obtain⟨-,cs,h1,h2⟩:=hp 0 a0 ha0;obtain⟨h3,h4⟩:=UF h1;have h5:=h4 0 (by rw[Ls];exact gZ);rw[bz (by rw[h3,Ls];exact gZ)]at h5;cases hsp:spot with
  | none=>rfl
  | some s=>
   subst hsp;exfalso;simp only[World.cell?,Addr.add]at h5;split at h5<;>simp_all
 subst acD;have iR:∀(i j:Nat) (c:AV),((l.map E)[i]?).bind (·[j]?)=some c→gE c=true∧∃v,w.cell? (cI b (q+i * sz+j))=some v∧aL (rT w) uV c v:=by
  intro i j c hc;rw[List.getElem?_map]at hc;cases hi:l[i]? with
  | none=>rw[hi]at hc;cases hc
  | some a'=>
   rw[hi]at hc;simp only[Option.map_some,Option.bind_some]at hc;obtain⟨-,cs,h1,h2⟩:=hp i a' hi;obtain⟨h3,h4⟩:=UF h1;obtain⟨v,hv,hr⟩:=h2.2 j c hc;refine⟨(GH a').2 c (dh hc),v,?_,hr⟩;have hj:j<P.cellsOf e:=by
    rw[←h3];rcases bm j cs.length with hx|hx
    ·exact hx
    rw[List.getElem?_eq_none hx]at hv;cases hv
   have:=h4 j hj;rw[hv,Ls]at this;rw[←this];show w.cell? _=w.cell? (((cI b q).add (i * sz)).add j)
   rw[p7,p7]
 have:=aL.ro (rd:=rT w) (φ:=uV) sz (l.map E) b q cap (fun i j=>(w.cell? (cI b (q+i * sz+j))).getD undef) (by simp;omega)
  (fun i j c hc=>(iR i j c hc).1)
  (fun i j c hc=>by obtain⟨-,v,hv,-⟩:=iR i j c hc;simp only[rT];rw[hv];rfl)
  (fun i j c hc=>by obtain⟨-,v,hv,hr⟩:=iR i j c hc;rw[hv];exact hr)
 rw[List.length_map,dW]at this;exact this
def Ih (P:Program) (fl:List (Nat × Nat)) (o sz:Nat) {α:Type} (E:α→List AV) (Wf:α→Prop):Prop:=
 (∀a,(E a).length=sz∧∀c∈E a,gE c=true)∧
  ∀(H:Type) (enc:TypeId × Value→H) (w:World) (n:Nat) (cs:List Value) (xs:List (DataW H × List MemPlace)),
   (∀(i:Nat) (f:Nat × Nat),fl[i]?=some f→DataW.trod enc P w 0 (fun _=>true) true n f.1 ((cs.drop f.2).take (P.cellsOf f.1))=xs[i]?)→xs.length=fl.length→cs.length=o+sz→∃a,Wf a∧PW (rT w) uV (E a) (cs.drop o)
theorem uT {P:Program}{o:Nat}:Ih P [] o 0 (fun _:Unit=>[]) (fun _=>True):=
 ⟨fun a=>⟨rfl,by simp⟩,fun H enc w n cs xs _ _ hl=>⟨(),trivial,by rw[List.drop_eq_nil_of_le (by omega)];exact PW.nil⟩⟩
theorem fE {P:Program}{t:TypeId}{fl:List (Nat × Nat)}{o s1 s2:Nat}{α β:Type}{E1:α→List AV}{W1:α→Prop}{E2:β→List AV}{W2:β→Prop}(h1:gC P t s1 E1 W1) (h2:Ih P fl (o+s1) s2 E2 W2):
  Ih P ((t,o)::fl) o (s1+s2) (fun x:α × β=>E1 x.1++E2 x.2) (fun x=>W1 x.1∧W2 x.2):=by
 obtain⟨a1,a2,a3⟩:=h1;obtain⟨b1,b2⟩:=h2;refine⟨fun x=>⟨by rw[List.length_append,(a2 x.1).1,(b1 x.2).1],fun c hc=>?_⟩,fun H enc w n cs xs hx hl hQ=>?_⟩
 ·rcases List.mem_append.1 hc with hc|hc
  ·exact(a2 _).2 c hc
  exact(b1 _).2 c hc
 cases xs with
 | nil=>simp at hl
 | cons x xs=>
  obtain⟨a,ha,hpa⟩:=a3 H enc w n _ _ (hx 0 (t,o) rfl);obtain⟨b,hb,hpb⟩:=b2 H enc w n cs xs (fun i f hf=>by simpa using hx (i+1) f (by simpa using hf)) (by simpa using hl) (by omega);refine⟨(a,b),⟨ha,hb⟩,?_⟩;have:=hpa.append hpb;rw[a1,←List.drop_drop,List.take_append_drop]at this;exact this
theorem uS {P:Program}{t:TypeId}{fs:Array Field}{fl:List (Nat × Nat)}{sz:Nat}{α:Type}{E:α→List AV}{Wf:α→Prop}(ht:P.underlying t=some (.struct fs)) (hs:P.cellsOf t=sz)
  (hf:fs.toList.map (fun f=>(f.type,f.offset))=fl) (h:Ih P fl 0 sz E Wf):gC P t sz E Wf:=by
 obtain⟨b1,b2⟩:=h;refine⟨hs,b1,fun H enc w fuel cs x hx=>?_⟩;obtain⟨xs,n,rfl,rfl,hl,hn,hi⟩:=DataW.trod_struct ht hx;subst hf;have:=b2 H enc w n cs xs (fun i f hf=>by
  rw[List.getElem?_map]at hf;obtain⟨f',Lm,rfl⟩:=cJ hf;exact hi i f' (by simpa using Lm)) (by simp[hn]) (by omega)
 simpa using this
theorem gC.map {P:Program}{t:TypeId}{sz:Nat}{α β:Type}{E:α→List AV}{Wf:α→Prop}(h:gC P t sz E Wf) (g:α→β) (F:β→List AV) (Wg:β→Prop) (hF:∀b,(F b).length=sz∧∀c∈F b,gE c=true)
  (hE:∀a,F (g a)=E a) (hW:∀a,Wf a→Wg (g a)):gC P t sz F Wg:=
 ⟨h.1,hF,fun H enc w fuel cs x hx=>by obtain⟨a,ha,hp⟩:=h.2.2 H enc w fuel cs x hx;exact⟨g a,hW a ha,by rw[hE];exact hp⟩⟩
theorem Fq {P:Program}{t:TypeId}{sz:Nat}{α:Type}{E:α→List AV}{Wf:α→Prop}(h:gC P t sz E Wf) {H:Type}{enc:TypeId × Value→H}{W:World}{arr:Array Value}{d:DataW H}{ps:List MemPlace}
  (hd:DataW.Trod enc P W 0 (fun _=>true) true t (.agg arr) d ps):∃a,Wf a∧aL (rT W) uV (.agg (E a)) (.agg arr):=by
 obtain⟨fuel,hf⟩:=hd;obtain⟨a,ha,hp⟩:=h.2.2 _ _ _ _ _ _ hf;exact⟨a,ha,PW.agg hp⟩
theorem Fp {P:Program}{t:TypeId}{α:Type}{E:α→AV}{Wf:α→Prop}(h:gC P t 1 (fun a=>[E a]) Wf) {H:Type}{enc:TypeId × Value→H}{W:World}{v:Value}(hv:v.cells=#[v]) {d:DataW H}{ps:List MemPlace}
  (hd:DataW.Trod enc P W 0 (fun _=>true) true t v d ps):∃a,Wf a∧aL (rT W) uV (E a) v:=by
 obtain⟨fuel,hf⟩:=hd;rw[hv]at hf;obtain⟨a,ha,hp⟩:=h.2.2 _ _ _ _ _ _ hf;obtain⟨u,us,e1,e2,-⟩:=hp.kI;simp only[List.cons.injEq]at e1;exact⟨a,ha,e1.1▸e2⟩
theorem Hu {P:Program}{n:Nat}{args:List AV}{b:Bool}(h:aR P n args (.sc (.bool b)) []) {W:World}{eg:Array Value}(hp:PW (rT W) uV args eg.toList):
  Calls P n eg W fun e W'=>e=.returned (.bool b)∧Below W.heap.size W W':=by
 refine(h.2 W (rT W) eg (fun _ _ _ h=>h) hp).mono ?_;rintro e W' ⟨v,rd',ψ,rfl,_,hh,hv⟩;rw[fq hv];exact⟨rfl,hh.os,hh.tape,hh.output,hh.size,fun k hk=>hh.frame k hk (fun h=>h)⟩
theorem ahH {α:Type}(l:List α):Array.mk l=l.toArray:=rfl
theorem X2 {n:Nat}{h:n<2 ^ 8}:UInt8.ofBitVec (BitVec.ofFin ⟨n,h⟩)=UInt8.ofNat n:=by
 apply UInt8.toNat_inj.1;simp only[UInt8.toNat_ofNat'];exact(Nat.mod_eq_of_lt h).symm
attribute [go_sem] ahH X2
attribute [go_sem_proc] Nat.reduceBEq Nat.reduceAdd Nat.reduceSub Nat.reduceMul Nat.reduceMod Nat.reduceDiv Nat.reduceLT Nat.reduceLeDiff Int.reduceEq Int.reduceLT Int.reduceLE Int.reduceToNat Int.reduceBNe Int.reduceBEq Int.reduceOfNat Int.reduceNegSucc UInt8.reduceOfNat reduceCtorEq
end
section
open Go Go.RowKit
set_option linter.unusedVariables false
def JN:DT→Bool
 | .nil=>true
 | .pu _ t=>JN t
 | .ef _ _ t=>JN t
 | .or _ _=>false
def qK:SC J→Bool
 | .skip|.ret|.exit _|.nD _=>true
 | .seq a b=>qK a&&qK b
 | .sq _ a b=>qK a&&qK b
 | .ct a b=>qK a&&qK b
 | .cond _ x y=>qK x&&qK y
 | .block _ c=>qK c
 | .loop c=>qK c
 | .lp _ c=>qK c
 | .dr t _ _ _=>JN t
 | .tz ..=>false
 | .bad=>false
def At (e:Exit) (s:St):Exit→St→Prop:=fun e1 s1=>e1=e∧s1=s
section
variable {P:Program}
def PG (P:Program) (rs:List ResultVar) (nt:AV→aj→Prop):Exit→St→Prop
 | .ret,s=>∃res σout,nt res σout∧mR P rs s res σout
 | .normal,s=>∃res σout,nt res σout∧mR P rs s res σout
 | _,_=>False
end
def Ie (P:Program) (rs:List ResultVar) (nt:AV→aj→Prop) (s:St):Prop:=∃res σout,nt res σout∧mR P rs s res σout
theorem Y9 {P:Program}{rs:List ResultVar}{nt:AV→aj→Prop}{s:St}:PG P rs nt .ret s=Ie P rs nt s:=rfl
theorem Za {P:Program}{rs:List ResultVar}{nt:AV→aj→Prop}{s:St}:PG P rs nt .normal s=Ie P rs nt s:=rfl
theorem Ie.intro {P:Program}{rs:List ResultVar}{nt:AV→aj→Prop}{s:St}(res:AV) (σout:aj) (h:nt res σout) (k:mR P rs s res σout):Ie P rs nt s:=⟨res,σout,h,k⟩
attribute [go_sem] Y9 Za
def MK (ks:List Nat) (us:List (Nat × Nat)) (M:St→Prop) (s:St):Prop:=M (mJ ks (gQ us s))
theorem ah2 {ks:List Nat}{us:List (Nat × Nat)}{M:St→Prop}{n G:Nat}{tm:List (Nat × AV)}{σ:aj}:MK ks us M ⟨n,tm,σ,G⟩=M (mJ ks (gQ us ⟨n,tm,σ,G⟩)):=rfl
attribute [go_sem] ah2
theorem gj:(∀{α β:Type}{f:α→β}{l m:List α},List.map f (l++m)=List.map f l++List.map f m)∧(∀{α:Type}{l m:List α},(l++m).length=l.length+m.length)∧(∀{α β:Type}{f:α→β}{l:List α},(List.map f l).length=l.length)∧(∀{α β:Type}{f:α→β}{a:α}{l:List α},List.map f (a::l)=f a::List.map f l)∧(∀{α β:Type}{f:α→β},List.map f []=[])∧(∀{α:Type}{a:α}{l:List α},(a::l).length=l.length+1)∧(∀{α:Type},([]:List α).length=0):=⟨List.map_append,List.length_append,List.length_map _,List.map_cons,List.map_nil,List.length_cons,List.length_nil⟩
theorem nn:((∀{α β:Type}{f:α→β}{l m:List α},List.map f (l++m)=List.map f l++List.map f m)∧(∀{α:Type}{l m:List α},(l++m).length=l.length+m.length)∧(∀{α β:Type}{f:α→β}{l:List α},(List.map f l).length=l.length)∧(∀{α β:Type}{f:α→β}{a:α}{l:List α},List.map f (a::l)=f a::List.map f l)∧(∀{α β:Type}{f:α→β},List.map f []=[])∧(∀{α:Type}{a:α}{l:List α},(a::l).length=l.length+1)∧(∀{α:Type},([]:List α).length=0))∧(∀{α:Type}{l:List α},[]++l=l):=⟨gj,List.nil_append _⟩
theorem bc:(∀{P:Program}{n G:Nat}{tm:List (Nat × AV)}{σ:aj}{K:St→Prop}{t:Nat}{i:I},gL P n tm σ G t true i K (.sc (.bool false))=qW i ⟨n,tm,σ,G⟩ K)∧(∀{P:Program}{n G:Nat}{tm:List (Nat × AV)}{σ:aj}{K:St→Prop}{t:Nat}{i:I},gL P n tm σ G t false i K (.sc (.bool false))=dw P i ⟨n,tm,σ,G⟩ K)∧(∀{P:Program}{n G:Nat}{tm:List (Nat × AV)}{σ:aj}{K:St→Prop}{t:Nat}{i:I},gL P n tm σ G t false i K (.sc (.bool true))=qW i ⟨n,tm,σ,G⟩ K)∧(∀{P:Program}{n G:Nat}{tm:List (Nat × AV)}{σ:aj}{K:St→Prop}{t:Nat}{i:I},gL P n tm σ G t true i K (.sc (.bool true))=dw P i ⟨n,tm,σ,G⟩ K)∧(∀{P:Program}{a b:SC J}{s:St}{Q:Exit→St→Prop},vJ P a b s Q (.sc (.bool true))=jv P a s Q)∧(∀{P:Program}{a b:SC J}{s:St}{Q:Exit→St→Prop},vJ P a b s Q (.sc (.bool false))=jv P b s Q):=⟨rfl,rfl,rfl,rfl,rfl,rfl⟩
theorem eZ:((∀{P:Program}{n G:Nat}{tm:List (Nat × AV)}{σ:aj}{K:St→Prop}{t:Nat}{i:I},gL P n tm σ G t true i K (.sc (.bool false))=qW i ⟨n,tm,σ,G⟩ K)∧(∀{P:Program}{n G:Nat}{tm:List (Nat × AV)}{σ:aj}{K:St→Prop}{t:Nat}{i:I},gL P n tm σ G t false i K (.sc (.bool false))=dw P i ⟨n,tm,σ,G⟩ K)∧(∀{P:Program}{n G:Nat}{tm:List (Nat × AV)}{σ:aj}{K:St→Prop}{t:Nat}{i:I},gL P n tm σ G t false i K (.sc (.bool true))=qW i ⟨n,tm,σ,G⟩ K)∧(∀{P:Program}{n G:Nat}{tm:List (Nat × AV)}{σ:aj}{K:St→Prop}{t:Nat}{i:I},gL P n tm σ G t true i K (.sc (.bool true))=dw P i ⟨n,tm,σ,G⟩ K)∧(∀{P:Program}{a b:SC J}{s:St}{Q:Exit→St→Prop},vJ P a b s Q (.sc (.bool true))=jv P a s Q)∧(∀{P:Program}{a b:SC J}{s:St}{Q:Exit→St→Prop},vJ P a b s Q (.sc (.bool false))=jv P b s Q))∧((!true)=false)∧((!false)=true):=⟨bc,rfl,rfl⟩
end
theorem aw {p q:Prop}(h:q) (e:p=q:=by simp -implicitDefEqProofs only[go_sem];exact rfl):p:=Eq.mpr (e) h
theorem aC {a p q:Prop}(A:a) (h:q) (e:a→p=q:=by intro A;simp -implicitDefEqProofs only[go_sem,A];exact rfl):p:=Eq.mpr (e A) h
theorem cg {a b p q:Prop}(A:a) (B:b) (h:q) (e:a→b→p=q:=by intro A B;simp -implicitDefEqProofs only[go_sem,A,B];exact rfl):p:=Eq.mpr (e A B) h
theorem cz {P N u K r s} {q:Prop}(call:aR P N u r s) (h:q) (e:K r s=q:=by simp -implicitDefEqProofs only[go_sem];exact rfl):aq P N u K:=.intro call (Eq.mpr (e) h)
theorem dk {a b p:Prop}(A:a) (B:b) (e:a→b→p:=by intro A B;simp -implicitDefEqProofs only[go_sem,A,B]):p:=e A B
theorem dt {p:Prop}(e:p:=by simp -implicitDefEqProofs only[go_sem]):p:=e
theorem er {a p:Prop}(A:a) (e:a→p:=by intro A;simp -implicitDefEqProofs only[go_sem,A]):p:=e A
theorem ez {a b c p q:Prop}(A:a) (B:b) (C:c) (h:q) (e:a→b→c→p=q:=by intro A B C;simp -implicitDefEqProofs only[go_sem,A,B,C];exact rfl):p:=Eq.mpr (e A B C) h
theorem eI {a b c d p q:Prop}(A:a) (B:b) (C:c) (D:d) (h:q) (e:a→b→c→d→p=q:=by intro A B C D;simp -implicitDefEqProofs only[go_sem,A,B,C,D];exact rfl):p:=Eq.mpr (e A B C D) h
theorem eP {P N U u K r s} {q:Prop}(call:bb P N U u r s) (h:q) (e:K r s=q:=by simp -implicitDefEqProofs only[go_sem];exact rfl):aD P N U u K:=.intro call (Eq.mpr (e) h)
theorem ff {P N U u K r s} {a b q:Prop}(call:bb P N U u r s) (A:a) (B:b) (h:q) (e:a→b→K r s=q:=by intro A B;simp -implicitDefEqProofs only[go_sem,A,B];exact rfl):aD P N U u K:=.intro call (Eq.mpr (e A B) h)
theorem il {P N U u K r s} {a q:Prop}(call:bb P N U u r s) (A:a) (h:q) (e:a→K r s=q:=by intro A;simp -implicitDefEqProofs only[go_sem,A];exact rfl):aD P N U u K:=.intro call (Eq.mpr (e A) h)
theorem iW {a b c d f g i j l m n p q:Prop}(A:a) (B:b) (C:c) (D:d) (F:f) (G:g) (H:i) (I:j) (J:l) (L:m) (M:n) (h:q) (e:a→b→c→d→f→g→i→j→l→m→n→p=q:=by intro A B C D F G H I J L M;simp -implicitDefEqProofs only[go_sem,dq,bc,A,B,C,D,F,G,H,I,J,L,M];exact rfl):p:=Eq.mpr (e A B C D F G H I J L M) h
theorem jm {P N u K r s} {a q:Prop}(call:aR P N u r s) (A:a) (h:q) (e:a→K r s=q:=by intro A;simp -implicitDefEqProofs only[go_sem,A];exact rfl):aq P N u K:=.intro call (Eq.mpr (e A) h)
theorem mb {P N U u K r s} {a b c q:Prop}(call:bb P N U u r s) (A:a) (B:b) (C:c) (h:q) (e:a→b→c→K r s=q:=by intro A B C;simp -implicitDefEqProofs only[go_sem,A,B,C];exact rfl):aD P N U u K:=.intro call (Eq.mpr (e A B C) h)
theorem nz {a b c d f g p q:Prop}(A:a) (B:b) (C:c) (D:d) (F:f) (G:g) (h:q) (e:a→b→c→d→f→g→p=q:=by intro A B C D F G;simp -implicitDefEqProofs only[go_sem,A,B,C,D,F,G];exact rfl):p:=Eq.mpr (e A B C D F G) h
theorem oe {a b c d f p q:Prop}(A:a) (B:b) (C:c) (D:d) (F:f) (h:q) (e:a→b→c→d→f→p=q:=by intro A B C D F;simp -implicitDefEqProofs only[go_sem,A,B,C,D,F];exact rfl):p:=Eq.mpr (e A B C D F) h
theorem od {p q:Prop}(h:q) (e:p=q:=by simp -implicitDefEqProofs only[go_sem,bU,eO,eo,ek];exact rfl):p:=Eq.mpr (e) h
theorem o4 {a p q:Prop}(A:a) (h:q) (e:a→p=q:=by intro A;simp -implicitDefEqProofs only[go_sem,eZ,A];exact rfl):p:=Eq.mpr (e A) h
theorem o0 {a b p q:Prop}(A:a) (B:b) (h:q) (e:a→b→p=q:=by intro A B;simp -implicitDefEqProofs only[go_sem,eZ,A,B];exact rfl):p:=Eq.mpr (e A B) h
theorem qG {P N u K r s} {a b q:Prop}(call:aR P N u r s) (A:a) (B:b) (h:q) (e:a→b→K r s=q:=by intro A B;simp -implicitDefEqProofs only[go_sem,A,B];exact rfl):aq P N u K:=.intro call (Eq.mpr (e A B) h)
theorem rN {a b p:Prop}(A:a) (B:b) (e:a→b→p:=by intro A B;simp -implicitDefEqProofs only[go_sem,List.length_replicate,A,B]):p:=e A B
theorem rM {a b p:Prop}(A:a) (B:b) (e:a→b→p:=by intro A B;simp -implicitDefEqProofs only[go_sem,List.take_length,A,B]):p:=e A B
theorem tq {a b c d f g i j l m n o p:Prop}(A:a) (B:b) (C:c) (D:d) (F:f) (G:g) (H:i) (I:j) (J:l) (L:m) (M:n) (O:o) (e:a→b→c→d→f→g→i→j→l→m→n→o→p:=by intro A B C D F G H I J L M O;simp -implicitDefEqProofs only[go_sem,dq,bc,A,B,C,D,F,G,H,I,J,L,M,O]):p:=e A B C D F G H I J L M O
theorem tp {a b c d f g i j p q:Prop}(A:a) (B:b) (C:c) (D:d) (F:f) (G:g) (H:i) (I:j) (h:q) (e:a→b→c→d→f→g→i→j→p=q:=by intro A B C D F G H I;simp -implicitDefEqProofs only[go_sem,bc,A,B,C,D,F,G,H,I];exact rfl):p:=Eq.mpr (e A B C D F G H I) h
theorem uH {a p q:Prop}(A:a) (h:q) (e:a→p=q:=by intro A;simp -implicitDefEqProofs only[go_sem,aY,aZ,A];exact rfl):p:=Eq.mpr (e A) h
theorem uG {a p q:Prop}(A:a) (h:q) (e:a→p=q:=by intro A;simp -implicitDefEqProofs only[go_sem,aY,bU,A];exact rfl):p:=Eq.mpr (e A) h
theorem uF {a p q:Prop}(A:a) (h:q) (e:a→p=q:=by intro A;simp -implicitDefEqProofs only[go_sem,Bool.not_true,bc,A];exact rfl):p:=Eq.mpr (e A) h
theorem uE {a b c p:Prop}(A:a) (B:b) (C:c) (e:a→b→c→p:=by intro A B C;simp -implicitDefEqProofs only[go_sem,Bool.false_eq_true,eZ,A,B,C]):p:=e A B C
theorem uD {a b c d f g i j l m n p:Prop}(A:a) (B:b) (C:c) (D:d) (F:f) (G:g) (H:i) (I:j) (J:l) (L:m) (M:n) (e:a→b→c→d→f→g→i→j→l→m→n→p:=by intro A B C D F G H I J L M;simp -implicitDefEqProofs only[go_sem,dq,bc,A,B,C,D,F,G,H,I,J,L,M]):p:=e A B C D F G H I J L M
theorem uC {a b c d f g i j l m p q:Prop}(A:a) (B:b) (C:c) (D:d) (F:f) (G:g) (H:i) (I:j) (J:l) (L:m) (h:q) (e:a→b→c→d→f→g→i→j→l→m→p=q:=by intro A B C D F G H I J L;simp -implicitDefEqProofs only[go_sem,bc,A,B,C,D,F,G,H,I,J,L];exact rfl):p:=Eq.mpr (e A B C D F G H I J L) h
theorem wo {a p:Prop}(A:a) (e:a→p:=by intro A;simp -implicitDefEqProofs only[go_sem,List.take_length,A]):p:=e A
theorem wm {a p:Prop}(A:a) (e:a→p:=by intro A;simp -implicitDefEqProofs only[go_sem,Bool.false_eq_true,eZ,A]):p:=e A
theorem wj {a b c d f p q:Prop}(A:a) (B:b) (C:c) (D:d) (F:f) (h:q) (e:a→b→c→d→f→p=q:=by intro A B C D F;simp -implicitDefEqProofs only[go_sem,eZ,A,B,C,D,F];exact rfl):p:=Eq.mpr (e A B C D F) h
theorem wi {a b c d p q:Prop}(A:a) (B:b) (C:c) (D:d) (h:q) (e:a→b→c→d→p=q:=by intro A B C D;simp -implicitDefEqProofs only[go_sem,eZ,A,B,C,D];exact rfl):p:=Eq.mpr (e A B C D) h
theorem yR {a b c d f g p q:Prop}(A:a) (B:b) (C:c) (D:d) (F:f) (G:g) (h:q) (e:a→b→c→d→f→g→p=q:=by intro A B C D F G;simp -implicitDefEqProofs only[go_sem,Bool.not_false,Bool.not_true,bc,A,B,C,D,F,G];exact rfl):p:=Eq.mpr (e A B C D F G) h
theorem yQ {a b p q:Prop}(A:a) (B:b) (h:q) (e:a→b→p=q:=by intro A B;simp -implicitDefEqProofs only[go_sem,aY,aZ,A,B];exact rfl):p:=Eq.mpr (e A B) h
theorem yP {a b c d p q:Prop}(A:a) (B:b) (C:c) (D:d) (h:q) (e:a→b→c→d→p=q:=by intro A B C D;simp -implicitDefEqProofs only[go_sem,Bool.false_eq_true,eZ,A,B,C,D];exact rfl):p:=Eq.mpr (e A B C D) h
theorem yO {a b c p q:Prop}(A:a) (B:b) (C:c) (h:q) (e:a→b→c→p=q:=by intro A B C;simp -implicitDefEqProofs only[go_sem,eZ,A,B,C];exact rfl):p:=Eq.mpr (e A B C) h
theorem yN {a b p q:Prop}(A:a) (B:b) (h:q) (e:a→b→p=q:=by intro A B;simp -implicitDefEqProofs only[go_sem,List.length_set,A,B];exact rfl):p:=Eq.mpr (e A B) h
theorem A4 {a p q:Prop}(A:a) (h:q) (e:a→p=q:=by intro A;simp -implicitDefEqProofs only[go_sem,VU,A];exact rfl):p:=Eq.mpr (e A) h
theorem A3 {a b c p q:Prop}(A:a) (B:b) (C:c) (h:q) (e:a→b→c→p=q:=by intro A B C;simp -implicitDefEqProofs only[go_sem,bc,A,B,C];exact rfl):p:=Eq.mpr (e A B C) h
theorem A2 {a p:Prop}(A:a) (e:a→p:=by intro A;simp -implicitDefEqProofs only[go_sem,eZ,A]):p:=e A
theorem A1 {a b p:Prop}(A:a) (B:b) (e:a→b→p:=by intro A B;simp -implicitDefEqProofs only[go_sem,bc,A,B]):p:=e A B
theorem AZ {a p:Prop}(A:a) (e:a→p:=by intro A;simp -implicitDefEqProofs only[go_sem,List.length_set,A]):p:=e A
theorem AY {a b c d f p q:Prop}(A:a) (B:b) (C:c) (D:d) (F:f) (h:q) (e:a→b→c→d→f→p=q:=by intro A B C D F;simp -implicitDefEqProofs only[go_sem,aY,aZ,A,B,C,D,F];exact rfl):p:=Eq.mpr (e A B C D F) h
theorem AX {a b c p q:Prop}(A:a) (B:b) (C:c) (h:q) (e:a→b→c→p=q:=by intro A B C;simp -implicitDefEqProofs only[go_sem,oq,A,B,C];exact rfl):p:=Eq.mpr (e A B C) h
theorem Ew {a p q:Prop}(A:a) (h:q) (e:a→p=q:=by intro A;simp -implicitDefEqProofs only[go_sem,aZ,A];exact rfl):p:=Eq.mpr (e A) h
theorem Ev {a p q:Prop}(A:a) (h:q) (e:a→p=q:=by intro A;simp -implicitDefEqProofs only[go_sem,List.take_length,A];exact rfl):p:=Eq.mpr (e A) h
theorem Eu {a b p q:Prop}(A:a) (B:b) (h:q) (e:a→b→p=q:=by intro A B;simp -implicitDefEqProofs only[go_sem,aY,A,B];exact rfl):p:=Eq.mpr (e A B) h
theorem Et {p q:Prop}(h:q) (e:p=q:=by simp -implicitDefEqProofs only[go_sem,Bool.not_true,bc];exact rfl):p:=Eq.mpr (e) h
theorem Es {a b c p q:Prop}(A:a) (B:b) (C:c) (h:q) (e:a→b→c→p=q:=by intro A B C;simp -implicitDefEqProofs only[go_sem,Bool.not_true,bc,A,B,C];exact rfl):p:=Eq.mpr (e A B C) h
theorem Er {a p q:Prop}(A:a) (h:q) (e:a→p=q:=by intro A;simp -implicitDefEqProofs only[go_sem,Bool.not_false,bc,A];exact rfl):p:=Eq.mpr (e A) h
theorem Ep {a b c d f p q:Prop}(A:a) (B:b) (C:c) (D:d) (F:f) (h:q) (e:a→b→c→d→f→p=q:=by intro A B C D F;simp -implicitDefEqProofs only[go_sem,Bool.not_false,Bool.not_true,bc,A,B,C,D,F];exact rfl):p:=Eq.mpr (e A B C D F) h
theorem Eo {p q:Prop}(h:q) (e:p=q:=by simp -implicitDefEqProofs only[go_sem,Bool.not_true,Bool.true_and,bc];exact rfl):p:=Eq.mpr (e) h
theorem En {a b c d f p:Prop}(A:a) (B:b) (C:c) (D:d) (F:f) (e:a→b→c→d→f→p:=by intro A B C D F;simp -implicitDefEqProofs only[go_sem,Bool.false_eq_true,eZ,z0,A,B,C,D,F]):p:=e A B C D F
theorem Em {p q:Prop}(h:q) (e:p=q:=by simp -implicitDefEqProofs only[go_sem,Bool.not_true,aY,aZ];exact rfl):p:=Eq.mpr (e) h
theorem El {a b c d p:Prop}(A:a) (B:b) (C:c) (D:d) (e:a→b→c→d→p:=by intro A B C D;simp -implicitDefEqProofs only[go_sem,List.length_replicate,A,B,C,D]):p:=e A B C D
theorem Ek {a p q:Prop}(A:a) (h:q) (e:a→p=q:=by intro A;simp -implicitDefEqProofs only[go_sem,bU,eO,eo,ek,A];exact rfl):p:=Eq.mpr (e A) h
theorem Iq {a p q:Prop}(A:a) (h:q) (e:a→p=q:=by intro A;simp -implicitDefEqProofs only[go_sem,Bool.not_true,aY,aZ,A];exact rfl):p:=Eq.mpr (e A) h
theorem Ip {p q:Prop}(h:q) (e:p=q:=by simp -implicitDefEqProofs only[go_sem,Bool.and_false,Bool.false_and,Bool.false_eq_true,Bool.not_false,bc];exact rfl):p:=Eq.mpr (e) h
theorem Og {a p q:Prop}(A:a) (h:q) (e:a→p=q:=by intro A;simp -implicitDefEqProofs only[go_sem,Bool.not_false,Bool.not_true,Int.toNat_zero,List.drop_zero,Nat.sub_zero,bc,A];exact rfl):p:=Eq.mpr (e A) h
theorem Of {a p:Prop}(A:a) (e:a→p:=by intro A;simp -implicitDefEqProofs only[go_sem,Bool.not_true,aY,aZ,bU,eO,eo,ek,A]):p:=e A
end Go.Proofs.YtobpfkgabdeefaaGreat.E
