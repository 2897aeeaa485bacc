/- An evaluator of the model's code, proved sound (E3): I J U K L R -/
import Derived.Test.YtpjpkmhaffmbmaaGreatK1b
import Derived.ChangeArms
import Derived.SizedLaws
import Derived.ProofKit
import Derived.OpenShut
section
namespace Go.Proofs.YtpjpkmhaffmbmaaGreat.E
open Go Go.RowKit
set_option linter.unusedVariables false
def Norm (Q:Exit→St→Prop) (s:St):Prop:=Q .normal s
theorem zoK {Q:Exit→St→Prop} {n:Nat} {tm:List (Nat × AV)} {σ:Sig} {G:Nat}:Norm Q ⟨n,tm,σ,G⟩=Q .normal ⟨n,tm,σ,G⟩:=rfl
theorem zoA {α β:Type} {x x':Option α} {f:α→Option β} (h:x=x'):x.bind f=x'.bind f:=by rw [h]
theorem zoZ {α β:Type} {x x':Option α} {f:α→β} (h:x=x'):x.map f=x'.map f:=by rw [h]
theorem znf {len:Nat} {es:List (List AV)} (h:es.length=len):sub 0 len es=es:=by unfold sub;rw [List.drop_zero,←h,List.take_length]
theorem zgZ {α:Type} {a b:Nat} {x:Option α} (h:a≤b):zjQ a b x=x:=by unfold zjQ;rw [Nat.ble_eq_true_of_le h]
end Go.Proofs.YtpjpkmhaffmbmaaGreat.E
end
section
namespace Go.Proofs.YtpjpkmhaffmbmaaGreat.E
open Go Go.RowKit
set_option linter.unusedVariables false
structure SO where
 d:Option Nat
 o:Op
 g:Option (Nat × Bool)
inductive SC (α:Type) where
 | skip
 | ret
 | exit (id:Nat)
 | seq (a b:SC α)
 | sq (ks:List Nat) (a b:SC α)
 | ct (a b:SC α)
 | cond (c:Operand) (x y:SC α)
 | block (id:Nat) (c:SC α)
 | loop (c:SC α)
 | lp (ks:List Nat) (c:SC α)
 | reg (l:List α)
 | dr (t:DT) (anc:List (List Nat)) (l:List α) (af:List (List Nat))
 | rng (id:Nat) (l:List α) (it ty:Nat) (x:Operand) (tn tb:Nat) (b:SC α)
 | bad
def so (ops:Array Oper) (o:Oper):SO:=match o.guard with
 | none=>⟨o.dst,o.op,none⟩
 | some (j,want)=>match xn ops j with
  | some t=>⟨o.dst,o.op,some (t,want)⟩
  | none=>⟨o.dst,.panic (.const (.bool true)),none⟩
def soL (ops:Array Oper):List Oper→List SO
 | []=>[]
 | o::os=>so ops o::soL ops os
def yZ:Code→SC SO
 | .skip=>.skip
 | .ret=>.ret
 | .exit id=>.exit id
 | .seq a b=>.seq (yZ a) (yZ b)
 | .cond c x y=>.cond c (yZ x) (yZ y)
 | .block id c=>.block id (yZ c)
 | .loop c=>.loop (yZ c)
 | .region _ ops false=>.reg (soL ops ops.toList)
 | .region _ ops true=>.dr .nil [] (soL ops ops.toList) (ops.toList.map zfi)
 | _=>.bad
def zmd (P:Program) (o:SO) (s:St) (K:St→Prop):Prop:=∃v σ' b,CanO P (o.d.getD 0) o.o (ev s) s.σ s.G v σ' b∧put s o.d v σ' b K
def sG (s:St) (d:Option Nat) (t:Nat) (w:Bool) (X:Prop) (K:St→Prop):Prop:=match zw s.tm t with
 | some (.sc (.bool b))=>Br b (Br w X (put s d (.tup []) s.σ false K)) (Br w (put s d (.tup []) s.σ false K) X)
 | some (.tup [])=>put s d (.tup []) s.σ false K
 | _=>False
def qM (P:Program) (o:SO) (s:St) (K:St→Prop):Prop:=
 match o.g with
 | none=>zmd P o s K
 | some (t,w)=>sG s o.d t w (zmd P o s K) K
def zmc (P:Program):List SO→St→(St→Prop)→Prop
 | [],s,Q=>Q s
 | o::os,s,Q=>qM P o s fun s'=>zmc P os s' Q
def zpJ:Operand→Option Nat
 | .tmp t=>some t
 | _=>none
def wq (o:SO):List Nat:=(o.o.operands.toList.filterMap zpJ)++(match o.g with
 | some (t,_)=>[t]
 | none=>[])
def zbn (o:SO):Bool:=match o.o with
 | .panic _=>false
 | _=>true
def zkA (x y:SO):Bool:=zbn x&&zbn y&&
 (match x.d with
  | some d=>!(wq y).contains d&&y.d != some d
  | none=>true)&&
 (match y.d with
  | some d=>!(wq x).contains d
  | none=>true)
def sV (P:Program) (σ:Sig) (e:Operand→AV) (o:SO):Option AV:=match o.g with
 | none=>qh P σ e o.o
 | some (t,w)=>match e (.tmp t) with
  | .sc (.bool b)=>match b==w with
   | true=>qh P σ e o.o
   | false=>some (.tup [])
  | .tup []=>some (.tup [])
  | _=>none
def zfy (P:Program) (o:SO) (s:St) (K:St→Prop):Prop:=zr (sV P s.σ (ev s) o) fun v=>put s o.d v s.σ false K
def zpN (P:Program) (l:List SO) (rc:List Nat) (s:St) (σ':Sig):Prop:=∀k∈rc,∀x,l[k]?=some x→sV P σ' (ev s) x=sV P s.σ (ev s) x
def sT (P:Program) (l:List SO):DT→St→(St→Prop)→Prop
 | .nil,s,K=>K s
 | .pu i t,s,K=>match l[i]? with
  | none=>False
  | some o=>xg o.o=true∧zfy P o s fun s'=>sT P l t s' K
 | .ef i rc t,s,K=>match l[i]? with
  | none=>False
  | some o=>qM P o s fun s'=>zpN P l rc s s'.σ∧sT P l t s' K
 | .or a b,s,K=>sT P l a s K∧sT P l b s K
def puB (l:List SO) (anc:List (List Nat)) (i:Nat) (t:DT):Bool:=match l[i]? with
 | none=>false
 | some x=>zbn x&&(match x.d with
   | some d=>!(wq x).contains d
   | none=>true)&&
  (yg t).all (fun j=>match l[j]? with
   | some o=>zbn o&&(match o.d with
    | some d=>!(wq x).contains d||(yg t).all fun m=>m==j||(anc.getD j []).contains m
    | none=>true)
   | none=>false)&&
  ((yg t).all fun m=>!(anc.getD i []).contains m)&&
  (yK t).all (fun n=>(anc.getD n.1 []).contains i||(match l[n.1]? with
   | some o=>zkA x o&&(zj6 x.o||(match n.2 with
    | none=>true
    | some rc=>rc.contains i))
   | none=>false))
def zhD (l:List SO) (anc:List (List Nat)):Bool→DT→Bool
 | _,.nil=>true
 | false,.pu i t=>!(yg t).contains i&&(puB l anc i t&&zhD l anc false t)
 | true,.pu _ _=>false
 | false,.ef i rc t=>!(yg t).contains i&&((yg t).all (fun j=>(anc.getD j []).contains i)&&zhD l anc false t)
 | true,.ef i rc t=>!(yg t).contains i&&zhD l anc false t
 | f,.or a b=>zhD l anc true a&&(zhD l anc true b&&((((yg a).all fun i=>(yg b).contains i)&&((yg b).all fun i=>(yg a).contains i))&&(Nat.beq (yg a).length (yg b).length&&
   (f||(yg a).all fun j=>(yX a++yX b).any fun h=>h==j||(anc.getD j []).contains h))))
def chkT (t:DT) (anc:List (List Nat)) (l:List SO) (af:List (List Nat)):Bool:=
 (List.range af.length).all (fun i=>(af.getD i []).all fun k=>Nat.blt k i)&&
 ((List.range anc.length).all (fun i=>(anc.getD i []).all fun k=>(af.getD i []).any fun j=>j==k||(anc.getD j []).contains k)&&
 (l.all zbn&&zhD l anc false t&&((List.range l.length).all (fun i=>(yg t).contains i)&&((yg t).all (fun i=>Nat.blt i l.length)&&Nat.ble (yg t).length l.length))))
def sv (P:Program):SC SO→St→(Exit→St→Prop)→Prop
 | .skip,s,Q=>Q .normal s
 | .ret,s,Q=>Q .ret s
 | .exit id,s,Q=>Q (.exit id) s
 | .seq a b,s,Q=>sv P a s (yD Q fun s'=>∃s'',Weak s' s''∧sv P b s'' Q)∨∀c:Code,yZ c=.seq a b→GoodC P c s Q
 | .sq _ a b,s,Q=>sv P a s (yD Q fun s'=>∃s'',Weak s' s''∧sv P b s'' Q)
 | .ct a b,s,Q=>sv P a s (yD Q fun s'=>∃s'',Weak s' s''∧sv P b s'' Q)
 | .cond c x y,s,Q=>match ev s c with
  | .sc (.bool b)=>Br b (sv P x s Q) (sv P y s Q)
  | _=>False
 | .block id c,s,Q=>sv P c s (yz id Q)
 | .loop c,s,Q=>∃(I:Nat→St→Prop) (n:Nat) (s1:St),Weak s s1∧I n s1∧∀m s2,I m s2→sv P c s2 (yD Q fun s3=>∃m' s4,m'<m∧Weak s3 s4∧I m' s4)
 | .lp _ c,s,Q=>∃(I:Nat→St→Prop) (n:Nat) (s1:St),Weak s s1∧I n s1∧∀m s2,I m s2→sv P c s2 (yD Q fun s3=>∃m' s4,m'<m∧Weak s3 s4∧I m' s4)
 | .reg l,s,Q=>zmc P l s fun s'=>Q .normal s'
 | .dr _ _ l af,s,Q=>P.follows .mixedOrders=true∧∃(t:DT) (anc:List (List Nat)),chkT t anc l af=true∧sT P l t s (Q .normal)
 | .rng ..,_,_=>False
 | .bad,_,_=>False
section
variable {P:Program}
theorem GoodC.mono {c:Code} {s:St} {Q Q':Exit→St→Prop} (h:∀e s,Q e s→Q' e s) (hg:GoodC P c s Q):GoodC P c s Q':=
 fun rd O w0 a w hr=>wp_mono (hg rd O w0 a w hr) fun e a' w' ⟨s',hq,hr'⟩=>⟨s',h _ _ hq,hr'⟩
theorem put_mono {s:St} {d:Option Nat} {v:AV} {σ:Sig} {b:Bool} {K K':St→Prop} (h:∀s,K s→K' s) (hk:put s d v σ b K):put s d v σ b K':=zbo h hk
theorem zeb {o:SO} {s:St} {K K':St→Prop} (h:∀s,K s→K' s) (hk:zmd P o s K):zmd P o s K':=by
 obtain ⟨v,σ',b,h1,h2⟩:=hk
 exact ⟨v,σ',b,h1,zbo h h2⟩
theorem zng {s:St} {d:Option Nat} {t:Nat} {w:Bool} {X X':Prop} {K K':St→Prop} (hX:X→X') (h:∀s,K s→K' s) (hk:sG s d t w X K):sG s d t w X' K':=by
 unfold sG at hk ⊢
 split at hk
 ·rename_i b hb
  cases b<;>cases w<;>simp only [qL,xA] at hk ⊢<;>first | exact hX hk | exact zbo h hk
 ·exact zbo h hk
 ·cases hk
theorem ym {o:SO} {s:St} {K K':St→Prop} (h:∀s,K s→K' s) (hk:qM P o s K):qM P o s K':=by
 unfold qM at hk ⊢
 split at hk
 ·exact zeb h hk
 ·exact zng (zeb h) h hk
theorem zbl {os:List SO}:∀{s:St} {K K':St→Prop},(∀s,K s→K' s)→zmc P os s K→zmc P os s K':=by
 induction os with
 | nil=>exact fun h hk=>h _ hk
 | cons o os ih=>exact fun h hk=>ym (fun s' hs=>ih h hs) hk
theorem jk {o:SO} {s:St} {K K':St→Prop} (h:∀s,K s→K' s) (hk:zfy P o s K):zfy P o s K':=by
 obtain ⟨v,h1,h2⟩:=zo hk
 exact zz h1 (zbo h h2)
theorem jM {l:List SO}:∀{t:DT} {s:St} {K K':St→Prop},(∀s,K s→K' s)→sT P l t s K→sT P l t s K'
 | .nil,s,K,K',h,hk=>h _ hk
 | .pu i t,s,K,K',h,hk=>by
  unfold sT at hk ⊢
  split at hk
  ·cases hk
  ·exact ⟨hk.1,jk (fun s' hs=>jM h hs) hk.2⟩
 | .ef i rc t,s,K,K',h,hk=>by
  unfold sT at hk ⊢
  split at hk
  ·cases hk
  ·exact ym (fun s' hs=>⟨hs.1,jM h hs.2⟩) hk
 | .or a b,s,K,K',h,hk=>⟨jM h hk.1,jM h hk.2⟩
theorem ziG {ops:Array Oper} {o:Oper} (hg:o.guard=none):so ops o=⟨o.dst,o.op,none⟩:=by simp [so,hg]
theorem ziF {ops:Array Oper} {o:Oper} {j:Nat} {w:Bool} {t:Nat} (hg:o.guard=some (j,w)) (hs:xn ops j=some t):so ops o=⟨o.dst,o.op,some (t,w)⟩:=by simp [so,hg,hs]
theorem zmb {ops:Array Oper} {o:Oper} {j:Nat} {w:Bool} (hg:o.guard=some (j,w)) (hs:xn ops j=none):so ops o=⟨o.dst,.panic (.const (.bool true)),none⟩:=by simp [so,hg,hs]
theorem zea {ops:Array Oper} {o:Oper} {s:St} {K:St→Prop} (hk:qM P (so ops o) s K):yi P ops o s K:=by
 unfold yi
 cases hg:o.guard with
 | none=>
  rw [ziG hg] at hk
  exact hk
 | some jw=>
  obtain ⟨j,want⟩:=jw
  simp only
  cases hs:xn ops j with
  | none=>
   rw [zmb hg hs] at hk
   obtain ⟨v,σ',b,h1,h2⟩:=hk
   rcases h1 with ⟨h,_⟩ | ⟨h,_⟩ | ⟨_,c,n,h,_⟩ | ⟨h,_⟩ | ⟨_,c,n,x,h,_⟩ | ⟨_,t,h,_⟩ | ⟨_,t,x,k,ok,K,E,r,g,p,f,C,res,zv,h,_⟩ | ⟨_,t,m,k,x,K,E,r,g,p,f,C,ck,cx,h,_⟩
   all_goals cases h
  | some t=>
   rw [ziF hg hs] at hk
   exact hk
theorem zfz {ops:Array Oper}:∀{os:List Oper} {s:St} {K K':St→Prop},(∀s,K s→K' s)→zmc P (soL ops os) s K→zcC P ops os s K'
 | [],s,K,K',h,hk=>h _ hk
 | o::os,s,K,K',h,hk=>yT (fun s' hs=>zfz h hs) (zea hk)
theorem ziJ {ops:Array Oper}:∀(os:List Oper) (i:Nat),(soL ops os)[i]?=(os[i]?).map (so ops)
 | [],i=>by simp [soL]
 | o::os,0=>rfl
 | o::os,i+1=>by simpa [soL] using ziJ os i
theorem ziI {ops:Array Oper}:∀(os:List Oper),(soL ops os).length=os.length
 | []=>rfl
 | o::os=>by simp [soL,ziI os]
theorem zgU {op:Op} {t:Nat} (h:t∈op.operands.toList.filterMap fun | .tmp t=>some t | _=>none):t∈op.operands.toList.filterMap zpJ:=by
 obtain ⟨a,h1,h2⟩:=List.mem_filterMap.1 h
 refine List.mem_filterMap.2 ⟨a,h1,?_⟩
 cases a with
 | tmp u=>exact h2
 | _=>cases h2
theorem zbi {ops:Array Oper} {o:Oper} (h:zbn (so ops o)=true):(so ops o).o=o.op∧(so ops o).d=o.dst∧∀t∈o.looksAt ops,t∈wq (so ops o):=by
 unfold so at h ⊢
 cases hg:o.guard with
 | none=>exact ⟨rfl,rfl,fun t ht=>by
   rcases List.mem_append.1 ht with ht | ht
   ·exact List.mem_append_left _ (zgU ht)
   ·simp [hg] at ht⟩
 | some jw=>
  obtain ⟨j,want⟩:=jw
  rw [hg] at h
  simp only at h ⊢
  cases hs:xn ops j with
  | none=>rw [hs] at h;cases h
  | some t'=>
   refine ⟨rfl,rfl,fun t ht=>?_⟩
   have hs':(ops[j]?).bind (·.dst)=some t':=by
    unfold xn at hs
    split at hs
    ·rename_i hx;rw [hx];exact hs
    ·cases hs
   rcases List.mem_append.1 ht with ht | ht
   ·exact List.mem_append_left _ (zgU ht)
   ·simp [hg,hs'] at ht
    exact List.mem_append_right _ (by simp [ht])
theorem zk6 {ops:Array Oper} {x y:Oper} (h:zkA (so ops x) (so ops y)=true):x.apart ops y=true:=by
 unfold zkA at h
 simp only [Bool.and_eq_true] at h
 obtain ⟨⟨⟨h1,h2⟩,h3⟩,h4⟩:=h
 obtain ⟨a1,a2,a3⟩:=zbi h1
 obtain ⟨b1,b2,b3⟩:=zbi h2
 unfold Oper.apart
 rw [a2,b2] at h3
 rw [b2] at h4
 simp only [Bool.and_eq_true]
 constructor
 ·cases hd:x.dst with
  | none=>rfl
  | some d=>
   rw [hd] at h3
   simp only [Bool.and_eq_true,Bool.not_eq_true'] at h3 ⊢
   refine ⟨?_,h3.2⟩
   cases hc:(y.looksAt ops).contains d with
   | false=>rfl
   | true=>
    have:=b3 d (by simpa using hc)
    have h5:(wq (so ops y)).contains d=true:=by simpa using this
    rw [h5] at h3
    exact absurd h3.1 (by simp)
 ·cases hd:y.dst with
  | none=>rfl
  | some d=>
   rw [hd] at h4
   simp only [Bool.not_eq_true'] at h4 ⊢
   cases hc:(x.looksAt ops).contains d with
   | false=>rfl
   | true=>
    have:=a3 d (by simpa using hc)
    have h5:(wq (so ops x)).contains d=true:=by simpa using this
    rw [h5] at h4
    cases h4
theorem zi7 {o:SO} (h:xg o.o=true):zbn o=true:=by
 unfold zbn
 split
 ·rename_i he;rw [he] at h;cases h
 ·rfl
theorem zfx {ops:Array Oper} {o:Oper} {σ:Sig} {e:Operand→AV} (hr:zbn (so ops o)=true):sV P σ e (so ops o)=wR P ops σ e o:=by
 unfold wR
 cases hg:o.guard with
 | none=>rw [ziG hg];rfl
 | some jw=>
  obtain ⟨j,want⟩:=jw
  simp only
  cases hs:xn ops j with
  | none=>rw [zmb hg hs] at hr;cases hr
  | some t=>rw [ziF hg hs];rfl
theorem zd9 {ops:Array Oper} {l:List SO} (hl:∀i:Nat,l[i]?=(ops[i]?).map (so ops)) (hrr:∀(i:Nat) (x:SO),l[i]?=some x→zbn x=true):∀{t:DT} {s:St} {K:St→Prop},sT P l t s K→vcT P ops t s K
 | .nil,s,K,hk=>hk
 | .pu i t,s,K,hk=>by
  unfold sT at hk
  unfold vcT
  rw [hl] at hk
  cases ho:ops[i]? with
  | none=>rw [ho] at hk;cases hk
  | some o=>
   rw [ho] at hk
   simp only [Option.map_some] at hk ⊢
   have hr:=zi7 hk.1
   obtain ⟨e1,e2,_⟩:=zbi hr
   refine ⟨e1▸hk.1,?_⟩
   obtain ⟨v,h1,h2⟩:=zo hk.2
   rw [zfx hr] at h1
   rw [e2] at h2
   exact zz h1 (zbo (fun s' hs=>zd9 hl hrr hs) h2)
 | .ef i rc t,s,K,hk=>by
  unfold sT at hk
  unfold vcT
  rw [hl] at hk
  cases ho:ops[i]? with
  | none=>rw [ho] at hk;cases hk
  | some o=>
   rw [ho] at hk
   simp only [Option.map_some] at hk ⊢
   refine zea (ym (fun s' hs=>⟨fun k hkk x hx=>?_,zd9 hl hrr hs.2⟩) hk)
   have hlx:l[k]?=some (so ops x):=by rw [hl,hx];rfl
   have:=hs.1 k hkk _ hlx
   rwa [zfx (hrr k _ hlx),zfx (hrr k _ hlx)] at this
 | .or a b,s,K,hk=>⟨zd9 hl hrr hk.1,zd9 hl hrr hk.2⟩
theorem zlk {ops:Array Oper} {l:List SO} (hl:∀i:Nat,l[i]?=(ops[i]?).map (so ops)) {anc:List (List Nat)} {i:Nat} {t:DT} (h:puB l anc i t=true):PuOK ops (fun i=>anc.getD i []) i t:=by
 unfold puB at h
 rw [hl] at h
 cases hx:ops[i]? with
 | none=>rw [hx] at h;cases h
 | some x=>
  rw [hx] at h
  simp only [Option.map_some,Bool.and_eq_true,List.all_eq_true,Bool.or_eq_true] at h
  obtain ⟨⟨⟨⟨hr,hself⟩,hlook⟩,htopo⟩,hnodes⟩:=h
  obtain ⟨e1,e2,e3⟩:=zbi hr
  have nin:∀{d:Nat},(!(wq (so ops x)).contains d)=true→d ∉ x.looksAt ops:=by
   intro d hd hin
   have:(wq (so ops x)).contains d=true:=by simpa using e3 d hin
   rw [this] at hd;cases hd
  refine ⟨⟨x,hx⟩,fun y hy d hd=>?_,fun y hy j hj o ho d hd=>?_,fun m hm hin=>?_,fun y hy n hn o ho=>?_⟩
  ·rw [hx] at hy;cases hy
   rw [e2,hd] at hself
   exact nin hself
  ·rw [hx] at hy;cases hy
   have h1:=hlook j hj
   rw [hl,ho] at h1
   simp only [Option.map_some,Bool.and_eq_true] at h1
   obtain ⟨f1,f2,f3⟩:=zbi h1.1
   have h2:=h1.2
   rw [f2,hd] at h2
   simp only [Bool.or_eq_true,List.all_eq_true,beq_iff_eq] at h2
   rcases h2 with h2 | h2
   ·exact .inl (nin h2)
   ·exact .inr fun m hm=>(h2 m hm).imp id fun e=>by simpa using e
  ·have h1:=htopo m hm
   have:(anc.getD i []).contains m=true:=by simpa using hin
   rw [this] at h1
   cases h1
  ·rw [hx] at hy;cases hy
   rcases hnodes n hn with h1 | h1
   ·exact .inl (by simpa using h1)
   ·right
    rw [hl,ho] at h1
    simp only [Option.map_some,Bool.and_eq_true,Bool.or_eq_true] at h1
    refine ⟨zk6 h1.1,?_⟩
    rcases h1.2 with h2 | h2
    ·exact .inl (e1▸h2)
    ·cases hk:n.2 with
     | none=>exact .inr (.inl rfl)
     | some rc=>rw [hk] at h2;exact .inr (.inr ⟨rc,rfl,by simpa using h2⟩)
theorem qi {ops:Array Oper} {l:List SO} (hl:∀i:Nat,l[i]?=(ops[i]?).map (so ops)) {anc:List (List Nat)}:∀{t:DT} {f:Bool},zhD l anc f t=true→okT ops (fun i=>anc.getD i []) f t
 | .nil,_,_=>by unfold okT;trivial
 | .pu i t,false,h=>by
  simp only [zhD,Bool.and_eq_true,Bool.not_eq_true'] at h
  exact ⟨fun hin=>by have:(yg t).contains i=true:=by simpa using hin
                     rw [this] at h;exact absurd h.1 (by simp),zlk hl h.2.1,qi hl h.2.2⟩
 | .pu i t,true,h=>by cases h
 | .ef i rc t,false,h=>by
  simp only [zhD,Bool.and_eq_true,Bool.not_eq_true',List.all_eq_true] at h
  exact ⟨fun hin=>by have:(yg t).contains i=true:=by simpa using hin
                     rw [this] at h;exact absurd h.1 (by simp),fun j hj=>by simpa using h.2.1 j hj,qi hl h.2.2⟩
 | .ef i rc t,true,h=>by
  simp only [zhD,Bool.and_eq_true,Bool.not_eq_true'] at h
  exact ⟨fun hin=>by have:(yg t).contains i=true:=by simpa using hin
                     rw [this] at h;exact absurd h.1 (by simp),qi hl h.2⟩
 | .or a b,f,h=>by
  have h':zhD l anc true a=true∧zhD l anc true b=true∧(((yg a).all fun i=>(yg b).contains i)=true∧((yg b).all fun i=>(yg a).contains i)=true)∧Nat.beq (yg a).length (yg b).length=true∧
    (f=true∨((yg a).all fun j=>(yX a++yX b).any fun h=>h==j||(anc.getD j []).contains h)=true):=by
   cases f<;>simp only [zhD,Bool.and_eq_true,Bool.or_eq_true] at h<;>first | exact h | exact ⟨h.1,h.2.1,h.2.2.1,h.2.2.2.1,.inl rfl⟩
  obtain ⟨h1,h2,⟨h3,h4⟩,h5,h6⟩:=h'
  simp only [List.all_eq_true] at h3 h4
  have key:okT ops (fun i=>anc.getD i []) true a∧okT ops (fun i=>anc.getD i []) true b∧((∀i,i∈yg a↔i∈yg b)∧(yg a).length=(yg b).length)∧(f=false→∀j∈yg a,∃h,(h∈yX a∨h∈yX b)∧(h=j∨h∈anc.getD j [])):=by
   refine ⟨qi hl h1,qi hl h2,⟨fun i=>⟨fun hi=>by simpa using h3 i hi,fun hi=>by simpa using h4 i hi⟩,Nat.eq_of_beq_eq_true h5⟩,fun hf j hj=>?_⟩
   rcases h6 with h6 | h6
   ·rw [hf] at h6;cases h6
   ·simp only [List.all_eq_true,List.any_eq_true,List.mem_append,Bool.or_eq_true,beq_iff_eq] at h6
    obtain ⟨h,hh,hj'⟩:=h6 j hj
    exact ⟨h,hh,hj'.imp id fun e=>by simpa using e⟩
  cases f<;>exact key
theorem zcl:∀(c:Code) {s:St} {Q Q':Exit→St→Prop},(∀e s,Q e s→Q' e s)→sv P (yZ c) s Q→vc P c s Q'
 | .skip,s,Q,Q',h,hk=>h _ _ hk
 | .ret,s,Q,Q',h,hk=>h _ _ hk
 | .exit id,s,Q,Q',h,hk=>h _ _ hk
 | .seq a b,s,Q,Q',h,hk=>by
  rcases hk with hk | hk
  case inr=>exact .inr ((hk _ rfl).mono h)
  exact .inl (zcl a (fun e s hs=>by
   cases e with
   | normal=>
    obtain ⟨s'',hw,hs⟩:=hs
    exact ⟨s'',hw,zcl b h hs⟩
   | _=>exact h _ _ hs) hk)
 | .cond c x y,s,Q,Q',h,hk=>by
  simp only [yZ,sv] at hk
  simp only [vc]
  split at hk
  ·rename_i b hb
   rw [hb]
   cases b with
   | true=>exact zcl x h hk
   | false=>exact zcl y h hk
  ·cases hk
 | .block id c,s,Q,Q',h,hk=>zcl c (fun e s hs=>by
   cases e with
   | exit id'=>
    simp only [yz] at hs ⊢
    split at hs
    ·rename_i hh;exact h _ _ hs
    ·rename_i hh;exact h _ _ hs
   | _=>exact h _ _ hs) hk
 | .loop c,s,Q,Q',h,hk=>by
  obtain ⟨I,n,s1,h1,h2,h3⟩:=hk
  exact ⟨I,n,s1,h1,h2,fun m s2 hI=>zcl c (fun e s hs=>by
   cases e with
   | normal=>exact hs
   | _=>exact h _ _ hs) (h3 m s2 hI)⟩
 | .region _ ops draw,s,Q,Q',h,hk=>by
  cases draw with
  | false=>exact zfz (fun s hs=>h _ _ hs) hk
  | true=>
   obtain ⟨hm,t,anc,hc,h5⟩:=hk
   have hll:(soL ops ops.toList).length=ops.size:=by rw [ziI];simp
   have hl:∀i:Nat,(soL ops ops.toList)[i]?=(ops[i]?).map (so ops):=by intro i;rw [ziJ];simp
   simp only [chkT,Bool.and_eq_true,List.all_eq_true,List.mem_range,List.any_eq_true,Bool.or_eq_true,beq_iff_eq] at hc
   obtain ⟨h1,h2,⟨h0,h3⟩,h4,h6,h7⟩:=hc
   have hget:∀i:Nat,(ops.toList.map zfi).getD i []=match ops[i]? with | some o=>zfi o | none=>[]:=by
    intro i
    rw [List.getD_eq_getElem?_getD,List.getElem?_map]
    have:ops.toList[i]?=ops[i]?:=by simp
    rw [this]
    cases ops[i]?<;>rfl
   refine ⟨hm,t,fun i=>anc.getD i [],⟨fun i o k ho hw=>?_,fun i k hk=>?_⟩,qi hl h3,fun i=>⟨fun hi=>?_,fun hi=>?_⟩,by rw [←hll];exact Nat.le_of_ble_eq_true h7,xx (fun s hs=>h _ _ hs) (zd9 hl (fun i x hx=>h0 x (List.mem_of_getElem? hx)) h5)⟩
   ·have hlt:i<(ops.toList.map zfi).length:=by simpa using (Array.getElem?_eq_some_iff.1 ho).1
    have:=h1 i hlt k (by rw [hget,ho];exact waitL_iff.2 hw)
    exact Nat.le_of_ble_eq_true this
   ·have hlt:i<anc.length:=by
     rcases Nat.lt_or_ge i anc.length with hx | hx
     ·exact hx
     ·simp [List.getD_eq_getElem?_getD,List.getElem?_eq_none hx] at hk
    obtain ⟨j,hj,e⟩:=h2 i hlt k hk
    rw [hget] at hj
    cases ho:ops[i]? with
    | none=>rw [ho] at hj;simp at hj
    | some o=>rw [ho] at hj;exact ⟨o,j,rfl,waitL_iff.1 hj,e.imp id fun e=>by simpa using e⟩
   ·have:=Nat.le_of_ble_eq_true (h6 i hi)
    rw [hll] at this
    exact this
   ·have:=h4 i (by rw [hll];exact hi)
    simpa using this
 | .rangeFunc ..,s,Q,Q',h,hk=>by cases hk
 | .scope _,s,Q,Q',h,hk=>by cases hk
 | .label _,s,Q,Q',h,hk=>by cases hk
 | .goto _,s,Q,Q',h,hk=>by cases hk
 | .refuse _,s,Q,Q',h,hk=>by cases hk
end
inductive I where
 | mv (d:Nat) (x:Operand)
 | as (d:Nat) (x:Operand)
 | pk (d:Nat) (c a b:Operand)
 | al (d t:Nat)
 | bx (d t:Nat) (x:Operand)
 | ld (d t:Nat) (x:Operand)
 | st (t:Nat) (a x:Operand)
 | fa (d t:Nat) (x:Operand) (f:Nat)
 | ex (d:Nat) (x:Operand) (i:Nat)
 | nc (d:Nat) (x:Operand)
 | bn (d:Nat) (op:BinOp) (t:Nat) (x y:Operand) (u:Nat)
 | un (d:Nat) (op:UnOp) (t:Nat) (x:Operand)
 | cv (d s t:Nat) (x:Operand)
 | ln (d t:Nat) (x:Operand)
 | mn (d:Nat) (x y:Operand) (ts:List Nat)
 | mx (d:Nat) (x y:Operand) (ts:List Nat)
 | ia (d t:Nat) (x y:Operand)
 | ix (d t:Nat) (x y:Operand)
 | fd (d t:Nat) (x:Operand) (f:Nat)
 | sl (d t:Nat) (x:Operand) (lo hi mx:Option Operand)
 | bd (d t:Nat) (ps:List (Nat × Operand))
 | bo (d t n:Nat) (ps:List (Nat × Operand))
 | bs (d t n:Nat) (ps:List (Nat × Operand))
 | ms (d t:Nat) (x y:Operand)
 | ap (d:Option Nat) (t tx:Nat) (x y:Operand)
 | cp (d:Option Nat) (t tx:Nat) (x y:Operand)
 | sb (d s t:Nat) (x:Operand)
 | ca (d:Option Nat) (f:Nat) (xs:List Operand) (ts:List Nat)
 | cl (d:Option Nat) (f:Nat) (xs:List Operand) (ts:List Nat)
 | cm (d:Option Nat) (f:Nat) (ms:List Bool) (xs:List Operand) (ts:List Nat)
 | cn (d:Option Nat) (f:Nat) (ms:List Bool) (xs:List Operand) (ts:List Nat)
 | cu (d:Option Nat) (x:Operand) (xs:List Operand) (ts:List Nat)
 | lz (d t g:Nat)
 | mf (d f:Nat) (x:Operand)
 | mk (d t:Nat)
 | lu (d t:Nat) (x k:Operand) (ok:Bool)
 | mu (t:Nat) (m k x:Operand)
 | op (d:Option Nat) (o:Op)
inductive J where
 | p (i:I)
 | g (t:Nat) (w:Bool) (i:I)
def I.so:I→SO
 | .mv d x=>⟨some d,.move x,none⟩
 | .as d x=>⟨some d,.assign x,none⟩
 | .pk d c a b=>⟨some d,.pick c a b,none⟩
 | .al d t=>⟨some d,.alloc t,none⟩
 | .bx d t x=>⟨some d,.box t x,none⟩
 | .ld d t x=>⟨some d,.load t x,none⟩
 | .st t a x=>⟨none,.store t a x,none⟩
 | .fa d t x f=>⟨some d,.fieldAddr t x f,none⟩
 | .ex d x i=>⟨some d,.extract x i,none⟩
 | .nc d x=>⟨some d,.nilCheck x,none⟩
 | .bn d b t x y u=>⟨some d,.binOp b t x y u,none⟩
 | .un d b t x=>⟨some d,.unOp b t x,none⟩
 | .cv d s t x=>⟨some d,.convert s t x,none⟩
 | .ln d t x=>⟨some d,.call {callee:=.builtin .len,args:=#[x],argTypes:=#[t]},none⟩
 | .mn d x y ts=>⟨some d,.call {callee:=.builtin .min,args:=#[x,y],argTypes:=ts.toArray},none⟩
 | .mx d x y ts=>⟨some d,.call {callee:=.builtin .max,args:=#[x,y],argTypes:=ts.toArray},none⟩
 | .ia d t x y=>⟨some d,.indexAddr t x y,none⟩
 | .ix d t x y=>⟨some d,.index t x y,none⟩
 | .fd d t x f=>⟨some d,.field t x f,none⟩
 | .sl d t x lo hi m=>⟨some d,.slice t x lo hi m,none⟩
 | .bd d t ps=>⟨some d,.build t ps.toArray,none⟩
 | .bo d t n ps=>⟨some d,.buildSlice t n ps.toArray,none⟩
 | .bs d t n ps=>⟨some d,.buildSlice t n ps.toArray,none⟩
 | .ms d t x y=>⟨some d,.makeSlice t x y,none⟩
 | .ap d t tx x y=>⟨d,.call {callee:=.builtin .append,args:=#[x,y],argTypes:=#[t,tx]},none⟩
 | .cp d t tx x y=>⟨d,.call {callee:=.builtin .copy,args:=#[x,y],argTypes:=#[t,tx]},none⟩
 | .sb d s t x=>⟨some d,.convert s t x,none⟩
 | .ca d f xs ts=>⟨d,.call {callee:=.value (.func f),args:=xs.toArray,argTypes:=ts.toArray},none⟩
 | .cl d f xs ts=>⟨d,.call {callee:=.value (.func f),args:=xs.toArray,argTypes:=ts.toArray},none⟩
 | .cm d f _ xs ts=>⟨d,.call {callee:=.value (.func f),args:=xs.toArray,argTypes:=ts.toArray},none⟩
 | .cn d f _ xs ts=>⟨d,.call {callee:=.value (.func f),args:=xs.toArray,argTypes:=ts.toArray},none⟩
 | .cu d x xs ts=>⟨d,.call {callee:=.value x,args:=xs.toArray,argTypes:=ts.toArray},none⟩
 | .lz d t g=>⟨some d,.load t (.global g),none⟩
 | .mf d f x=>⟨some d,.makeFunc (.func f) #[x] #[],none⟩
 | .mk d t=>⟨some d,.makeMap t none,none⟩
 | .lu d t x k ok=>⟨some d,.lookup t x k ok,none⟩
 | .mu t m k x=>⟨none,.mapUpdate t m k x,none⟩
 | .op d o=>⟨d,o,none⟩
def soI:List J→List SO
 | []=>[]
 | .p i::l=>⟨i.so.d,i.so.o,none⟩::soI l
 | .g t w i::l=>⟨i.so.d,i.so.o,some (t,w)⟩::soI l
def exC:SC J→SC SO
 | .skip=>.skip
 | .ret=>.ret
 | .exit id=>.exit id
 | .seq a b=>.seq (exC a) (exC b)
 | .sq _ a b=>.seq (exC a) (exC b)
 | .ct a b=>.seq (exC a) (exC b)
 | .cond c x y=>.cond c (exC x) (exC y)
 | .block id c=>.block id (exC c)
 | .loop c=>.loop (exC c)
 | .lp _ c=>.loop (exC c)
 | .reg l=>.reg (soI l)
 | .dr _ _ l af=>.dr .nil [] (soI l) af
 | .rng id l it ty x tn tb b=>.seq (.reg (soI l++[⟨some it,.range ty x,none⟩])) (.block id (.loop (.seq (.reg [⟨some tn,.next (.tmp it) true,none⟩,⟨some tb,.extract (.tmp tn) 0,none⟩]) (.seq (.cond (.tmp tb) .skip (.exit id)) (exC b)))))
 | .bad=>.bad
def evT (tm:List (Nat × AV)):Operand→AV
 | .tmp t=>match zw tm t with
  | some v=>v
  | none=>.dead
 | .const v=>zmW v
 | .func f=>.sc (.func (.func f) #[] #[])
 | .global _=>.dead
def evL (tm:List (Nat × AV)):List Operand→List AV
 | []=>[]
 | x::l=>evT tm x::evL tm l
def yL:List (Nat × AV)→Nat→AV
 | [],_=>.dead
 | (k,v)::l,n=>match k==n with
  | true=>v
  | false=>yL l n
def evP (tm:List (Nat × AV)):List (Nat × Operand)→List (Nat × AV)
 | []=>[]
 | x::l=>(x.1,evT tm x.2)::evP tm l
def zlj (n d:Nat) (tm:List (Nat × AV)) (G:Nat) (K:St→Prop) (x:AV × Sig):Prop:=Br (Nat.blt d n) (K ⟨n,(d,x.1)::tm,x.2,G+1⟩) False
def zaL (n d:Nat) (tm:List (Nat × AV)) (σ:Sig) (G:Nat) (K:St→Prop) (v:AV):Prop:=Br (Nat.blt d n) (K ⟨n,(d,v)::tm,σ,G⟩) False
def putS (n:Nat) (tm:List (Nat × AV)) (G:Nat) (K:St→Prop) (σ:Sig):Prop:=K ⟨n,tm,σ,G⟩
def zgD (n:Nat) (tm:List (Nat × AV)) (G:Nat) (K:St→Prop):Option Nat→AV × Sig→Prop
 | none,x=>K ⟨n,tm,x.2,G+1⟩
 | some d,x=>Br (Nat.blt d n) (K ⟨n,(d,x.1)::tm,x.2,G+1⟩) False
def znb (P:Program) (n:Nat) (d:Option Nat) (tm:List (Nat × AV)) (σ:Sig) (G f:Nat) (K:St→Prop) (x:Sig × List AV):Prop:=Want P f x.2 (zkQ ⟨n,tm,σ,G⟩ d K x.1)
def zkM (Z:Nat→Nat→List Nat→jH→Row→Prop) (r g:Nat) (p:List Nat) (f:jH):Option Row→Prop
 | some row=>Z r g p f row
 | none=>False
def zfb (Z:Nat→Nat→List Nat→jH→Row→Prop) (r g:Nat) (p:List Nat):Option (Nat × jH)→Prop
 | some (g',f)=>match Nat.beq g' g with
  | true=>zkM Z r g p f (f p)
  | false=>False
 | none=>False
def zcw (σ:Sig) (Z:Nat→Nat→List Nat→jH→Row→Prop):AV→Prop
 | .mr r g p=>zfb Z r g p (zw σ r)
 | _=>False
def LuZ (P:Program) (t:Nat) (k:AV) (ok:Bool) (K:AV→Prop) (row:Row):Prop:=∃C res K0 E zv,row=mpR C∧zds P t=some (K0,E)∧zOf P E=some zv∧zcp P K0 k=true∧wD P K0 k C=some res∧K (luV zv ok res)
def MuZ (P:Program) (t:Nat) (k x:AV) (σ:Sig) (K:Sig→Prop) (r g:Nat) (p:List Nat) (f:jH) (row:Row):Prop:=∃C K0 E ck cx,row=mpR C∧zds P t=some (K0,E)∧zcp P K0 k=true∧wD P K0 k C=some none∧zcs k=some ck∧zcs x=some cx∧K (yA σ r (g,jC f p (mpR (C++[(k,x)]))))
theorem zgS {P:Program} {t:Nat} {k:AV} {ok:Bool} {K:AV→Prop} {C:MC} {res:Option AV} {K0 E:Nat} (hT:zds P t=some (K0,E)) {zv:Value} (hE:zOf P E=some zv) (hk:zcp P K0 k=true) (hf:wD P K0 k C=some res) (h:K (luV zv ok res)):LuZ P t k ok K (mpR C):=⟨C,res,K0,E,zv,rfl,hT,hE,hk,hf,h⟩
theorem zlt {P:Program} {t:Nat} {k x:AV} {σ:Sig} {K:Sig→Prop} {r g:Nat} {p:List Nat} {f:jH} {C:MC} {K0 E:Nat} {ck cx:List Nat} (hT:zds P t=some (K0,E)) (hk:zcp P K0 k=true) (hf:wD P K0 k C=some none) (h1:zcs k=some ck) (h2:zcs x=some cx) (h:K (yA σ r (g,jC f p (mpR (C++[(k,x)]))))):MuZ P t k x σ K r g p f (mpR C):=⟨C,K0,E,ck,cx,rfl,hT,hk,hf,h1,h2,h⟩
theorem zaa {σ:Sig} {Z:Nat→Nat→List Nat→jH→Row→Prop} {v:AV} (h:zcw σ Z v):∃r g p f row,v=.mr r g p∧zw σ r=some (g,f)∧f p=some row∧Z r g p f row:=by
 cases v<;>first | exact h.elim | skip
 rename_i r g p
 have h:zfb Z r g p (zw σ r):=h
 cases hl:zw σ r with
 | none=>rw [hl] at h;exact h.elim
 | some gf=>
  obtain ⟨g',f⟩:=gf
  rw [hl] at h
  simp only [zfb] at h
  split at h
  ·rename_i hg
   have hg:=Nat.eq_of_beq_eq_true hg
   subst hg
   cases hf:f p with
   | none=>rw [hf] at h;exact h.elim
   | some row=>rw [hf] at h;exact ⟨_,_,_,f,row,rfl,hl,hf,h⟩
  ·cases h
theorem zcP {σ:Sig} {Z Z':Nat→Nat→List Nat→jH→Row→Prop} {v:AV} (hz:∀r g p f row,Z r g p f row→Z' r g p f row) (h:zcw σ Z v):zcw σ Z' v:=by
 obtain ⟨r,g,p,f,row,rfl,h1,h2,h3⟩:=zaa h
 simp only [zcw,zfb,zkM,h1,h2,Nat.beq_refl]
 exact hz _ _ _ _ _ h3
def iSt (P:Program) (i:I) (s:St) (K:St→Prop):Prop:=match i with
 | .ca d f xs _=>zr (qp s.σ (evL s.tm xs)) (znb P s.n d s.tm s.σ s.G f K)
 | .cl d f xs _=>zgt P s d f (evL s.tm xs) K
 | .cm d f ms xs _=>ziu P s d f ms (evL s.tm xs) K
 | .bs d t n ps=>zr (yS P d s.G s.σ t n (evP s.tm ps)) (zgD s.n s.tm s.G K (some d))
 | .ap d t tx x y=>zr (qs P (d.getD 0) s.G s.σ t tx (evT s.tm x) (evT s.tm y)) (zgD s.n s.tm s.G K d)
 | .cp d t tx x y=>zr (zaq P s.σ t tx (evT s.tm x) (evT s.tm y)) (zgD s.n s.tm s.G K d)
 | .sb d r t x=>match tk P r with
  | some .string=>zr (zoN P d s.G s.σ t (evT s.tm x)) (zgD s.n s.tm s.G K (some d))
  | _=>False
 | .cn d f ms xs _=>zfo P s d f ms (evL s.tm xs) K
 | .cu d x xs _=>zr (fnV (evT s.tm x)) fun f=>zgt P s d f (.agg []::evL s.tm xs) K
 | .lz d t _=>zr (zcb P t) fun v=>put s (some d) v s.σ false K
 | .mf d f x=>zr (zh7 f (evT s.tm x)) fun v=>put s (some d) v s.σ false K
 | .mk d t=>put s (some d) (.mr d s.G []) (yA s.σ d (s.G,one (mpR []))) true K
 | .lu d t x k ok=>zcw s.σ (fun r g p f row=>LuZ P t (evT s.tm k) ok (fun v=>put s (some d) v s.σ false K) row) (evT s.tm x)
 | .mu t m k x=>zcw s.σ (MuZ P t (evT s.tm k) (evT s.tm x) s.σ fun σ'=>put s none .dead σ' false K) (evT s.tm m)
 | i=>zr (xI P (i.so.d.getD 0) s.G (evT s.tm) s.σ i.so.o) (zh8 s i.so.d (zdO i.so.o) K)
def zfV (i:I) (s:St) (K:St→Prop):Prop:=put s i.so.d (.tup []) s.σ false K
section
variable {P:Program} {n G:Nat} {tm:List (Nat × AV)} {σ:Sig} {Q:Exit→St→Prop} {K:St→Prop} {d t f i s u:Nat} {x y z:Operand} {l:List J} {w:Bool}
theorem zf6:∀{tm:List (Nat × AV)} {t:Nat},evT tm (.tmp t)=yL tm t:=by
 intro tm t
 induction tm with
 | nil=>rfl
 | cons x l ih=>
  obtain ⟨k,v⟩:=x
  simp only [evT,zw,yL] at ih ⊢
  cases hk:k==t with
  | true=>rfl
  | false=>exact ih
theorem zeP:ev ⟨n,tm,σ,G⟩ x=evT tm x:=by cases x<;>rfl
theorem evf:(ev ⟨n,tm,σ,G⟩)=evT tm:=funext fun _=>zeP
theorem zdV (s:St):ev s=evT s.tm:=by obtain ⟨n,tm,σ,G⟩:=s;exact evf
theorem zjr:∀(xs:List Operand),xs.map (evT tm)=evL tm xs
 | []=>rfl
 | x::xs=>by rw [List.map_cons,zjr xs];rfl
theorem zdq:∀(xs:List (Nat × Operand)),xs.map (fun x=>(x.1,evT tm x.2))=evP tm xs
 | []=>rfl
 | x::xs=>by rw [List.map_cons,zdq xs];rfl
theorem zaU {s:St} {d:Option Nat} {x:AV × Sig} (h:zgD s.n s.tm s.G K d x):put s d x.1 x.2 true K:=by
 unfold put
 cases d with
 | none=>exact h
 | some d=>
  simp only [zgD] at h ⊢
  cases hb:Nat.blt d s.n with
  | true=>rw [hb] at h;exact h
  | false=>rw [hb] at h;exact h.elim
theorem zdB {i:I} {s:St} (h:iSt P i s K):zmd P ⟨i.so.d,i.so.o,none⟩ s K:=by
 have plain:zr (xI P (i.so.d.getD 0) s.G (evT s.tm) s.σ i.so.o) (zh8 s i.so.d (zdO i.so.o) K)→zmd P ⟨i.so.d,i.so.o,none⟩ s K:=by
  intro h
  obtain ⟨x,h1,h2⟩:=zo h
  exact ⟨x.1,x.2,_,.inl ⟨by rw [zdV];exact h1,rfl⟩,h2⟩
 have args:∀(xs:List Operand) (c:Call),c.args=xs.toArray→c.args.toList.map (ev s)=evL s.tm xs:=by
  intro xs c hc
  rw [hc,List.toList_toArray,zdV,zjr]
 cases i with
 | ca d f xs ts=>
  obtain ⟨⟨σ1,as⟩,h1,res,rf,h2,h3,h4⟩:=zo h
  exact ⟨nm (d.getD 0) s.G res,zfd σ1 (d.getD 0) s.G rf,true,.inr (.inr (.inl ⟨rfl,{callee:=.value (.func f),args:=xs.toArray,argTypes:=ts.toArray},f,rfl,rfl,.inl ⟨σ1,as,res,rf,by rw [args xs _ rfl];exact h1,h2,h3,rfl,rfl⟩⟩)),h4⟩
 | cl d f xs ts=>
  obtain ⟨⟨σ1,as⟩,h1,res,rf,h2,h3,h4⟩:=zo h
  exact ⟨nm (d.getD 0) s.G res,zfd s.σ (d.getD 0) s.G rf,true,.inr (.inr (.inl ⟨rfl,{callee:=.value (.func f),args:=xs.toArray,argTypes:=ts.toArray},f,rfl,rfl,.inr (.inl ⟨σ1,as,res,rf,by rw [args xs _ rfl];exact h1,h2,h3,rfl,rfl⟩)⟩)),h4⟩
 | cm d f ms xs ts=>
  obtain ⟨h0,h⟩:=h
  obtain ⟨⟨σ1,as⟩,h1,h⟩:=zo h
  obtain ⟨σin,h2,res,σout,h3,h4,h⟩:=zo h
  obtain ⟨σ2,h5,h6⟩:=zo h
  exact ⟨_,σ2,true,.inr (.inr (.inl ⟨rfl,{callee:=.value (.func f),args:=xs.toArray,argTypes:=ts.toArray},f,rfl,rfl,.inr (.inr (.inl ⟨ms,_,σ1,as,σin,res,σout,by rw [args xs _ rfl],h0,by rw [args xs _ rfl];exact h1,h2,h3,h4,h5,rfl⟩))⟩)),h6⟩
 | cn d f ms xs ts=>
  obtain ⟨h0,h⟩:=h
  obtain ⟨⟨σ1,as⟩,h1,h⟩:=zo h
  obtain ⟨σin,h2,h2',res,σout,h3,h3',h4,h⟩:=zo h
  obtain ⟨σ2,h5,h6⟩:=zo h
  exact ⟨_,σ2,true,.inr (.inr (.inl ⟨rfl,{callee:=.value (.func f),args:=xs.toArray,argTypes:=ts.toArray},f,rfl,rfl,.inr (.inr (.inr ⟨ms,_,σ1,as,σin,res,σout,by rw [args xs _ rfl],h0,by rw [args xs _ rfl];exact h1,h2,h2',h3,h3',h4,h5,rfl⟩))⟩)),h6⟩
 | cu d x xs ts=>
  obtain ⟨f,h0,h⟩:=zo h
  obtain ⟨⟨σ1,as⟩,h1,res,rf,h2,h3,h4⟩:=zo h
  exact ⟨nm (d.getD 0) s.G res,zfd s.σ (d.getD 0) s.G rf,true,.inr (.inr (.inr (.inr (.inl ⟨rfl,{callee:=.value x,args:=xs.toArray,argTypes:=ts.toArray},f,x,rfl,rfl,by rw [zdV];exact h0,⟨σ1,as,res,rf,by rw [args xs _ rfl];exact h1,h2,h3,rfl,rfl⟩⟩)))),h4⟩
 | mk d t=>exact ⟨_,_,true,.inr (.inr (.inr (.inr (.inr (.inl ⟨rfl,t,rfl,rfl,rfl⟩))))),h⟩
 | lu d t x k ok=>
  obtain ⟨r,g,p,f,row,h1,h2,h3,C,res,K0,E,zv,rfl,h4,h5,h6,h7,h8⟩:=zaa h
  exact ⟨_,_,false,.inr (.inr (.inr (.inr (.inr (.inr (.inl ⟨rfl,t,x,k,ok,K0,E,r,g,p,f,C,res,zv,rfl,h4,h5,by rw [zdV];exact h1,h2,h3,by rw [zdV];exact h6,by rw [zdV];exact h7,rfl,rfl⟩)))))),h8⟩
 | mu t m k x=>
  obtain ⟨r,g,p,f,row,h1,h2,h3,C,K0,E,ck,cx,rfl,h4,h5,h6,h7,h8,h9⟩:=zaa h
  exact ⟨_,_,false,.inr (.inr (.inr (.inr (.inr (.inr (.inr ⟨rfl,t,m,k,x,K0,E,r,g,p,f,C,ck,cx,rfl,h4,by rw [zdV];exact h1,h2,h3,by rw [zdV];exact h5,by rw [zdV];exact h6,by rw [zdV];exact h7,by rw [zdV];exact h8,rfl,rfl⟩)))))),by rw [zdV];exact h9⟩
 | lz d t g=>
  obtain ⟨v,h1,h2⟩:=zo h
  exact ⟨v,s.σ,false,.inr (.inr (.inr (.inl ⟨h1,rfl,rfl⟩))),h2⟩
 | mf d f x=>
  obtain ⟨v,h1,h2⟩:=zo h
  exact ⟨v,s.σ,false,.inr (.inr (.inr (.inl ⟨by rw [zdV];exact h1,rfl,rfl⟩))),h2⟩
 | bs d t n ps=>
  obtain ⟨x,h1,h2⟩:=zo h
  exact ⟨x.1,x.2,true,.inr (.inl ⟨by rw [zdV];show yS P d s.G s.σ t n (ps.toArray.toList.map fun x=>(x.1,evT s.tm x.2))=_;rw [List.toList_toArray,zdq];exact h1,rfl⟩),zaU h2⟩
 | ap d t tx x y=>
  obtain ⟨z,h1,h2⟩:=zo h
  exact ⟨z.1,z.2,true,.inr (.inl ⟨by rw [zdV];exact h1,rfl⟩),zaU h2⟩
 | cp d t tx x y=>
  obtain ⟨z,h1,h2⟩:=zo h
  exact ⟨z.1,z.2,true,.inr (.inl ⟨by rw [zdV];exact h1,rfl⟩),zaU h2⟩
 | sb d r t x=>
  simp only [iSt] at h
  split at h
  ·rename_i hk
   obtain ⟨z,h1,h2⟩:=zo h
   exact ⟨z.1,z.2,true,.inr (.inl ⟨by rw [zdV];simp only [I.so,jF,hk];exact h1,rfl⟩),zaU h2⟩
  ·cases h
 | _=>exact plain h
theorem zcf {s:St} {d:Option Nat} {b:Bool} {K K':St→Prop} {x:AV × Sig} (h:∀s,K s→K' s) (hk:zh8 s d b K x):zh8 s d b K' x:=zbo h hk
theorem wc {n:Nat} {tm:List (Nat × AV)} {G:Nat} {K K':St→Prop} {d:Option Nat} {x:AV × Sig} (h:∀s,K s→K' s) (hk:zgD n tm G K d x):zgD n tm G K' d x:=by
 cases d with
 | none=>exact h _ hk
 | some d=>
  simp only [zgD] at hk ⊢
  cases hb:Nat.blt d n with
  | true=>rw [hb] at hk;exact h _ hk
  | false=>rw [hb] at hk;exact hk
theorem zD {α:Type} {x:Option α} {K K':α→Prop} (h:∀a,K a→K' a) (hk:zr x K):zr x K':=by
 obtain ⟨a,h1,h2⟩:=zo hk
 exact zz h1 (h a h2)
theorem za0 {i:I} {s:St} {K K':St→Prop} (h:∀s,K s→K' s) (hk:iSt P i s K):iSt P i s K':=by
 cases i with
 | ca d f xs ts=>exact zD (fun x ⟨res,rf,h1,h2,h3⟩=>⟨res,rf,h1,h2,zbo h h3⟩) hk
 | cl d f xs ts=>exact zD (fun x ⟨res,rf,h1,h2,h3⟩=>⟨res,rf,h1,h2,zbo h h3⟩) hk
 | cm d f ms xs ts=>exact ⟨hk.1,zD (fun x=>zD fun σin ⟨res,σout,h1,h2,h3⟩=>⟨res,σout,h1,h2,zD (fun σ2=>zbo h) h3⟩) hk.2⟩
 | cn d f ms xs ts=>exact ⟨hk.1,zD (fun x=>zD fun σin ⟨h0,res,σout,h1,h1',h2,h3⟩=>⟨h0,res,σout,h1,h1',h2,zD (fun σ2=>zbo h) h3⟩) hk.2⟩
 | cu d x xs ts=>exact zD (fun f=>zD (fun x ⟨res,rf,h1,h2,h3⟩=>⟨res,rf,h1,h2,zbo h h3⟩)) hk
 | lz d t g=>exact zD (fun v=>zbo h) hk
 | mf d f x=>exact zD (fun v=>zbo h) hk
 | mk d t=>exact zbo h (show put s (some d) (.mr d s.G []) (yA s.σ d (s.G,one (mpR []))) true K from hk)
 | lu d t x k ok=>exact zcP (fun r g p f row ⟨C,res,K0,E,zv,h1,h2,h3,h4,h5,h6⟩=>⟨C,res,K0,E,zv,h1,h2,h3,h4,h5,zbo h h6⟩) hk
 | mu t m k x=>exact zcP (fun r g p f row ⟨C,K0,E,ck,cx,h1,h2,h3,h4,h5,h6,h7⟩=>⟨C,K0,E,ck,cx,h1,h2,h3,h4,h5,h6,zbo h h7⟩) hk
 | bs d t n ps=>exact zD (fun x=>wc h) hk
 | ap d t tx x y=>exact zD (fun x=>wc h) hk
 | cp d t tx x y=>exact zD (fun x=>wc h) hk
 | sb d r t x=>
  simp only [iSt] at hk ⊢
  split at hk
  ·exact zD (fun x=>wc h) hk
  ·cases hk
 | mv d x=>exact zD (x:=xI P d s.G (evT s.tm) s.σ (.move x)) (fun x=>zcf h) hk
 | as d x=>exact zD (x:=xI P d s.G (evT s.tm) s.σ (.assign x)) (fun x=>zcf h) hk
 | _=>exact zD (fun x=>zcf h) hk
theorem zdk {v:AV} {σ':Sig}:put ⟨n,tm,σ,G⟩ (some d) v σ' true K=zlj n d tm G K (v,σ'):=by
 show (match Nat.blt d n with | true=>_ | false=>_)=Br (Nat.blt d n) _ _
 cases Nat.blt d n<;>rfl
theorem zi4 {v:AV}:put ⟨n,tm,σ,G⟩ (some d) v σ false K=zaL n d tm σ G K v:=by
 show (match Nat.blt d n with | true=>_ | false=>_)=Br (Nat.blt d n) _ _
 cases Nat.blt d n<;>rfl
theorem wY {α β:Type} {x:Option α} {g:α→β} {K:β→Prop}:zr (x.map g) K=zr x (fun a=>K (g a)):=by cases x<;>rfl
theorem yn {x:Option AV}:zr (x.map fun v=>(v,σ)) (zh8 ⟨n,tm,σ,G⟩ (some d) false K)=zr x (zaL n d tm σ G K):=by
 rw [wY]
 congr 1
theorem zja {x:Option (AV × Sig)}:zr x (zh8 ⟨n,tm,σ,G⟩ (some d) true K)=zr x (zlj n d tm G K):=by
 congr 1
theorem r_mv:iSt P (.mv d x) ⟨n,tm,σ,G⟩ K=zaL n d tm σ G K (evT tm x):=yn (x:=some (evT tm x))
theorem r_as:iSt P (.as d x) ⟨n,tm,σ,G⟩ K=zaL n d tm σ G K (evT tm x):=yn (x:=some (evT tm x))
theorem r_pk:iSt P (.pk d x y z) ⟨n,tm,σ,G⟩ K=zr (zdT (evT tm x) (evT tm y) (evT tm z)) (zaL n d tm σ G K):=yn
theorem r_al:iSt P (.al d t) ⟨n,tm,σ,G⟩ K=zr (wN P d G σ t) (zlj n d tm G K):=zja
theorem r_bx:iSt P (.bx d t x) ⟨n,tm,σ,G⟩ K=zr (ze9 P d G σ t (evT tm x)) (zlj n d tm G K):=zja
theorem r_ld:iSt P (.ld d t x) ⟨n,tm,σ,G⟩ K=zr (jY P σ t (evT tm x)) (zaL n d tm σ G K):=yn
theorem r_fa:iSt P (.fa d t x f) ⟨n,tm,σ,G⟩ K=zr (xq P t (evT tm x) f) (zaL n d tm σ G K):=yn
theorem r_ex:iSt P (.ex d x i) ⟨n,tm,σ,G⟩ K=zr (qr (evT tm x) i) (zaL n d tm σ G K):=yn
theorem r_nc:iSt P (.nc d x) ⟨n,tm,σ,G⟩ K=zr (qJ (evT tm x)) (zaL n d tm σ G K):=yn
theorem r_bn {b:BinOp}:iSt P (.bn d b t x y u) ⟨n,tm,σ,G⟩ K=zr (zfa P b t (evT tm x) (evT tm y)) (zaL n d tm σ G K):=yn
theorem r_un {b:UnOp}:iSt P (.un d b t x) ⟨n,tm,σ,G⟩ K=zr (zkF b (evT tm x)) (zaL n d tm σ G K):=yn
theorem r_cv:iSt P (.cv d s t x) ⟨n,tm,σ,G⟩ K=zr (za4 P σ s t (evT tm x)) (zaL n d tm σ G K):=yn
theorem r_st:iSt P (.st t x y) ⟨n,tm,σ,G⟩ K=zr (js P σ t (evT tm x) (evT tm y)) (putS n tm G K):=by
 show zr ((js P σ t (evT tm x) (evT tm y)).map fun σ'=>(AV.dead,σ')) (zh8 ⟨n,tm,σ,G⟩ none false K)=_
 rw [wY]
 rfl
theorem r_ia:iSt P (.ia d t x y) ⟨n,tm,σ,G⟩ K=zr (xp P σ t (evT tm x) (evT tm y)) (zaL n d tm σ G K):=yn
theorem r_ix:iSt P (.ix d t x y) ⟨n,tm,σ,G⟩ K=zr (wL P t (evT tm x) (evT tm y)) (zaL n d tm σ G K):=yn
theorem r_fd:iSt P (.fd d t x f) ⟨n,tm,σ,G⟩ K=zr (wM P t (evT tm x) f) (zaL n d tm σ G K):=yn
theorem r_ms:iSt P (.ms d t x y) ⟨n,tm,σ,G⟩ K=zr (zce P d G σ t (evT tm x) (evT tm y)) (zlj n d tm G K):=zja
theorem r_ln:iSt P (.ln d t x) ⟨n,tm,σ,G⟩ K=zr (ze7 P t (evT tm x)) (zaL n d tm σ G K):=yn
theorem r_mn {ts:List Nat}:iSt P (.mn d x y ts) ⟨n,tm,σ,G⟩ K=zr (zhc (evT tm x) (evT tm y)) (zaL n d tm σ G K):=yn
theorem r_mx {ts:List Nat}:iSt P (.mx d x y ts) ⟨n,tm,σ,G⟩ K=zr (zhd (evT tm x) (evT tm y)) (zaL n d tm σ G K):=yn
def evO (tm:List (Nat × AV)):Option Operand→Option AV
 | none=>none
 | some x=>some (evT tm x)
theorem zfO {o:Option Operand}:o.map (evT tm)=evO tm o:=by cases o<;>rfl
theorem r_sl {lo hi mx:Option Operand}:iSt P (.sl d t x lo hi mx) ⟨n,tm,σ,G⟩ K=zr (jt P t (evT tm x) (evO tm lo) (evO tm hi) (evO tm mx)) (zaL n d tm σ G K):=by
 show zr ((jt P t (evT tm x) (lo.map (evT tm)) (hi.map (evT tm)) (mx.map (evT tm))).map fun v=>(v,σ)) (zh8 ⟨n,tm,σ,G⟩ (some d) false K)=_
 rw [zfO,zfO,zfO]
 exact yn
theorem r_bd {ps:List (Nat × Operand)}:iSt P (.bd d t ps) ⟨n,tm,σ,G⟩ K=zr (ju P t (evP tm ps)) (zaL n d tm σ G K):=by
 show zr ((ju P t (ps.toArray.toList.map fun x=>(x.1,evT tm x.2))).map fun v=>(v,σ)) (zh8 ⟨n,tm,σ,G⟩ (some d) false K)=_
 rw [List.toList_toArray,zdq]
 exact yn
theorem r_bo {m:Nat} {ps:List (Nat × Operand)}:iSt P (.bo d t m ps) ⟨n,tm,σ,G⟩ K=zr (xB P t m (evP tm ps)) (zaL n d tm σ G K):=by
 show zr ((xB P t m (ps.toArray.toList.map fun x=>(x.1,evT tm x.2))).map fun v=>(v,σ)) (zh8 ⟨n,tm,σ,G⟩ (some d) false K)=_
 rw [List.toList_toArray,zdq]
 exact yn
theorem r_bs {m:Nat} {ps:List (Nat × Operand)}:iSt P (.bs d t m ps) ⟨n,tm,σ,G⟩ K=zr (yS P d G σ t m (evP tm ps)) (zgD n tm G K (some d)):=rfl
theorem r_ap {d:Option Nat} {tx:Nat}:iSt P (.ap d t tx x y) ⟨n,tm,σ,G⟩ K=zr (qs P (d.getD 0) G σ t tx (evT tm x) (evT tm y)) (zgD n tm G K d):=rfl
theorem r_cp {d:Option Nat} {tx:Nat}:iSt P (.cp d t tx x y) ⟨n,tm,σ,G⟩ K=zr (zaq P σ t tx (evT tm x) (evT tm y)) (zgD n tm G K d):=rfl
def sbK (P:Program) (n d G:Nat) (tm:List (Nat × AV)) (σ:Sig) (t:Nat) (x:AV) (K:St→Prop):Option TK→Prop
 | some .string=>zr (zoN P d G σ t x) (zgD n tm G K (some d))
 | _=>False
theorem r_sb:iSt P (.sb d s t x) ⟨n,tm,σ,G⟩ K=sbK P n d G tm σ t (evT tm x) K (tk P s):=by
 unfold sbK
 simp only [iSt]
 try (split<;>rfl)
theorem r_ca {xs:List Operand} {ts:List Nat} {d:Option Nat}:iSt P (.ca d f xs ts) ⟨n,tm,σ,G⟩ K=zr (qp σ (evL tm xs)) (znb P n d tm σ G f K):=rfl
theorem r_cl {xs:List Operand} {ts:List Nat} {d:Option Nat}:iSt P (.cl d f xs ts) ⟨n,tm,σ,G⟩ K=zr (qp σ (evL tm xs)) (zqh P ⟨n,tm,σ,G⟩ d f K):=rfl
theorem r_cm {xs:List Operand} {ts:List Nat} {ms:List Bool} {d:Option Nat}:iSt P (.cm d f ms xs ts) ⟨n,tm,σ,G⟩ K=mvA P ⟨n,tm,σ,G⟩ d f K ms (evL tm xs) (zf8 false σ 1 30 1000000 [] (zji ms (evL tm xs))):=rfl
theorem r_cn {xs:List Operand} {ts:List Nat} {ms:List Bool} {d:Option Nat}:iSt P (.cn d f ms xs ts) ⟨n,tm,σ,G⟩ K=mvAL P ⟨n,tm,σ,G⟩ d f K ms (evL tm xs) (zf8 false σ 1 30 1000000 [] (zji ms (evL tm xs))):=rfl
def cuK (P:Program) (n:Nat) (d:Option Nat) (tm:List (Nat × AV)) (σ:Sig) (G:Nat) (xs:List Operand) (K:St→Prop) (f:Nat):Prop:=zr (qp σ (.agg []::evL tm xs)) (zqh P ⟨n,tm,σ,G⟩ d f K)
theorem r_cu {xs:List Operand} {ts:List Nat} {d:Option Nat}:iSt P (.cu d x xs ts) ⟨n,tm,σ,G⟩ K=zr (fnV (evT tm x)) (cuK P n d tm σ G xs K):=rfl
theorem zq2 {xs:List Operand} {d:Option Nat}:cuK P n d tm σ G xs K f=zr (qp σ (.agg []::evL tm xs)) (zqh P ⟨n,tm,σ,G⟩ d f K):=rfl
theorem r_lz {g:Nat}:iSt P (.lz d t g) ⟨n,tm,σ,G⟩ K=zr (zcb P t) (zaL n d tm σ G K):=by
 show zr (zcb P t) (fun v=>put ⟨n,tm,σ,G⟩ (some d) v σ false K)=_
 congr 1
theorem r_mf:iSt P (.mf d f x) ⟨n,tm,σ,G⟩ K=zr (zh7 f (evT tm x)) (zaL n d tm σ G K):=by
 show zr (zh7 f (evT tm x)) (fun v=>put ⟨n,tm,σ,G⟩ (some d) v σ false K)=_
 congr 1
theorem r_mk:iSt P (.mk d t) ⟨n,tm,σ,G⟩ K=zlj n d tm G K (.mr d G [],yA σ d (G,one (mpR []))):=zdk
theorem r_lu {k:Operand} {ok:Bool}:iSt P (.lu d t x k ok) ⟨n,tm,σ,G⟩ K=zcw σ (fun _ _ _ _=>LuZ P t (evT tm k) ok (zaL n d tm σ G K)) (evT tm x):=by
 show zcw σ (fun r g p f row=>LuZ P t (evT tm k) ok (fun v=>put ⟨n,tm,σ,G⟩ (some d) v σ false K) row) (evT tm x)=_
 congr 1
theorem r_mu {m k:Operand}:iSt P (.mu t m k x) ⟨n,tm,σ,G⟩ K=zcw σ (MuZ P t (evT tm k) (evT tm x) σ (putS n tm G K)) (evT tm m):=rfl
theorem zgV:∀(tm:List (Nat × AV)) (t:Nat) (b:Bool),yL tm t=.sc (.bool b)→zw tm t=some (.sc (.bool b))
 | [],_,_,h=>by cases h
 | (k,v)::l,t,b,h=>by
  simp only [yL,zw] at h ⊢
  split at h
  ·rename_i hk;rw [hk];rw [h]
  ·rename_i hk;rw [hk];exact zgV l t b h
theorem zeD:∀(tm:List (Nat × AV)) (t:Nat),yL tm t=.tup []→zw tm t=some (.tup [])
 | [],_,h=>by cases h
 | (k,v)::l,t,h=>by
  simp only [yL,zw] at h ⊢
  split at h
  ·rename_i hk;rw [hk];rw [h]
  ·rename_i hk;rw [hk];exact zeD l t h
def yG (P:Program) (n:Nat) (tm:List (Nat × AV)) (σ:Sig) (G t:Nat) (w:Bool) (i:I) (K:St→Prop) (v:AV):Prop:=
 match v with
 | .sc (.bool b)=>Br b (Br w (iSt P i ⟨n,tm,σ,G⟩ K) (zfV i ⟨n,tm,σ,G⟩ K)) (Br w (zfV i ⟨n,tm,σ,G⟩ K) (iSt P i ⟨n,tm,σ,G⟩ K))
 | .tup []=>zfV i ⟨n,tm,σ,G⟩ K
 | _=>False
theorem zbR {i:I} (h:yG P n tm σ G t w i K (yL tm t)):qM P ⟨i.so.d,i.so.o,some (t,w)⟩ ⟨n,tm,σ,G⟩ K:=by
 cases hv:yL tm t with
 | sc v=>
  rw [hv] at h
  cases v with
  | bool b=>
   unfold qM sG
   simp only [zgV _ _ _ hv]
   cases b<;>cases w<;>simp only [yG,qL,xA] at h ⊢<;>first | exact zdB h | exact h
  | _=>cases h
 | tup vs=>
  rw [hv] at h
  cases vs with
  | nil=>
   unfold qM sG
   simp only [zeD _ _ hv]
   exact h
  | cons=>cases h
 | _=>rw [hv] at h;cases h
theorem jW {K K':St→Prop} {i:I} {v:AV} (h:∀s,K s→K' s) (hk:yG P n tm σ G t w i K v):yG P n tm σ G t w i K' v:=by
 unfold yG at hk ⊢
 split at hk
 ·rename_i b
  cases b<;>cases w<;>simp only [qL,xA] at hk ⊢<;>first | exact za0 h hk | exact zbo h hk
 ·exact zbo h hk
 ·cases hk
def zgY (P:Program):List J→St→(St→Prop)→Prop
 | [],s,Q=>Q s
 | .p i::l,s,Q=>iSt P i s fun s'=>zgY P l s' Q
 | .g t w i::l,s,Q=>yG P s.n s.tm s.σ s.G t w i (fun s'=>zgY P l s' Q) (yL s.tm t)
def zgM:List J→Nat→Option J
 | [],_=>none
 | j::l,i=>match i==0 with
  | true=>some j
  | false=>zgM l (i - 1)
theorem zbv:∀(l:List J) (i:Nat),(soI l)[i]?=(zgM l i).map fun
  | .p j=>⟨j.so.d,j.so.o,none⟩
  | .g t w j=>⟨j.so.d,j.so.o,some (t,w)⟩
 | [],i=>rfl
 | .p j::l,0=>rfl
 | .g t w j::l,0=>rfl
 | .p j::l,i+1=>by simpa [soI,zgM] using zbv l i
 | .g t w j::l,i+1=>by simpa [soI,zgM] using zbv l i
def rdW (P:Program) (σ:Sig) (tm:List (Nat × AV)) (i:I):Option AV:=qh P σ (evT tm) i.so.o
def gdW (w:Bool) (x:Option AV):AV→Option AV
 | .sc (.bool b)=>match b==w with
  | true=>x
  | false=>some (.tup [])
 | .tup []=>some (.tup [])
 | _=>none
def rdJ (P:Program) (σ:Sig) (tm:List (Nat × AV)):Option J→Option AV
 | some (.p i)=>rdW P σ tm i
 | some (.g t w i)=>gdW w (rdW P σ tm i) (yL tm t)
 | none=>none
def zfw (P:Program) (l:List J) (tm:List (Nat × AV)) (σ σ':Sig):List Nat→Prop
 | []=>True
 | k::rc=>rdJ P σ' tm (zgM l k)=rdJ P σ tm (zgM l k)∧zfw P l tm σ σ' rc
def puW (P:Program) (i:I) (s:St) (K:St→Prop):Prop:=xg i.so.o=true∧iSt P i s K
def zeH:I→Bool
 | .bs .. | .sb .. | .lz .. | .mf ..=>false
 | _=>true
def jT (P:Program) (l:List J):DT→St→(St→Prop)→Prop
 | .nil,s,K=>K s
 | .pu i t,s,K=>match zgM l i with
  | some (.p j)=>(zeH j=true∧xg j.so.o=true)∧iSt P j s fun s'=>jT P l t s' K
  | some (.g u w j)=>(zeH j=true∧xg j.so.o=true)∧yG P s.n s.tm s.σ s.G u w j (fun s'=>jT P l t s' K) (yL s.tm u)
  | none=>False
 | .ef i rc t,s,K=>match zgM l i with
  | some (.p j)=>iSt P j s fun s'=>zfw P l s.tm s.σ s'.σ rc∧jT P l t s' K
  | some (.g u w j)=>yG P s.n s.tm s.σ s.G u w j (fun s'=>zfw P l s.tm s.σ s'.σ rc∧jT P l t s' K) (yL s.tm u)
  | none=>False
 | .or a b,s,K=>jT P l a s K∧jT P l b s K
def zdz:List Nat→List (Nat × AV)→List (Nat × AV)
 | [],_=>[]
 | k::ks,tm=>(k,yL tm k)::zdz ks tm
def znK (ks:List Nat) (s:St):St:=⟨s.n,zdz ks s.tm,s.σ,s.G⟩
def zaf (ks:List Nat) (s:St):St:=canL s (zdz ks s.tm) (canN s ks)
def jv (P:Program):SC J→St→(Exit→St→Prop)→Prop
 | .skip,s,Q=>Q .normal s
 | .ret,s,Q=>Q .ret s
 | .exit id,s,Q=>Q (.exit id) s
 | .seq a b,s,Q=>jv P a s (yD Q fun s'=>jv P b s' Q)
 | .sq ks a b,s,Q=>jv P a s (yD Q fun s'=>jv P b (znK ks s') Q)
 | .ct a b,s,Q=>jv P a s (yD Q fun s'=>∃s'',Weak s' s''∧jv P b s'' Q)
 | .cond c x y,s,Q=>match evT s.tm c with
  | .sc (.bool b)=>Br b (jv P x s Q) (jv P y s Q)
  | _=>False
 | .block id c,s,Q=>jv P c s (yz id Q)
 | .loop c,s,Q=>∃(I:Nat→St→Prop) (n:Nat) (s1:St),Weak s s1∧I n s1∧∀m s2,I m s2→jv P c s2 (yD Q fun s3=>∃m' s4,m'<m∧Weak s3 s4∧I m' s4)
 | .lp _ c,s,Q=>∃(I:Nat→St→Prop) (n:Nat) (s1:St),Weak s s1∧I n s1∧∀m s2,I m s2→jv P c s2 (yD Q fun s3=>∃m' s4,m'<m∧Weak s3 s4∧I m' s4)
 | .reg l,s,Q=>zgY P l s fun s'=>Q .normal s'
 | .dr t _ l _,s,Q=>jT P l t s (Q .normal)
 | .rng id l it ty x tn tb b,s,Q=>tk P ty=some .string∧zgY P l s fun s1=>∃str,evT s1.tm x=.sc (.string str)∧it<s1.n∧∀r,∃(I:Nat→St→Prop) (s2:St),Weak ⟨s1.n,(it,.it r)::s1.tm,s1.σ,s1.G⟩ s2∧I 0 s2∧∀pos s3,I pos s3→
   (zw s3.tm it=some (.it r)∧tn<s3.n∧tb<s3.n)∧
   (pos<str.size→∃c,Utf8.decode str pos=(c,1)∧jv P b ⟨s3.n,(tb,.sc (.bool true))::(tn,.tup [.sc (.bool true),.sc (.int .i64 pos),.sc (.int .i32 c)])::s3.tm,s3.σ,s3.G⟩ (yD (yz id Q) fun s4=>∃s5,Weak s4 s5∧I (pos+1) s5))∧
   (¬pos<str.size→Q .normal ⟨s3.n,(tb,.sc (.bool false))::(tn,.tup [.sc (.bool false)])::s3.tm,s3.σ,s3.G⟩)
 | .bad,_,_=>False
theorem jc:∀(l:List J) (s:St) (Q:St→Prop),zgY P l s Q→zmc P (soI l) s Q
 | [],s,Q,h=>h
 | .p i::l,s,Q,h=>ym (o:=⟨i.so.d,i.so.o,none⟩) (fun s' hs=>jc l s' Q hs) (zdB h)
 | .g t w i::l,⟨n,tm,σ,G⟩,Q,h=>ym (fun s' hs=>jc l s' Q hs) (zbR h)
theorem zgE {j:I} {s:St} (h0:zeH j=true) (hp:xg j.so.o=true) (h:iSt P j s K):zr (qh P s.σ (ev s) j.so.o) fun v=>put s j.so.d v s.σ false K:=by
 have plain:zr (xI P (j.so.d.getD 0) s.G (evT s.tm) s.σ j.so.o) (zh8 s j.so.d (zdO j.so.o) K)→zr (qh P s.σ (ev s) j.so.o) fun v=>put s j.so.d v s.σ false K:=by
  intro h
  rw [zdd hp,wY,zbp hp] at h
  rw [zdV]
  exact h
 cases j with
 | ca d f xs ts=>simp [I.so,xg] at hp
 | cl d f xs ts=>simp [I.so,xg] at hp
 | cm d f ms xs ts=>simp [I.so,xg] at hp
 | cn d f ms xs ts=>simp [I.so,xg] at hp
 | cu d x xs ts=>simp [I.so,xg] at hp
 | lz=>cases h0
 | mf=>cases h0
 | bs=>cases h0
 | sb=>cases h0
 | ap=>simp [I.so,xg] at hp
 | cp=>simp [I.so,xg] at hp
 | mk=>simp [I.so,xg] at hp
 | lu=>simp [I.so,xg] at hp
 | mu=>simp [I.so,xg] at hp
 | _=>exact plain h
theorem zeG (l:List J):∀(t:DT) (s:St) (Q:St→Prop),jT P l t s Q→sT P (soI l) t s Q
 | .nil,s,Q,h=>h
 | .pu i t,⟨n,tm,σ,G⟩,Q,h=>by
  unfold jT at h
  unfold sT
  rw [zbv]
  split at h
  ·rename_i j hj
   rw [hj]
   exact ⟨h.1.2,jk (o:=⟨j.so.d,j.so.o,none⟩) (fun s' hs=>zeG l t s' Q hs) (zgE h.1.1 h.1.2 h.2)⟩
  ·rename_i u w j hj
   rw [hj]
   refine ⟨h.1.2,?_⟩
   obtain ⟨⟨h1,h2⟩,h3⟩:=h
   have key:zfy P ⟨j.so.d,j.so.o,some (u,w)⟩ ⟨n,tm,σ,G⟩ (fun s'=>jT P l t s' Q):=by
    unfold zfy sV
    rw [evf]
    simp only at h3
    simp only [zf6]
    cases hv:yL tm u with
    | sc v=>
     rw [hv] at h3
     cases v with
     | bool b=>
      have pl:iSt P j ⟨n,tm,σ,G⟩ (fun s'=>jT P l t s' Q)→zr (qh P σ (evT tm) j.so.o) fun v=>put ⟨n,tm,σ,G⟩ j.so.d v σ false fun s'=>jT P l t s' Q:=fun hh=>by
       have:=zgE h1 h2 hh
       rwa [evf] at this
      cases b<;>cases w<;>simp only [yG,qL,xA] at h3<;>first | exact pl h3 | exact h3
     | _=>cases h3
    | tup vs=>
     rw [hv] at h3
     cases vs with
     | nil=>exact h3
     | cons=>cases h3
    | _=>rw [hv] at h3;cases h3
   exact jk (fun s' hs=>zeG l t s' Q hs) key
  ·cases h
 | .ef i rc t,⟨n,tm,σ,G⟩,Q,h=>by
  have same:∀{s':St},zfw P l tm σ s'.σ rc→zpN P (soI l) rc ⟨n,tm,σ,G⟩ s'.σ:=by
   clear h
   intro s'
   induction rc with
   | nil=>intro _ k hk;simp at hk
   | cons k0 rc ih=>
    intro hs k hk x hx
    rcases List.mem_cons.1 hk with rfl | hk
    ·have h1:=hs.1
     rw [zbv] at hx
     rw [evf]
     cases hn:zgM l k with
     | none=>rw [hn] at hx;cases hx
     | some j=>
      rw [hn] at hx h1
      cases j with
      | p j=>
       simp only [Option.map_some,Option.some.injEq] at hx
       subst hx
       exact h1
      | g u w j=>
       simp only [Option.map_some,Option.some.injEq] at hx
       subst hx
       simp only [rdJ] at h1
       unfold sV
       simp only [zf6]
       unfold gdW at h1
       exact h1
    ·exact ih hs.2 k hk x hx
  unfold jT at h
  unfold sT
  rw [zbv]
  split at h
  ·rename_i j hj
   rw [hj]
   exact ym (o:=⟨j.so.d,j.so.o,none⟩) (fun s' hs=>⟨same hs.1,zeG l t s' Q hs.2⟩) (zdB h)
  ·rename_i u w j hj
   rw [hj]
   exact ym (fun s' hs=>⟨same hs.1,zeG l t s' Q hs.2⟩) (zbR h)
  ·cases h
 | .or a b,s,Q,h=>⟨zeG l a s Q h.1,zeG l b s Q h.2⟩
theorem jV {l:List J}:∀{t:DT} {s:St} {K K':St→Prop},(∀s,K s→K' s)→jT P l t s K→jT P l t s K'
 | .nil,s,K,K',h,hk=>h _ hk
 | .pu i t,s,K,K',h,hk=>by
  unfold jT at hk ⊢
  split at hk
  ·exact ⟨hk.1,za0 (fun s' hs=>jV h hs) hk.2⟩
  ·exact ⟨hk.1,jW (fun s' hs=>jV h hs) hk.2⟩
  ·cases hk
 | .ef i rc t,s,K,K',h,hk=>by
  unfold jT at hk ⊢
  split at hk
  ·exact za0 (fun s' hs=>⟨hs.1,jV h hs.2⟩) hk
  ·exact jW (fun s' hs=>⟨hs.1,jV h hs.2⟩) hk
  ·cases hk
 | .or a b,s,K,K',h,hk=>⟨jV h hk.1,jV h hk.2⟩
theorem zbK:∀(tm:List (Nat × AV)) (t:Nat) (v:AV),zw tm t=some v→yL tm t=v
 | [],_,_,h=>by cases h
 | (k,u)::l,t,v,h=>by
  simp only [yL,zw] at h ⊢
  split at h
  ·rename_i hk;rw [hk];exact Option.some.inj h
  ·rename_i hk;rw [hk];exact zbK l t v h
theorem zcT:∀(tm:List (Nat × AV)) (t:Nat),zw tm t=none→yL tm t=.dead
 | [],_,_=>rfl
 | (k,u)::l,t,h=>by
  simp only [yL,zw] at h ⊢
  split at h
  ·cases h
  ·rename_i hk;rw [hk];exact zcT l t h
theorem qC:∀(ks:List Nat) (tm:List (Nat × AV)) (t:Nat) (v:AV),zw (zdz ks tm) t=some v→yL tm t=v
 | [],_,_,_,h=>by cases h
 | k::ks,tm,t,v,h=>by
  simp only [zdz,zx] at h
  split at h
  ·rename_i hk;subst hk;exact Option.some.inj h
  ·exact qC ks tm t v h
theorem Rel.look {rd:RD} {φ:Phi} {O:Nat→Prop} {w0 w:World} {s:St} {a:Act} (h:Rel rd φ O w0 s a w) (t:Nat):VRel rd φ (yL s.tm t) (a.tmps.getD t undef):=by
 cases hl:zw s.tm t with
 | none=>rw [zcT _ _ hl];exact .dead _
 | some v=>rw [zbK _ _ _ hl];exact h.tm t v hl
theorem Weak.keep (ks:List Nat) (s:St):Weak s (znK ks s):=by
 intro rd O w0 a w ⟨rd',φ,hx,h⟩
 exact ⟨rd',φ,hx,h.heap,fun t v hl=>qC ks s.tm t v hl▸h.look t,h.size,h.defers,h.gen⟩
theorem Weak.head (ks:List Nat) (s:St):Weak s (zaf ks s):=
 Weak.canL (fun t v hl rd φ O w0 a w h=>qC ks s.tm t v hl▸h.look t) _
def nilP (s:St) (t:Nat) (x:AV × Sig × Nat):St:=⟨s.n,(t,x.1)::s.tm,x.2.1,x.2.2⟩
def zls (s:St) (t:Nat) (u:AV):St:=nilP s t (zmq u (yL s.tm t) s.σ s.G)
def znz (σ:Sig) (r g:Nat) (f:jH) (p:List Nat) (row:Row) (i j sz G:Nat) (e:List AV):Option AV→Option Sig
 | some .nilS=>some (yA (yA σ (800000+G) (G,one ⟨sz,[],2,false⟩)) r (g,jC f p ⟨row.sz,row.es.set i (e.set j (.blk (800000+G) G [] sz 0 0)),0,false⟩))
 | _=>none
def znA (σ:Sig) (r g:Nat) (p:List Nat) (i j sz G:Nat) (f:jH):Option Row→Option Sig
 | some row=>match row.es[i]?,row.ao with
  | some e,false=>znz σ r g f p row i j sz G e (e[j]?)
  | _,_=>none
 | none=>none
def zjl (σ:Sig) (j sz G:Nat):AV→Option Sig
 | .ptr r g p _ i _=>match Nat.beq r (800000+G),zw σ r with
  | false,some (g',f)=>match Nat.beq g' g with
   | true=>znA σ r g p i j sz G f (f p)
   | false=>none
  | _,_=>none
 | _=>none
def znB (s:St):Option Sig→St
 | some σ'=>⟨s.n,s.tm,σ',s.G+1⟩
 | none=>s
def nilCell (s:St) (t j sz:Nat):St:=znB s (zjl s.σ j sz s.G (yL s.tm t))
def nilN:List (Nat × Nat)→St→St
 | [],s=>s
 | (t,sz)::l,s=>match Nat.ble 1000 t with
  | true=>nilN l (nilCell s (t%1000) (t/1000 - 1) sz)
  | false=>nilN l (zls s t (.blk 0 0 [] sz 0 0))
theorem HRel.review {rd:RD} {φ:Phi} {O:Nat→Prop} {w0 w:World} {σ:Sig} {r g:Nat} {p:List Nat} {f:jH} {row:Row} (h:HRel rd φ O w0 σ w) (hl:zw σ r=some (g,f)) (hf:f p=some row) (hao:row.ao=false)
  {es':List (List AV)} (hlen:es'.length=row.es.length) (hwide:∀e∈es',e.length=row.sz)
  (hc:∀(i j:Nat) (c':AV),(es'[i]?).bind (·[j]?)=some c'→∃c,(row.es[i]?).bind (·[j]?)=some c∧∀v,VRel rd φ c v→VRel rd φ c' v):HRel rd φ O w0 (yA σ r (g,jC f p ⟨row.sz,es',0,false⟩)) w:=by
 have hat:zn σ r g p=some row:=by unfold zn;rw [hl];simp [hf]
 obtain ⟨pl,hφ,hok⟩:=h.rows r g p row hat
 have hcase:=fun {r2 g2 p2 row2} (hr:zn (yA σ r (g,jC f p ⟨row.sz,es',0,false⟩)) r2 g2 p2=some row2)=>jl hl hr
 have hsome:∀{r2 g2 p2 row2},zn (yA σ r (g,jC f p ⟨row.sz,es',0,false⟩)) r2 g2 p2=some row2→∃x,zn σ r2 g2 p2=some x:=by
  intro r2 g2 p2 row2 hr
  rcases hcase hr with ⟨rfl,rfl,rfl,rfl⟩ | ⟨h1,_⟩
  ·exact ⟨_,hat⟩
  ·exact ⟨_,h1⟩
 refine ⟨?_,?_,h.rdok,?_,?_,h.frame,h.size,h.os,h.tape,h.output⟩
 ·intro r2 g2 p2 row2 hr
  rcases hcase hr with ⟨rfl,rfl,rfl,rfl⟩ | ⟨hr,hne⟩
  ·refine ⟨pl,hφ,hwide,by rw [hlen];exact hok.len,fun e he=>⟨fun h=>absurd h (by simp),fun h=>absurd h (by simp)⟩,hok.nil,hok.room,fun b q had i j c' hcc=>?_,fun ha=>(by cases ha),znx (by show (0:Nat)<3;decide)⟩
   obtain ⟨c,h1,h2⟩:=hc i j c' hcc
   obtain ⟨v,h3,h4⟩:=hok.cells b q had i j c h1
   exact ⟨v,h3,h2 v h4⟩
  ·exact h.rows _ _ _ _ hr
 ·intro r1 g1 p1 row1 r2 g2 p2 row2 pl1 pl2 b q1 q2 h1 h2 h3 h4 h5 h6
  obtain ⟨x1,e1⟩:=hsome h1
  obtain ⟨x2,e2⟩:=hsome h2
  exact h.sep _ _ _ _ _ _ _ _ _ _ _ _ _ e1 e2 h3 h4 h5 h6
 ·intro r2 g2 p2 row2 pl2 b2 q2 h1 h2 h3 k hor
  rcases hcase h1 with ⟨rfl,rfl,rfl,rfl⟩ | ⟨h1,_⟩
  ·exact h.rdsep _ _ _ _ _ _ _ hat h2 h3 k (.inl hao)
  ·exact h.rdsep _ _ _ _ _ _ _ h1 h2 h3 k hor
 ·intro r1 g1 p1 row1 pl1 b q1 h1 h2 h3
  obtain ⟨x1,e1⟩:=hsome h1
  exact h.own _ _ _ _ _ _ _ e1 h2 h3
theorem Weak.nilCell (s:St) (t j sz:Nat):Weak s (nilCell s t j sz):=by
 unfold E.nilCell
 cases hx:zjl s.σ j sz s.G (yL s.tm t) with
 | none=>exact .refl s
 | some σ'=>
  intro rd O w0 a w ⟨rd',φ,hx0,h⟩
  unfold zjl at hx
  split at hx
  ·rename_i r g p sz0 i o hp
   split at hx
   ·rename_i g' f hne hl
    split at hx
    ·rename_i hg
     have hg:=Nat.eq_of_beq_eq_true hg
     subst hg
     unfold znA at hx
     split at hx
     ·rename_i row hf
      split at hx
      ·rename_i e hes hao
       unfold znz at hx
       split at hx
       ·rename_i hej
        cases hx
        have hfr:∀q,φ (800000+s.G) s.G q=none:=fun q=>by
         cases hh:φ (800000+s.G) s.G q with
         | none=>rfl
         | some x=>exact absurd (h.gen _ _ _ (by rw [hh];simp)) (Nat.lt_irrefl _)
        obtain ⟨n1,n2⟩:=h.heap.newNil hfr sz 2
        generalize hφ':(zu φ (800000+s.G) s.G fun q=>match q with | []=>some (⟨none,0⟩:Pl) | _=>none)=φ' at n1 n2
        have hne':r≠800000+s.G:=fun e=>by rw [e,Nat.beq_refl] at hne;cases hne
        have hl':zw (yA s.σ (800000+s.G) (s.G,one ⟨sz,[],2,false⟩)) r=some (g',f):=by rw [zac,if_neg hne',hl]
        have hat:zn s.σ r g' p=some row:=by unfold zn;rw [hl];simp [hf]
        obtain ⟨pl,hφr,hok⟩:=h.heap.rows _ _ _ _ hat
        have hmem:e∈row.es:=List.mem_of_getElem? hes
        refine ⟨rd',φ',hx0.step .refl n2,n1.review hl' hf hao (by simp) ?_ ?_,fun t' v hlv=>(h.tm t' v hlv).mono (fun _ _ _ h=>h) n2,h.size,h.defers,?_⟩
        ·intro x hx
         rcases List.mem_or_eq_of_mem_set hx with hx | rfl
         ·exact hok.wide x hx
         ·rw [List.length_set];exact hok.wide e hmem
        ·intro i' j' c' hcc
         by_cases hi:i=i'
         ·subst hi
          have hlt:i<row.es.length:=(List.getElem?_eq_some_iff.1 hes).1
          rw [List.getElem?_set_self hlt] at hcc
          by_cases hj:j=j'
          ·subst hj
           have hjl:j<e.length:=(List.getElem?_eq_some_iff.1 hej).1
           simp only [Option.bind_some,List.getElem?_set_self hjl,Option.some.injEq] at hcc
           subst hcc
           refine ⟨.nilS,by rw [hes];exact hej,fun v hv=>?_⟩
           cases hv
           exact .blk (800000+s.G) s.G [] sz 0 0 ⟨none,0⟩ none (by rw [←hφ'];simp [zu]) (.inl rfl) (Nat.zero_le _)
          ·simp only [Option.bind_some,List.getElem?_set_ne hj] at hcc
           exact ⟨c',by rw [hes];exact hcc,fun v hv=>hv⟩
         ·rw [List.getElem?_set_ne hi] at hcc
          exact ⟨c',hcc,fun v hv=>hv⟩
        ·intro r' g0 p' hp'
         rw [←hφ'] at hp'
         unfold zu at hp'
         split at hp'
         ·rename_i ee;rw [ee.2];exact Nat.lt_succ_self _
         ·exact Nat.lt_succ_of_lt (h.gen _ _ _ hp')
       ·cases hx
      ·cases hx
     ·cases hx
    ·cases hx
   ·cases hx
  ·cases hx
theorem Weak.nil1 (s:St) (t:Nat) (u:AV):Weak s (zls s t u):=by
 intro rd O w0 a w ⟨rd',φ,hx,h⟩
 obtain ⟨φ1,x1,h1,g1,v1⟩:=zcK (u:=u) h.heap h.gen (h.look t)
 refine ⟨rd',φ1,hx.step .refl x1,h1,fun t' v hl=>?_,h.size,h.defers,g1⟩
 show VRel rd' φ1 v _
 unfold zls nilP at hl
 simp only [zx] at hl
 split at hl
 ·rename_i e
  subst e
  cases hl
  exact v1
 ·exact (h.tm t' v hl).mono (fun _ _ _ h=>h) x1
theorem Weak.nilN:∀(l:List (Nat × Nat)) (s:St),Weak s (nilN l s)
 | [],s=>.refl s
 | (t,sz)::l,s=>by
  simp only [E.nilN]
  split
  ·exact (Weak.nilCell s _ _ _).trans (Weak.nilN l _)
  ·exact (Weak.nil1 s t _).trans (Weak.nilN l _)
end
def zdK:SC J→Bool
 | .dr t anc l af=>chkT t anc (soI l) af
 | .seq a b=>zdK a&&zdK b
 | .sq _ a b=>zdK a&&zdK b
 | .ct a b=>zdK a&&zdK b
 | .cond _ a b=>zdK a&&zdK b
 | .block _ c=>zdK c
 | .loop c=>zdK c
 | .lp _ c=>zdK c
 | .rng _ _ _ _ _ _ _ b=>zdK b
 | _=>true
end Go.Proofs.YtpjpkmhaffmbmaaGreat.E
end
section
namespace Go.Proofs.YtpjpkmhaffmbmaaGreat.E
open Go Go.RowKit
set_option linter.unusedVariables false
inductive CK where
 | cl
 | ca
 | cm (ms:List Bool)
 | cn (ms:List Bool)
structure Dec where
 mv:List (Nat × CK)
 str:List Nat
 sli:List Nat
 oc:Bool
def ckOf (f:Nat):List (Nat × CK)→CK
 | []=>.cl
 | (g,k)::r=>match Nat.beq g f with
  | true=>k
  | false=>ckOf f r
def zpm (x:Nat):List Nat→Bool
 | []=>false
 | y::l=>match Nat.beq x y with
  | true=>true
  | false=>zpm x l
def zo1 (x:Nat):List Nat→List Nat
 | []=>[x]
 | y::l=>match Nat.blt x y with
  | true=>x::y::l
  | false=>match Nat.beq x y with
   | true=>y::l
   | false=>y::zo1 x l
def unN:List Nat→List Nat→List Nat
 | [],m=>m
 | x::l,m=>unN l (zo1 x m)
def delN (x:Nat):List Nat→List Nat
 | []=>[]
 | y::l=>match Nat.beq x y with
  | true=>l
  | false=>y::delN x l
def frN {α:Type}:Nat→(Nat→α)→α
 | 0,k=>k 0
 | n+1,k=>k (n+1)
def frL {α:Type}:List Nat→(List Nat→α)→α
 | [],k=>k []
 | x::l,k=>frN x fun x=>frL l fun l=>k (x::l)
def frM {α:Type}:List (List Nat)→(List (List Nat)→α)→α
 | [],k=>k []
 | x::l,k=>frL x fun x=>frM l fun l=>k (x::l)
def zpG:Nat→List Nat→List Nat
 | 0,l=>l
 | n+1,l=>zpG n (n::l)
def zpO:List Nat→List Nat→Bool
 | [],[]=>true
 | x::l,y::m=>match Nat.beq x y with
  | true=>zpO l m
  | false=>false
 | _,_=>false
def callW (D:Dec) (d:Option Nat) (c:Call):I:=
 match c.callee,c.args.toList,c.argTypes.toList,d with
 | .value (.func f),xs,ts,d=>match ckOf f D.mv with
  | .cl=>.cl d f xs ts
  | .ca=>.ca d f xs ts
  | .cm ms=>.cm d f ms xs ts
  | .cn ms=>.cn d f ms xs ts
 | .value (.tmp t),xs,ts,d=>.cu d (.tmp t) xs ts
 | .builtin .len,[x],[t],some d=>.ln d t x
 | .builtin .min,[x,y],ts,some d=>.mn d x y ts
 | .builtin .max,[x,y],ts,some d=>.mx d x y ts
 | .builtin .append,[x,y],[t,u],d=>.ap d t u x y
 | .builtin .copy,[x,y],[t,u],d=>.cp d t u x y
 | _,_,_,_=>.op d (.call c)
def opW (D:Dec) (d:Nat) (bo:Bool):Op→I
 | .move x=>.mv d x
 | .assign x=>.as d x
 | .pick c a b=>.pk d c a b
 | .alloc t=>.al d t
 | .box t x=>.bx d t x
 | .load t (.global g)=>.lz d t g
 | .load t x=>.ld d t x
 | .fieldAddr t x f=>.fa d t x f
 | .extract x i=>.ex d x i
 | .nilCheck x=>.nc d x
 | .binOp b t x y u=>.bn d b t x y u
 | .unOp b t x=>.un d b t x
 | .convert s t x=>match zpm s D.str&&zpm t D.sli with
  | true=>.sb d s t x
  | false=>.cv d s t x
 | .indexAddr t x y=>.ia d t x y
 | .index t x y=>.ix d t x y
 | .field t x f=>.fd d t x f
 | .slice t x a b c=>.sl d t x a b c
 | .build t ps=>.bd d t ps.toList
 | .buildSlice t n ps=>match bo with
  | true=>.bo d t n ps.toList
  | false=>.bs d t n ps.toList
 | .makeSlice t x y=>.ms d t x y
 | .makeFunc (.func f) a b=>match a.toList,b.toList with
  | [x],[]=>.mf d f x
  | _,_=>.op (some d) (.makeFunc (.func f) a b)
 | .makeMap t none=>.mk d t
 | .lookup t x k ok=>.lu d t x k ok
 | o=>.op (some d) o
def word (D:Dec) (bo:Bool) (d:Option Nat) (o:Op):I:=
 match o,d with
 | .store t a x,none=>.st t a x
 | .call c,d=>callW D d c
 | .mapUpdate t m k x,none=>.mu t m k x
 | o,some d=>opW D d bo o
 | o,none=>.op none o
def zqI (ops:List Oper) (j:Nat):Nat:=match ops[j]? with
 | some o=>o.dst.getD 0
 | none=>0
def zdX (D:Dec) (ops:List Oper) (bos:List Nat):Nat→List Oper→List J
 | _,[]=>[]
 | i,o::r=>(match o.guard with
  | none=>J.p (word D (zpm i bos) o.dst o.op)
  | some (j,w)=>J.g (zqI ops j) w (word D (zpm i bos) o.dst o.op))::zdX D ops bos (i+1) r
def zgv:List Operand→List Nat→List Nat
 | [],m=>m
 | .tmp t::l,m=>zgv l (zo1 t m)
 | _::l,m=>zgv l m
def zqg (ops:List Oper):List Oper→List Nat→List Nat
 | [],m=>m
 | o::r,m=>frL (zqg ops r m) fun m=>
  let m:=match o.dst with
   | some d=>delN d m
   | none=>m
  let m:=zgv o.op.operands.toList m
  match o.guard with
  | some (j,_)=>zo1 (zqI ops j) m
  | none=>m
def exOf (id:Nat):List (Nat × List Nat)→List Nat
 | []=>[]
 | (i,m)::r=>match Nat.beq i id with
  | true=>m
  | false=>exOf id r
def kindW:I→Nat
 | .mv .. | .as .. | .pk .. | .fa .. | .ex .. | .nc .. | .bn .. | .un .. | .ln .. | .mn .. | .mx .. | .ix .. | .fd .. | .sl .. | .bd .. | .bo ..=>1
 | .ld .. | .ia .. | .cv ..=>2
 | .bs ..=>3
 | _=>0
def iOf:J→I
 | .p i=>i
 | .g _ _ i=>i
def zpw (s i:Nat):Bool:=Nat.beq (Nat.land (Nat.shiftRight s i) 1) 1
def slN (a i:Nat):Nat:=Nat.land (Nat.shiftRight a (Nat.mul i 256)) (Nat.sub (Nat.pow 2 256) 1)
def kdN (ks i:Nat):Nat:=Nat.land (Nat.shiftRight ks (Nat.mul i 2)) 3
def znp:List J→Nat
 | []=>0
 | j::l=>Nat.add (kindW (iOf j)) (Nat.mul 4 (znp l))
def zp6:List Nat→Nat
 | []=>0
 | j::l=>Nat.lor (Nat.shiftLeft 1 j) (zp6 l)
def zpT:List (List Nat)→Nat
 | []=>0
 | a::l=>Nat.lor (zp6 a) (Nat.shiftLeft (zpT l) 256)
def orA (acc:Nat):List Nat→Nat
 | []=>0
 | j::a=>Nat.lor (Nat.lor (Nat.shiftLeft 1 j) (slN acc j)) (orA acc a)
def ancP:Nat→Nat→List (List Nat)→Nat
 | _,acc,[]=>acc
 | i,acc,a::r=>frN (Nat.lor acc (Nat.shiftLeft (orA acc a) (Nat.mul i 256))) fun acc=>frN (Nat.add i 1) fun i=>ancP i acc r
def zoz (s:Nat):List Nat→List Nat
 | []=>[]
 | i::r=>match zpw s i with
  | true=>i::zoz s r
  | false=>zoz s r
def ziw (a:Nat) (all:List Nat):List Nat→List (List Nat)
 | []=>[]
 | i::r=>(frN (slN a i) fun s=>zoz s all)::ziw a all r
def rdyN (af done i:Nat):Bool:=match zpw done i with
 | true=>false
 | false=>frN (slN af i) fun s=>Nat.beq (Nat.land s done) s
def zpR (ks i:Nat):Bool:=match kdN ks i with
 | 1=>true
 | 2=>true
 | _=>false
def zj9 (ks af done:Nat):List Nat→Option Nat
 | []=>none
 | i::r=>match zpR ks i with
  | false=>zj9 ks af done r
  | true=>match rdyN af done i with
   | true=>some i
   | false=>zj9 ks af done r
def ziU (af done:Nat):List Nat→List Nat
 | []=>[]
 | i::r=>match rdyN af done i with
  | true=>i::ziU af done r
  | false=>ziU af done r
def ziV (ks done an:Nat):List Nat→List Nat
 | []=>[]
 | k::r=>match zpw done k,Nat.beq (kdN ks k) 2,zpw an k with
  | true,true,false=>k::ziV ks done an r
  | _,_,_=>ziV ks done an r
def orT:List DT→DT
 | []=>.nil
 | [t]=>t
 | t::r=>.or t (orT r)
def znd (ks:Nat) (all:List Nat) (anc af:Nat):Nat→Nat→DT
 | 0,_=>.nil
 | n+1,done=>match zj9 ks af done all with
  | some p=>frN (Nat.lor done (Nat.shiftLeft 1 p)) fun done=>.pu p (znd ks all anc af n done)
  | none=>orT ((ziU af done all).map fun e=>frN (slN anc e) fun an=>.ef e (ziV ks done an all) (frN (Nat.lor done (Nat.shiftLeft 1 e)) fun done=>znd ks all anc af n done))
def drW (D:Dec) (ops:List Oper):SC J:=
 frM (ops.map zfi) fun afl=>frL (zpG ops.length []) fun all=>frN (zpT afl) fun af=>frN (ancP 0 0 afl) fun anc=>frN (znp (zdX D ops [] 0 ops)) fun ks=>
 frL (all.filter fun i=>!zpR ks i) fun eff=>
 frL (eff.filter fun i=>Nat.beq (kdN ks i) 3&&eff.any fun j=>!Nat.beq i j&&!zpw (slN anc i) j&&!zpw (slN anc j) i) fun bos=>
 frN (znp (zdX D ops bos 0 ops)) fun ks=>.dr (znd ks all anc af ops.length 0) (ziw anc all all) (zdX D ops bos 0 ops) afl
def zhU:Code→Bool
 | .ret=>true
 | .exit _=>true
 | .seq a b=>zhU a||zhU b
 | .cond _ a b=>zhU a&&zhU b
 | _=>false
def isifW:Code→Bool
 | .seq _ (.cond _ a b)=>!zhU a&&!zhU b
 | _=>false
def zjK:List J→Option (List J × Nat × Nat × Operand)
 | []=>none
 | [.p (.op (some it) (.range ty x))]=>some ([],it,ty,x)
 | j::l=>match zjK l with
  | some (pre,r)=>some (j::pre,r)
  | none=>none
def seqW (D:Dec) (ct:Bool) (ks:List Nat) (a b:SC J):SC J:=
 match a,b with
 | .reg l,.block id (.lp ms (.sq k1 (.reg [.p (.op (some tn) (.next n s)),.p (.ex tb y z)]) (.sq k2 (.cond c .skip (.exit e)) body)))=>match zjK l with
  | some (pre,it,ty,x)=>match zpm ty D.str with
   | true=>.rng id pre it ty x tn tb body
   | false=>.sq ks a b
  | none=>.sq ks a b
 | a,b=>match ct with
  | true=>.ct a b
  | false=>.sq ks a b
def orD:DT→Bool
 | .nil=>false
 | .pu _ t=>orD t
 | .ef _ _ t=>orD t
 | .or _ _=>true
def orC:SC J→Bool
 | .dr t _ _ _=>orD t
 | _=>false
def fixN (f:List Nat→List Nat):Nat→List Nat→List Nat
 | 0,m=>m
 | n+1,m=>frL (f m) fun m2=>match zpO m2 m with
  | true=>m
  | false=>frL (unN m2 m) fun m=>fixN f n m
def zeE (ret:List Nat):Code→List Nat→List (Nat × List Nat)→List Nat
 | .skip,out,ex=>out
 | .ret,out,ex=>ret
 | .exit id,out,ex=>exOf id ex
 | .seq a b,out,ex=>frL (zeE ret b out ex) fun m=>zeE ret a m ex
 | .cond c a b,out,ex=>zgv [c] (unN (zeE ret a out ex) (zeE ret b out ex))
 | .block id c,out,ex=>zeE ret c out ((id,out)::ex)
 | .loop c,out,ex=>fixN (fun m=>zeE ret c m ex) 5 []
 | .region _ ops _,out,ex=>zqg ops.toList ops.toList out
 | _,out,ex=>out
def zeU (D:Dec) (ct:Bool) (ret:List Nat):Code→List Nat→List (Nat × List Nat)→SC J
 | .skip,_,_=>.skip
 | .ret,_,_=>.ret
 | .exit id,_,_=>.exit id
 | .seq a b,out,ex=>
  frL (zeE ret b out ex) fun m=>seqW D ((ct&&isifW a)||(D.oc&&orC (zeU D ct ret a m ex))) m (zeU D ct ret a m ex) (zeU D ct ret b out ex)
 | .cond c a b,out,ex=>.cond c (zeU D ct ret a out ex) (zeU D ct ret b out ex)
 | .block id c,out,ex=>.block id (zeU D ct ret c out ((id,out)::ex))
 | .loop c,out,ex=>
  frL (fixN (fun m=>zeE ret c m ex) 5 []) fun m=>.lp m (zeU D ct ret c m ex)
 | .region _ ops false,out,ex=>.reg (zdX D ops.toList [] 0 ops.toList)
 | .region _ ops true,out,ex=>drW D ops.toList
 | _,_,_=>.bad
def resT:List ResultVar→List Nat→List Nat
 | [],m=>m
 | .tmp t::r,m=>resT r (zo1 t m)
 | .cell t _::r,m=>resT r (zo1 t m)
def decW (D:Dec) (ct:Bool) (f:Func):SC J:=match f.body with
 | some c=>zeU D ct (resT f.results.toList []) c (resT f.results.toList []) []
 | none=>.bad
end Go.Proofs.YtpjpkmhaffmbmaaGreat.E
end
section
namespace Go.Proofs.YtpjpkmhaffmbmaaGreat.E
open Go Go.RowKit
set_option linter.unusedVariables false
theorem zbf:∀{c:Code} {A B:SC SO},yZ c=.seq A B→∃a b,c=.seq a b∧yZ a=A∧yZ b=B
 | .seq a b,A,B,h=>by cases h;exact ⟨a,b,rfl,rfl,rfl⟩
 | .region _ ops d,A,B,h=>by cases d<;>cases h
 | .skip,A,B,h | .ret,A,B,h | .exit _,A,B,h | .cond ..,A,B,h | .block ..,A,B,h | .loop _,A,B,h | .rangeFunc ..,A,B,h | .scope _,A,B,h | .label _,A,B,h | .goto _,A,B,h | .refuse _,A,B,h=>by cases h
theorem zd5:∀{c:Code} {L:List SO},yZ c=.reg L→∃i ops,c=.region i ops false∧soL ops ops.toList=L
 | .region i ops d,L,h=>by
  cases d with
  | true=>cases h
  | false=>cases h;exact ⟨i,ops,rfl,rfl⟩
 | .seq ..,L,h | .skip,L,h | .ret,L,h | .exit _,L,h | .cond ..,L,h | .block ..,L,h | .loop _,L,h | .rangeFunc ..,L,h | .scope _,L,h | .label _,L,h | .goto _,L,h | .refuse _,L,h=>by cases h
theorem zfq:∀{c:Code} {id:Nat} {A:SC SO},yZ c=.block id A→∃a,c=.block id a∧yZ a=A
 | .block _ a,id,A,h=>by cases h;exact ⟨a,rfl,rfl⟩
 | .region _ ops d,id,A,h=>by cases d<;>cases h
 | .seq ..,id,A,h | .skip,id,A,h | .ret,id,A,h | .exit _,id,A,h | .cond ..,id,A,h | .loop _,id,A,h | .rangeFunc ..,id,A,h | .scope _,id,A,h | .label _,id,A,h | .goto _,id,A,h | .refuse _,id,A,h=>by cases h
theorem zhr:∀{c:Code} {A:SC SO},yZ c=.loop A→∃a,c=.loop a∧yZ a=A
 | .loop a,A,h=>by cases h;exact ⟨a,rfl,rfl⟩
 | .region _ ops d,A,h=>by cases d<;>cases h
 | .seq ..,A,h | .skip,A,h | .ret,A,h | .exit _,A,h | .cond ..,A,h | .block ..,A,h | .rangeFunc ..,A,h | .scope _,A,h | .label _,A,h | .goto _,A,h | .refuse _,A,h=>by cases h
theorem zht:∀{c:Code} {x:Operand} {A B:SC SO},yZ c=.cond x A B→∃a b,c=.cond x a b∧yZ a=A∧yZ b=B
 | .cond _ a b,x,A,B,h=>by cases h;exact ⟨a,b,rfl,rfl,rfl⟩
 | .region _ ops d,x,A,B,h=>by cases d<;>cases h
 | .seq ..,x,A,B,h | .skip,x,A,B,h | .ret,x,A,B,h | .exit _,x,A,B,h | .block ..,x,A,B,h | .loop _,x,A,B,h | .rangeFunc ..,x,A,B,h | .scope _,x,A,B,h | .label _,x,A,B,h | .goto _,x,A,B,h | .refuse _,x,A,B,h=>by cases h
theorem zhq:∀{c:Code},yZ c=.skip→c=.skip
 | .skip,h=>rfl
 | .region _ ops d,h=>by cases d<;>cases h
 | .seq ..,h | .ret,h | .exit _,h | .cond ..,h | .block ..,h | .loop _,h | .rangeFunc ..,h | .scope _,h | .label _,h | .goto _,h | .refuse _,h=>by cases h
theorem zhs:∀{c:Code} {id:Nat},yZ c=.exit id→c=.exit id
 | .exit _,id,h=>by cases h;rfl
 | .region _ ops d,id,h=>by cases d<;>cases h
 | .seq ..,id,h | .ret,id,h | .skip,id,h | .cond ..,id,h | .block ..,id,h | .loop _,id,h | .rangeFunc ..,id,h | .scope _,id,h | .label _,id,h | .goto _,id,h | .refuse _,id,h=>by cases h
theorem ziK {ops:Array Oper}:∀{l:List Oper} {A B:List SO},soL ops l=A++B→∃a b,l=a++b∧soL ops a=A∧soL ops b=B
 | l,[],B,h=>⟨[],l,rfl,rfl,h⟩
 | [],x::A,B,h=>by cases h
 | o::l,x::A,B,h=>by
  simp only [soL,List.cons_append,List.cons.injEq] at h
  obtain ⟨a,b,h1,h2,h3⟩:=ziK h.2
  exact ⟨o::a,b,by rw [h1];rfl,by simp only [soL,h2,h.1],h3⟩
theorem ziH {ops:Array Oper} {o:Oper} {d:Option Nat} {p:Op} (h:so ops o=⟨d,p,none⟩) (hp:zbn ⟨d,p,none⟩=true):o.op=p∧o.dst=d∧o.guard=none:=by
 unfold so at h
 split at h
 ·rename_i hg;cases h;exact ⟨rfl,rfl,hg⟩
 ·split at h
  ·cases h
  ·cases h;cases hp
theorem zhp {P:Program} {t:Nat} (h:tk P t=some .string):P.underlying t=some .string:=by
 obtain ⟨i,hi,hk⟩:=zch h
 obtain ⟨dsc,h1,h2,-⟩:=yH hi
 rw [hk] at h2
 cases dsc<;>simp [yW] at h2
 exact h1
theorem wt {P:Program} (hf:P.follows .mixedOrders=true):∀(c:SC J) {s:St} {Q Q':Exit→St→Prop},zdK c=true→(∀e s,Q e s→Q' e s)→jv P c s Q→sv P (exC c) s Q'
 | .skip,s,Q,Q',hd,h,hk=>h _ _ hk
 | .ret,s,Q,Q',hd,h,hk=>h _ _ hk
 | .exit id,s,Q,Q',hd,h,hk=>h _ _ hk
 | .seq a b,s,Q,Q',hd,h,hk=>.inl (wt hf a (Bool.and_eq_true_iff.1 hd).1 (fun e s hs=>by
   cases e with
   | normal=>exact ⟨s,.refl s,wt hf b (Bool.and_eq_true_iff.1 hd).2 h hs⟩
   | _=>exact h _ _ hs) hk)
 | .sq ks a b,s,Q,Q',hd,h,hk=>.inl (wt hf a (Bool.and_eq_true_iff.1 hd).1 (fun e s hs=>by
   cases e with
   | normal=>exact ⟨_,.keep ks s,wt hf b (Bool.and_eq_true_iff.1 hd).2 h hs⟩
   | _=>exact h _ _ hs) hk)
 | .ct a b,s,Q,Q',hd,h,hk=>.inl (wt hf a (Bool.and_eq_true_iff.1 hd).1 (fun e s hs=>by
   cases e with
   | normal=>
    obtain ⟨s'',hw,hs⟩:=hs
    exact ⟨s'',hw,wt hf b (Bool.and_eq_true_iff.1 hd).2 h hs⟩
   | _=>exact h _ _ hs) hk)
 | .cond c x y,⟨n,tm,σ,G⟩,Q,Q',hd,h,hk=>by
  simp only [jv] at hk
  simp only [exC,sv,zeP]
  split at hk
  ·rename_i b hb
   cases b with
   | true=>exact wt hf x (Bool.and_eq_true_iff.1 hd).1 h hk
   | false=>exact wt hf y (Bool.and_eq_true_iff.1 hd).2 h hk
  ·cases hk
 | .block id c,s,Q,Q',hd,h,hk=>wt hf c hd (fun e s hs=>by
   cases e with
   | exit id'=>
    simp only [yz] at hs ⊢
    split at hs
    ·exact h _ _ hs
    ·exact h _ _ hs
   | _=>exact h _ _ hs) hk
 | .loop c,s,Q,Q',hd,h,hk=>by
  obtain ⟨I,n,s1,h1,h2,h3⟩:=hk
  exact ⟨I,n,s1,h1,h2,fun m s2 hI=>wt hf c hd (fun e s hs=>by
   cases e with
   | normal=>exact hs
   | _=>exact h _ _ hs) (h3 m s2 hI)⟩
 | .lp ks c,s,Q,Q',hd,h,hk=>by
  obtain ⟨I,n,s1,h1,h2,h3⟩:=hk
  exact ⟨I,n,s1,h1,h2,fun m s2 hI=>wt hf c hd (fun e s hs=>by
   cases e with
   | normal=>exact hs
   | _=>exact h _ _ hs) (h3 m s2 hI)⟩
 | .reg l,s,Q,Q',hd,h,hk=>zbl (fun s hs=>h _ _ hs) (jc l s _ hk)
 | .dr t anc l af,s,Q,Q',hd,h,hk=>⟨hf,t,anc,hd,jM (fun s hs=>h _ _ hs) (zeG l t s _ hk)⟩
 | .rng id l it ty x tn tb b,s,Q,Q',hd,h,hk=>by
  refine .inr fun c hc=>?_
  obtain ⟨hty,hk⟩:=hk
  obtain ⟨a,b',rfl,ha,hb1⟩:=zbf hc
  obtain ⟨i1,ops1,rfl,h1⟩:=zd5 ha
  obtain ⟨c1,rfl,hb2⟩:=zfq hb1
  obtain ⟨c2,rfl,hb3⟩:=zhr hb2
  obtain ⟨c3,c4,rfl,h20,hb4⟩:=zbf hb3
  obtain ⟨i2,ops2,rfl,h2⟩:=zd5 h20
  obtain ⟨c5,body,rfl,h3,hb⟩:=zbf hb4
  obtain ⟨c6,c7,rfl,h4,h5⟩:=zht h3
  obtain rfl:=zhq h4
  obtain rfl:=zhs h5
  obtain ⟨pre,last,e1,h6,h7⟩:=ziK h1
  obtain ⟨oR,l8,rfl,h8⟩:∃oR l8,last=oR::l8∧soL ops1 last=so ops1 oR::soL ops1 l8:=by
   cases last with
   | nil=>cases h7
   | cons o l=>exact ⟨o,l,rfl,rfl⟩
  rw [h8] at h7
  simp only [List.cons.injEq] at h7
  have hl8:l8=[]:=by
   cases l8 with
   | nil=>rfl
   | cons o l=>cases h7.2
  subst hl8
  obtain ⟨oN,oE,e2,hN,hE⟩:∃oN oE,ops2.toList=[oN,oE]∧so ops2 oN=⟨some tn,.next (.tmp it) true,none⟩∧so ops2 oE=⟨some tb,.extract (.tmp tn) 0,none⟩:=by
   cases hl:ops2.toList with
   | nil=>rw [hl] at h2;cases h2
   | cons o1 l=>
    rw [hl] at h2
    cases l with
    | nil=>simp [soL] at h2
    | cons o2 l=>
     cases l with
     | nil=>
      simp only [soL,List.cons.injEq] at h2
      exact ⟨o1,o2,rfl,h2.1,h2.2.1⟩
     | cons o3 l=>simp [soL] at h2
  refine zlb e1 (ziH h7.1 rfl) e2 (ziH hN rfl) (ziH hE rfl) (zhp hty) ?_
  refine zfz ?_ (h6▸jc l s _ hk)
  rintro ⟨n,tm,σ,G⟩ ⟨str,hx,hit,hI⟩
  refine ⟨str,by rw [zeP];exact hx,hit,fun r=>?_⟩
  obtain ⟨I,s2,hw,h0,hr⟩:=hI r
  refine ⟨I,s2,hw,h0,fun pos s3 hp=>⟨(hr pos s3 hp).1,fun hlt=>?_,fun hlt=>h _ _ ((hr pos s3 hp).2.2 hlt)⟩⟩
  obtain ⟨c,hdd,hbd⟩:=(hr pos s3 hp).2.1 hlt
  refine ⟨c,hdd,zcl body (fun _ _ h=>h) (hb▸wt hf b hd (fun e s hs=>?_) hbd)⟩
  cases e with
  | normal=>exact hs
  | exit id'=>
   simp only [yD,yz] at hs ⊢
   split at hs
   ·exact h _ _ hs
   ·exact h _ _ hs
  | _=>exact h _ _ hs
 | .bad,s,Q,Q',hd,h,hk=>by cases hk
def zrK (P:Program) (rs:List ResultVar) (s:St) (res:AV) (rf:List (List Nat × Row)):Prop:=
 match jE P s rs with
 | some vs=>RetA res rf (zfc (zdZ res vs) vs s.σ s.G)
 | none=>False
def zpP (P:Program) (rs:List ResultVar) (res:AV) (rf:List (List Nat × Row)):Exit→St→Prop
 | .ret,s=>zrK P rs s res rf
 | .normal,s=>zrK P rs s res rf
 | _,_=>False
def zhi (P:Program) (n:Nat) (c:SC J) (N:Nat) (rs:List ResultVar):Prop:=
 ∃fn:Func,P.funcs[n]?=some fn∧fn.body.map yZ=some (exC c)∧(fn.name== "runtime.NumGoroutine")=false∧fn.ntmps=N∧fn.results.toList=rs∧P.follows .mixedOrders=true∧zdK c=true
theorem zb7 {P:Program} {n:Nat} {fn:Func} {c:SC J} {N:Nat} {rs:List ResultVar}
  (h:(P.funcs[n]?,fn.body.map yZ,fn.name== "runtime.NumGoroutine",fn.ntmps,fn.results.toList,P.follows .mixedOrders)=(some fn,some (exC c),false,N,rs,true)) (hd:zdK c=true):zhi P n c N rs:=by
 simp only [Prod.mk.injEq] at h
 exact ⟨fn,h.1,h.2.1,h.2.2.1,h.2.2.2.1,h.2.2.2.2.1,h.2.2.2.2.2,hd⟩
abbrev Use (_:SC J) (G:Prop):Prop:=G
theorem zj {G:Prop} (D:Dec) (ct:Bool) (fn:Func) (h:Use (decW D ct fn) G):G:=h
theorem zgb {P:Program} {n:Nat} {c:SC J} {N:Nat} {rs:List ResultVar} (hb:zhi P n c N rs)
  {args:List AV} {res:AV} {rf:List (List Nat × Row)} (hlen:Nat.ble args.length N=true) (hv:jv P c ⟨N,wF 0 args,[],0⟩ (zpP P rs res rf)):CallR P n args res rf:=by
 obtain ⟨fn,hf,hb,hn,rfl,rfl,hfo,hd⟩:=hb
 cases hbody:fn.body with
 | none=>rw [hbody] at hb;cases hb
 | some code=>
  rw [hbody] at hb
  have e:yZ code=exC c:=Option.some.inj hb
  have hq:∀e s,zpP P fn.results.toList res rf e s→retK P fn res rf e s:=by
   intro e s h
   cases e<;>exact h
  exact zga hf hbody hn (Nat.le_of_ble_eq_true hlen) (zcl code (fun _ _ h=>h) (e▸wt hfo c hd hq hv))
def retM (P:Program) (rs:List ResultVar) (res:AV) (σout:Sig):Exit→St→Prop
 | .ret,s=>zfe P rs s res σout
 | .normal,s=>zfe P rs s res σout
 | _,_=>False
theorem zgc {P:Program} {n:Nat} {c:SC J} {N:Nat} {rs:List ResultVar} (hb:zhi P n c N rs)
  {σin:Sig} {args:List AV} {res:AV} {σout:Sig} (hlen:Nat.ble args.length N=true) (hv:jv P c ⟨N,wF 0 args,σin,1⟩ (retM P rs res σout)):zS P n σin args res σout:=by
 obtain ⟨fn,hf,hb,hn,rfl,rfl,hfo,hd⟩:=hb
 cases hbody:fn.body with
 | none=>rw [hbody] at hb;cases hb
 | some code=>
  rw [hbody] at hb
  have e:yZ code=exC c:=Option.some.inj hb
  exact zb4 hf hbody hn (Nat.le_of_ble_eq_true hlen) (zcl code (fun _ _ h=>h) (e▸wt hfo c hd (fun e s h=>by
   cases e<;>exact h) hv))
theorem zlc {P:Program} {rs:List ResultVar} {res:AV} {σout:Sig} {s:St}:retM P rs res σout .ret s=zfe P rs s res σout:=rfl
theorem zfB {P:Program} {rs:List ResultVar} {res:AV} {σout:Sig} {s:St}:retM P rs res σout .normal s=zfe P rs s res σout:=rfl
theorem jvR {P:Program} {n:Nat} {c:SC J} (fn:Func) (N:Nat) (rs:List ResultVar) {args:List AV} {res:AV} {rf:List (List Nat × Row)}
  (h:(P.funcs[n]?,fn.body.map yZ,fn.name== "runtime.NumGoroutine",fn.ntmps,fn.results.toList,P.follows .mixedOrders)=(some fn,some (exC c),false,N,rs,true)) (hd:zdK c=true) (hlen:Nat.ble args.length N=true)
  (hv:jv P c ⟨N,wF 0 args,[],0⟩ (zpP P rs res rf)):Use c (CallR P n args res rf):=zgb (zb7 h hd) hlen hv
theorem jvM {P:Program} {n:Nat} {c:SC J} (fn:Func) (N:Nat) (rs:List ResultVar) {σin:Sig} {args:List AV} {res:AV} {σout:Sig}
  (h:(P.funcs[n]?,fn.body.map yZ,fn.name== "runtime.NumGoroutine",fn.ntmps,fn.results.toList,P.follows .mixedOrders)=(some fn,some (exC c),false,N,rs,true)) (hd:zdK c=true) (hlen:Nat.ble args.length N=true)
  (hv:jv P c ⟨N,wF 0 args,σin,1⟩ (retM P rs res σout)):Use c (zS P n σin args res σout):=zgc (zb7 h hd) hlen hv
def zrO (P:Program) (b:SC J) (Q:Exit→St→Prop) (s:St):Prop:=jv P b s Q
def zoL (P:Program) (l:List J) (Q:St→Prop) (s:St):Prop:=zgY P l s Q
def zlR (P:Program) (a b:SC J) (s:St) (Q:Exit→St→Prop) (v:AV):Prop:=match v with
 | .sc (.bool c)=>Br c (jv P a s Q) (jv P b s Q)
 | _=>False
theorem zi {P:Program} {a b:SC J} {s:St} {Q:Exit→St→Prop} {c:Bool} (h:c=true→jv P a s Q) (k:c=false→jv P b s Q):zlR P a b s Q (.sc (.bool c)):=zl6 h k
section
variable {P:Program} {n G:Nat} {tm:List (Nat × AV)} {σ:Sig} {Q:Exit→St→Prop} {K:St→Prop} {d t f i id:Nat} {x y z:Operand} {l:List J} {w:Bool} {s:St} {a b:SC J}
theorem zb:zlR P a b s Q (.sc (.bool true))=jv P a s Q:=rfl
theorem za:zlR P a b s Q (.sc (.bool false))=jv P b s Q:=rfl
theorem zc {i:I}:yG P n tm σ G t true i K (.sc (.bool true))=iSt P i ⟨n,tm,σ,G⟩ K:=rfl
theorem zf {i:I}:yG P n tm σ G t false i K (.sc (.bool false))=iSt P i ⟨n,tm,σ,G⟩ K:=rfl
theorem ze {i:I}:yG P n tm σ G t true i K (.sc (.bool false))=zfV i ⟨n,tm,σ,G⟩ K:=rfl
theorem zg {i:I}:yG P n tm σ G t false i K (.sc (.bool true))=zfV i ⟨n,tm,σ,G⟩ K:=rfl
theorem zjW {i:I}:yG P n tm σ G t w i K (.tup [])=zfV i ⟨n,tm,σ,G⟩ K:=rfl
theorem zm {i:I} {c:Bool} (h:c=true→yG P n tm σ G t w i K (.sc (.bool true))) (k:c=false→yG P n tm σ G t w i K (.sc (.bool false))):yG P n tm σ G t w i K (.sc (.bool c)):=by
 cases c with
 | true=>exact h rfl
 | false=>exact k rfl
theorem zl4:zrO P b Q ⟨n,tm,σ,G⟩=jv P b ⟨n,tm,σ,G⟩ Q:=rfl
theorem zl5:zoL P l K ⟨n,tm,σ,G⟩=zgY P l ⟨n,tm,σ,G⟩ K:=rfl
theorem znM:jv P .skip s Q=Q .normal s:=rfl
theorem zqn:jv P .ret s Q=Q .ret s:=rfl
theorem znN:jv P (.exit id) s Q=Q (.exit id) s:=rfl
theorem zql:jv P (.seq a b) s Q=jv P a s (yD Q (zrO P b Q)):=rfl
theorem zlB:jv P (.block id a) s Q=jv P a s (yz id Q):=rfl
theorem znO:jv P (.cond x a b) ⟨n,tm,σ,G⟩ Q=zlR P a b ⟨n,tm,σ,G⟩ Q (evT tm x):=rfl
theorem zqo:jv P (.reg l) s Q=zgY P l s (Norm Q):=rfl
theorem zlC:zgY P [] s K=K s:=rfl
theorem zqq {i:I}:zgY P (.p i::l) s K=iSt P i s (zoL P l K):=rfl
theorem zqr {i:I}:zgY P (.g t w i::l) ⟨n,tm,σ,G⟩ K=yG P n tm σ G t w i (zoL P l K) (yL tm t):=rfl
def zm3 (P:Program) (l:List J) (t:DT) (K:St→Prop) (s:St):Prop:=jT P l t s K
def zm4 (P:Program) (l:List J) (rc:List Nat) (tm:List (Nat × AV)) (σ:Sig) (t:DT) (K:St→Prop) (s:St):Prop:=zfw P l tm σ s.σ rc∧jT P l t s K
def jPw (P:Program) (n:Nat) (tm:List (Nat × AV)) (σ:Sig) (G:Nat) (K:St→Prop):Option J→Prop
 | some (.p j)=>(zeH j=true∧xg j.so.o=true)∧iSt P j ⟨n,tm,σ,G⟩ K
 | some (.g u w j)=>(zeH j=true∧xg j.so.o=true)∧yG P n tm σ G u w j K (yL tm u)
 | none=>False
def jEw (P:Program) (n:Nat) (tm:List (Nat × AV)) (σ:Sig) (G:Nat) (K:St→Prop):Option J→Prop
 | some (.p j)=>iSt P j ⟨n,tm,σ,G⟩ K
 | some (.g u w j)=>yG P n tm σ G u w j K (yL tm u)
 | none=>False
theorem zkN {t:DT}:zm3 P l t K ⟨n,tm,σ,G⟩=jT P l t ⟨n,tm,σ,G⟩ K:=rfl
theorem zkO {t:DT} {rc:List Nat} {tm0:List (Nat × AV)} {σ0:Sig}:zm4 P l rc tm0 σ0 t K ⟨n,tm,σ,G⟩=(zfw P l tm0 σ0 σ rc∧jT P l t ⟨n,tm,σ,G⟩ K):=rfl
theorem jv_dr {t:DT} {anc af:List (List Nat)}:jv P (.dr t anc l af) s Q=jT P l t s (Norm Q):=rfl
theorem zqp:jT P l .nil s K=K s:=rfl
theorem jT_pu {t:DT}:jT P l (.pu i t) ⟨n,tm,σ,G⟩ K=jPw P n tm σ G (zm3 P l t K) (zgM l i):=by
 rw [jT]
 cases h:zgM l i with
 | none=>rfl
 | some j=>cases j<;>rfl
theorem jT_ef {t:DT} {rc:List Nat}:jT P l (.ef i rc t) ⟨n,tm,σ,G⟩ K=jEw P n tm σ G (zm4 P l rc tm σ t K) (zgM l i):=by
 rw [jT]
 cases h:zgM l i with
 | none=>rfl
 | some j=>cases j<;>rfl
theorem jT_or {a b:DT}:jT P l (.or a b) s K=(jT P l a s K∧jT P l b s K):=rfl
theorem jPw_p {i:I}:jPw P n tm σ G K (some (.p i))=((zeH i=true∧xg i.so.o=true)∧iSt P i ⟨n,tm,σ,G⟩ K):=rfl
theorem jPw_g {i:I}:jPw P n tm σ G K (some (.g t w i))=((zeH i=true∧xg i.so.o=true)∧yG P n tm σ G t w i K (yL tm t)):=rfl
theorem jEw_p {i:I}:jEw P n tm σ G K (some (.p i))=iSt P i ⟨n,tm,σ,G⟩ K:=rfl
theorem jEw_g {i:I}:jEw P n tm σ G K (some (.g t w i))=yG P n tm σ G t w i K (yL tm t):=rfl
theorem zfp {K:St→Prop}:yD Q K .normal s=K s:=rfl
theorem zk5 {K:St→Prop}:yD Q K .ret s=Q .ret s:=rfl
theorem ziz {K:St→Prop}:yD Q K (.exit id) s=Q (.exit id) s:=rfl
theorem ze0:yz id Q .normal s=Q .normal s:=rfl
theorem zkt:yz id Q .ret s=Q .ret s:=rfl
theorem zh1 {id':Nat}:yz id Q (.exit id') s=Br (id'==id) (Q .normal s) (Q (.exit id') s):=by
 cases h:id'==id<;>simp [yz,h,Br]
theorem znh {rs:List ResultVar} {res:AV} {rf:List (List Nat × Row)}:zpP P rs res rf .ret s=zrK P rs s res rf:=rfl
theorem zhx {rs:List ResultVar} {res:AV} {rf:List (List Nat × Row)}:zpP P rs res rf .normal s=zrK P rs s res rf:=rfl
theorem zov {X:Prop}:Br (Nat.blt d n) X False=if d<n then X else False:=by
 by_cases h:d<n
 ·rw [if_pos h,show Nat.blt d n=true from Nat.ble_eq_true_of_le h];rfl
 ·rw [if_neg h]
  cases hb:Nat.blt d n with
  | false=>rfl
  | true=>exact absurd (Nat.le_of_ble_eq_true hb) h
theorem znk {v:AV}:zaL n d tm σ G K v=if d<n then K ⟨n,(d,v)::tm,σ,G⟩ else False:=zov
theorem znm {v:AV} {σ':Sig}:zlj n d tm G K (v,σ')=if d<n then K ⟨n,(d,v)::tm,σ',G+1⟩ else False:=zov
theorem zpQ {v:AV}:put ⟨n,tm,σ,G⟩ (some d) v σ false K=if d<n then K ⟨n,(d,v)::tm,σ,G⟩ else False:=by rw [zi4];exact zov
theorem zli {v:AV} {σ':Sig}:put ⟨n,tm,σ,G⟩ none v σ' false K=K ⟨n,tm,σ',G⟩:=rfl
theorem zi5 {v:AV} {σ':Sig}:put ⟨n,tm,σ,G⟩ none v σ' true K=K ⟨n,tm,σ',G+1⟩:=rfl
theorem znl {σ':Sig}:putS n tm G K σ'=K ⟨n,tm,σ',G⟩:=rfl
theorem zkY {d:Option Nat} {args':List AV} {σ':Sig}:znb P n d tm σ G f K (σ',args')=Want P f args' (zkQ ⟨n,tm,σ,G⟩ d K σ'):=rfl
theorem zlT {res:AV} {σ':Sig} {rf:List (List Nat × Row)}:zkQ ⟨n,tm,σ,G⟩ (some d) K σ' res rf=(ziS rf=true∧zlj n d tm G K (nm d G res,zfd σ' d G rf)):=by
 have h:put ⟨n,tm,σ,G⟩ (some d) (nm d G res) (zfd σ' d G rf) true K=zlj n d tm G K (nm d G res,zfd σ' d G rf):=zdk
 show (_∧put ⟨n,tm,σ,G⟩ (some d) (nm d G res) (zfd σ' d G rf) true K)=_
 rw [h]
theorem zhY {res:AV} {σ':Sig} {rf:List (List Nat × Row)}:zkQ ⟨n,tm,σ,G⟩ none K σ' res rf=(ziS rf=true∧putS n tm (G+1) K (zfd σ' 0 G rf)):=rfl
def zrN (P:Program) (ks:List Nat) (b:SC J) (Q:Exit→St→Prop) (s:St):Prop:=jv P b (znK ks s) Q
theorem zl3 {ks:List Nat}:zrN P ks b Q ⟨n,tm,σ,G⟩=jv P b ⟨n,zdz ks tm,σ,G⟩ Q:=rfl
theorem jv_sq {ks:List Nat}:jv P (.sq ks a b) s Q=jv P a s (yD Q (zrN P ks b Q)):=rfl
theorem zkc {v:Value}:evT tm (.const v)=zmW v:=rfl
theorem zlJ:evT tm (.func f)=.sc (.func (.func f) #[] #[]):=rfl
theorem zlD {i:I}:zfV i s K=put s i.so.d (.tup []) s.σ false K:=rfl
end
theorem wu {P:Program}:∀(l:List J) {s:St} {K K':St→Prop},(∀s,K s→K' s)→zgY P l s K→zgY P l s K'
 | [],_,_,_,h,hk=>h _ hk
 | .p i::l,_,_,_,h,hk=>za0 (fun s hs=>wu l h hs) hk
 | .g t w i::l,s,K,K',h,hk=>by
  exact jW (fun s hs=>wu l h hs) hk
theorem yC {P:Program}:∀(c:SC J) {s:St} {Q Q':Exit→St→Prop},(∀e s,Q e s→Q' e s)→jv P c s Q→jv P c s Q'
 | .skip,s,Q,Q',h,hk=>h _ _ hk
 | .ret,s,Q,Q',h,hk=>h _ _ hk
 | .exit id,s,Q,Q',h,hk=>h _ _ hk
 | .seq a b,s,Q,Q',h,hk=>yC a (fun e s hs=>by
   cases e with
   | normal=>exact yC b h hs
   | _=>exact h _ _ hs) hk
 | .sq ks a b,s,Q,Q',h,hk=>yC a (fun e s hs=>by
   cases e with
   | normal=>exact yC b h hs
   | _=>exact h _ _ hs) hk
 | .ct a b,s,Q,Q',h,hk=>yC a (fun e s hs=>by
   cases e with
   | normal=>
    obtain ⟨s'',hw,hs⟩:=hs
    exact ⟨s'',hw,yC b h hs⟩
   | _=>exact h _ _ hs) hk
 | .cond c x y,⟨n,tm,σ,G⟩,Q,Q',h,hk=>by
  simp only [jv] at hk ⊢
  split at hk
  ·rename_i b hb
   cases b with
   | true=>exact yC x h hk
   | false=>exact yC y h hk
  ·cases hk
 | .block id c,s,Q,Q',h,hk=>yC c (fun e s hs=>by
   cases e with
   | exit id'=>
    simp only [yz] at hs ⊢
    split at hs
    ·exact h _ _ hs
    ·exact h _ _ hs
   | _=>exact h _ _ hs) hk
 | .loop c,s,Q,Q',h,hk=>by
  obtain ⟨I,n,s1,h1,h2,h3⟩:=hk
  exact ⟨I,n,s1,h1,h2,fun m s2 hI=>yC c (fun e s hs=>by
   cases e with
   | normal=>exact hs
   | _=>exact h _ _ hs) (h3 m s2 hI)⟩
 | .lp ks c,s,Q,Q',h,hk=>by
  obtain ⟨I,n,s1,h1,h2,h3⟩:=hk
  exact ⟨I,n,s1,h1,h2,fun m s2 hI=>yC c (fun e s hs=>by
   cases e with
   | normal=>exact hs
   | _=>exact h _ _ hs) (h3 m s2 hI)⟩
 | .reg l,s,Q,Q',h,hk=>wu l (fun s hs=>h _ _ hs) hk
 | .dr _ _ l _,s,Q,Q',h,hk=>jV (l:=l) (fun s hs=>h _ _ hs) hk
 | .rng id l it ty x tn tb b,s,Q,Q',h,hk=>by
  obtain ⟨hty,hk⟩:=hk
  refine ⟨hty,wu l ?_ hk⟩
  rintro s1 ⟨str,hx,hit,hI⟩
  refine ⟨str,hx,hit,fun r=>?_⟩
  obtain ⟨I,s2,hw,h0,hr⟩:=hI r
  refine ⟨I,s2,hw,h0,fun pos s3 hp=>⟨(hr pos s3 hp).1,fun hlt=>?_,fun hlt=>h _ _ ((hr pos s3 hp).2.2 hlt)⟩⟩
  obtain ⟨c,hd,hb⟩:=(hr pos s3 hp).2.1 hlt
  refine ⟨c,hd,yC b (fun e s hs=>?_) hb⟩
  cases e with
  | normal=>exact hs
  | exit id'=>
   simp only [yD,yz] at hs ⊢
   split at hs
   ·exact h _ _ hs
   ·exact h _ _ hs
  | _=>exact h _ _ hs
 | .bad,s,Q,Q',h,hk=>by cases hk
theorem jv_ct {P:Program} {a b:SC J} {s:St} {Q:Exit→St→Prop} (R:St→Prop) (h1:jv P a s (yD Q fun s'=>∃s'',Weak s' s''∧R s'')) (h2:∀s'',R s''→jv P b s'' Q):jv P (.ct a b) s Q:=
 yC a (fun e s hs=>by
  cases e with
  | normal=>
   obtain ⟨s'',hw,hs⟩:=hs
   exact ⟨s'',hw,h2 _ hs⟩
  | _=>exact hs) h1
theorem jv_loop {P:Program} {c:SC J} {s:St} {Q:Exit→St→Prop} (I:Nat→St→Prop) (n:Nat) (h1:∃s1,Weak s s1∧I n s1)
  (h2:∀m s2,I m s2→jv P c s2 (yD Q fun s3=>∃m' s4,m'<m∧Weak s3 s4∧I m' s4)):jv P (.loop c) s Q:=by
 obtain ⟨s1,hw,hI⟩:=h1
 exact ⟨I,n,s1,hw,hI,h2⟩
def LpK (ks:List Nat) (I:Nat→St→Prop) (m:Nat) (s:St):Prop:=∃m',m'<m∧I m' (zaf ks s)
theorem zrM {ks:List Nat} {I:Nat→St→Prop} {m n G:Nat} {tm:List (Nat × AV)} {σ:Sig}:LpK ks I m ⟨n,tm,σ,G⟩=∃m',m'<m∧I m' (zaf ks ⟨n,tm,σ,G⟩):=rfl
theorem zlE {ks:List Nat} {n G:Nat} {tm:List (Nat × AV)} {σ:Sig}:zaf ks ⟨n,tm,σ,G⟩=canL ⟨n,tm,σ,G⟩ (zdz ks tm) (canN ⟨n,tm,σ,G⟩ ks):=rfl
theorem zU {P:Program} {ks:List Nat} {c:SC J} {s:St} {Q:Exit→St→Prop} (I:Nat→St→Prop) (n:Nat) (h1:I n (zaf ks s))
  (h2:∀m s2,I m s2→jv P c s2 (yD Q (LpK ks I m))):jv P (.lp ks c) s Q:=⟨I,n,_,.head ks s,h1,fun m s2 hI=>yC c (fun e s hs=>by
   cases e with
   | normal=>
    obtain ⟨m',h4,h5⟩:=hs
    exact ⟨m',_,h4,.head ks s,h5⟩
   | _=>exact hs) (h2 m s2 hI)⟩
def LpN (ks:List Nat) (us:List (Nat × Nat)) (I:Nat→St→Prop) (m:Nat) (s:St):Prop:=∃m',m'<m∧I m' (zaf ks (nilN us s))
theorem zrL {ks:List Nat} {us:List (Nat × Nat)} {I:Nat→St→Prop} {m n G:Nat} {tm:List (Nat × AV)} {σ:Sig}:LpN ks us I m ⟨n,tm,σ,G⟩=∃m',m'<m∧I m' (zaf ks (nilN us ⟨n,tm,σ,G⟩)):=rfl
theorem qO {P:Program} {ks:List Nat} {c:SC J} {s:St} {Q:Exit→St→Prop} (us:List (Nat × Nat)) (I:Nat→St→Prop) (n:Nat) (h1:I n (zaf ks (nilN us s)))
  (h2:∀m s2,I m s2→jv P c s2 (yD Q (LpN ks us I m))):jv P (.lp ks c) s Q:=⟨I,n,_,(Weak.nilN us s).trans (.head ks _),h1,fun m s2 hI=>yC c (fun e s hs=>by
   cases e with
   | normal=>
    obtain ⟨m',h4,h5⟩:=hs
    exact ⟨m',_,h4,(Weak.nilN us s).trans (.head ks _),h5⟩
   | _=>exact hs) (h2 m s2 hI)⟩
def RngJ (P:Program) (id it:Nat) (x:Operand) (tn tb:Nat) (b:SC J) (Q:Exit→St→Prop) (s1:St):Prop:=∃str,evT s1.tm x=.sc (.string str)∧it<s1.n∧∀r,∃(I:Nat→St→Prop) (s2:St),Weak ⟨s1.n,(it,.it r)::s1.tm,s1.σ,s1.G⟩ s2∧I 0 s2∧∀pos s3,I pos s3→
   (zw s3.tm it=some (.it r)∧tn<s3.n∧tb<s3.n)∧
   (pos<str.size→∃c,Utf8.decode str pos=(c,1)∧jv P b ⟨s3.n,(tb,.sc (.bool true))::(tn,.tup [.sc (.bool true),.sc (.int .i64 pos),.sc (.int .i32 c)])::s3.tm,s3.σ,s3.G⟩ (yD (yz id Q) fun s4=>∃s5,Weak s4 s5∧I (pos+1) s5))∧
   (¬pos<str.size→Q .normal ⟨s3.n,(tb,.sc (.bool false))::(tn,.tup [.sc (.bool false)])::s3.tm,s3.σ,s3.G⟩)
theorem zqm {P:Program} {id it ty tn tb:Nat} {x:Operand} {l:List J} {b:SC J} {s:St} {Q:Exit→St→Prop}:jv P (.rng id l it ty x tn tb b) s Q=(tk P ty=some .string∧zgY P l s (RngJ P id it x tn tb b Q)):=rfl
def RngN (ks:List Nat) (us:List (Nat × Nat)) (I:Nat→St→Prop) (pos:Nat) (s:St):Prop:=I pos (zaf ks (nilN us s))
theorem zoH {ks:List Nat} {us:List (Nat × Nat)} {I:Nat→St→Prop} {pos n G:Nat} {tm:List (Nat × AV)} {σ:Sig}:RngN ks us I pos ⟨n,tm,σ,G⟩=I pos (zaf ks (nilN us ⟨n,tm,σ,G⟩)):=rfl
theorem zef {P:Program} {id it tn tb n G:Nat} {tm:List (Nat × AV)} {σ:Sig} {x:Operand} {b:SC J} {Q:Exit→St→Prop} (str:ByteArray) (ks:List Nat) (us:List (Nat × Nat)) (I:Nat→Nat→St→Prop)
  (hx:evT tm x=.sc (.string str)) (hn:it<n∧tn<n∧tb<n) (h0:∀r,I r 0 (zaf ks (nilN us ⟨n,(it,.it r)::tm,σ,G⟩)))
  (hr:∀r pos s,I r pos s→zw s.tm it=some (.it r)∧s.n=n)
  (h1:∀r pos s,I r pos s→pos<str.size→∃c,Utf8.decode str pos=(c,1)∧jv P b ⟨s.n,(tb,.sc (.bool true))::(tn,.tup [.sc (.bool true),.sc (.int .i64 pos),.sc (.int .i32 c)])::s.tm,s.σ,s.G⟩ (yD (yz id Q) (RngN ks us (I r) (pos+1))))
  (h2:∀r pos s,I r pos s→¬pos<str.size→Q .normal ⟨s.n,(tb,.sc (.bool false))::(tn,.tup [.sc (.bool false)])::s.tm,s.σ,s.G⟩):RngJ P id it x tn tb b Q ⟨n,tm,σ,G⟩:=by
 refine ⟨str,hx,hn.1,fun r=>⟨I r,_,(Weak.nilN us _).trans (.head ks _),h0 r,fun pos s3 hp=>⟨⟨(hr r pos s3 hp).1,by rw [(hr r pos s3 hp).2];exact hn.2.1,by rw [(hr r pos s3 hp).2];exact hn.2.2⟩,fun hlt=>?_,h2 r pos s3 hp⟩⟩⟩
 obtain ⟨c,hd,hb⟩:=h1 r pos s3 hp hlt
 refine ⟨c,hd,yC b (fun e s hs=>?_) hb⟩
 cases e with
 | normal=>exact ⟨_,(Weak.nilN us s).trans (.head ks _),hs⟩
 | _=>exact hs
theorem zlr {n G t:Nat} {tm:List (Nat × AV)} {σ:Sig} {u:AV}:zls ⟨n,tm,σ,G⟩ t u=nilP ⟨n,tm,σ,G⟩ t (zmq u (yL tm t) σ G):=rfl
theorem zhE {n G t j sz:Nat} {tm:List (Nat × AV)} {σ:Sig}:nilCell ⟨n,tm,σ,G⟩ t j sz=znB ⟨n,tm,σ,G⟩ (zjl σ j sz G (yL tm t)):=rfl
theorem zny {n G t G':Nat} {tm:List (Nat × AV)} {σ σ':Sig} {v:AV}:nilP ⟨n,tm,σ,G⟩ t (v,σ',G')=⟨n,(t,v)::tm,σ',G'⟩:=rfl
theorem Weak.only (ks:List Nat) (s:St):Weak s ⟨s.n,zdz ks s.tm,[],s.G⟩:=by
 intro rd O w0 a w ⟨rd',φ,hx,h⟩
 have hno:∀{r g p row},zn ([]:Sig) r g p=some row→False:=by
  intro r g p row hr
  simp [zn,zw] at hr
 exact ⟨rd',φ,hx,⟨fun r g p row hr=>(hno hr).elim,fun r g p row r' g' p' row' pl pl' b q q' hr=>(hno hr).elim,h.heap.rdok,fun r g p row pl b q hr=>(hno hr).elim,fun r g p row pl b q hr=>(hno hr).elim,h.heap.frame,h.heap.size,h.heap.os,h.heap.tape,h.heap.output⟩,
  fun t v hl=>qC ks s.tm t v hl▸h.look t,h.size,h.defers,h.gen⟩
theorem zkB {p:AV→Bool}:∀{tm:List (Nat × AV)},(tm.all fun x=>p x.2)=true→∀t v,zw tm t=some v→p v=true
 | [],_,t,v,h=>by cases h
 | (k,u)::l,ha,t,v,h=>by
  simp only [List.all_cons,Bool.and_eq_true] at ha
  simp only [zx] at h
  split at h
  ·cases h;exact ha.1
  ·exact zkB ha.2 t v h
theorem zkv (n:Nat):Nat.beq n n=true:=Nat.beq_refl n
theorem zjD {row:Row}:jx [([],row)]=one row:=by
 funext p
 cases p<;>rfl
theorem beqL_iff:∀{a b:List Nat},zgg a b=true↔a=b
 | [],[]=>by simp [zgg]
 | [],_::_=>by simp [zgg]
 | _::_,[]=>by simp [zgg]
 | a::l,b::m=>by
  simp only [zgg,List.cons.injEq]
  cases h:a==b with
  | true=>simp only [beqL_iff];simp at h;simp [h]
  | false=>simp at h;simp [h]
theorem zhJ {q p:List Nat} {row:Row} {l:List (List Nat × Row)}:jx ((q,row)::l) p=match zgg p q with
  | true=>some row
  | false=>jx l p:=by
 rw [jx]
 cases h:zgg p q with
 | true=>rw [if_pos (beqL_iff.1 h)]
 | false=>rw [if_neg (fun e=>by rw [beqL_iff.2 e] at h;cases h)]
theorem zn6 {f:jH} {p q:List Nat} {row:Row}:jC f p row q=match zgg q p with
  | true=>some row
  | false=>f q:=by
 unfold jC
 cases h:zgg q p with
 | true=>rw [if_pos (beqL_iff.1 h)]
 | false=>rw [if_neg (fun e=>by rw [beqL_iff.2 e] at h;cases h)]
theorem zox (a b:Nat):Nat.ble a b=decide (a≤b):=by
 by_cases h:a≤b
 ·rw [Nat.ble_eq_true_of_le h,decide_eq_true h]
 ·rw [decide_eq_false h]
  cases hb:Nat.ble a b with
  | false=>rfl
  | true=>exact absurd (Nat.le_of_ble_eq_true hb) h
theorem zjE {p:List Nat}:jx [] p=none:=rfl
attribute [go_sem] r_mk r_lu r_mu zcw zfb zkM luV eqA wx zjE zhE znB zjl znA znz zj3 Option.getD_none Int.le_refl r_cu zq2 r_lz r_mf fnV zn8 zcb zh7 zqm zoH zrL zlr zny zmq zjm zmr zfc RetA zoI nilN zdZ zox List.set_set List.length_set List.replicate_succ List.replicate_zero Nat.succ_eq_add_one List.take_length zjD zhJ zn6 zgg zkv Bool.true_or Bool.false_or Bool.not_not Bool.not_true Bool.not_false Bool.false_and beq_self_eq_true Nat.min_def Int.toNat_natCast Int.natCast_nonneg znP zgZ znf zne Nat.zero_add Nat.le_refl List.getElem?_map List.length_map zhT zdk zi5 jv_dr zqp jT_pu jT_ef jT_or jPw_p jPw_g jEw_p jEw_g zkN zkO zfw rdJ rdW gdW qh xI zgM zeH xg zlc zfB zfe zoJ retL zla zfs zd6 zlE zrM canN canL zq5 addN zjs zm7 zf8 tgt zqH hasT qT lkN lkB zeh ziQ nmsC zp0 zp1 zlq nmsT zji nmsE nmsG inNm inNs zmo zmt znH zo0 qk zlu zqv zcn mvA mvB mvC mvD mvE bkN zlO zoc zmh zeT zen zem zeo zbr zcH wW ldD zqh zgD zpU elB jt zcc wL zbZ wM zap ju ze4 zeZ jh xB yS zhg za4 zhc zhd zft flL xT zkC zkw zpr appR qs zaq zoN sbK evO evP xt znM zqn znN zql jv_sq zlB znO zqo zlC zqq zqr zfp zk5 ziz ze0 zkt zh1 znh zhx znk znm znl zkY zlT zhY zf6 zkc zlJ zlD zl4 zl5 zl3 zoK zb za zc zf ze zg zjW r_mv r_as r_pk r_al r_bx r_ld r_fa r_ex r_nc r_bn r_un r_cv r_st r_ln r_ca r_cl r_cm r_cn mvAL mvBL mvCL mvDL zhQ zhR r_ia r_ix r_fd r_sl r_bd r_bo r_bs r_ap r_cp r_sb r_mn r_mx r_ms xp zce evL yL zdz I.so zpQ zli zeP wF zmW absC zk9 zfJ qL xA zfa zhe zdS zkG zdA zdT zkF wN ze9 jY js ziE zqt xq qr qJ ze7 zdU ldC stC yq jy flC plc sfc one zg1 zn zw yA Option.map_some Option.map_none Option.bind_some Option.bind_none zrK jE zeM zqN zj4 zj5 zpn zqO frz qp zjZ zbU zbT zbS zai xP jf zav ziS nm nmA nmC zfd Nat.blt tk decide_true decide_false List.getElem?_toArray List.getElem?_cons_succ List.getElem?_cons_zero List.getElem?_nil List.all_cons List.all_nil List.any_cons List.any_nil Bool.and_true Bool.true_and Bool.or_false Bool.false_or Bool.and_self List.map_cons List.map_nil List.length_cons List.length_nil List.drop_succ_cons List.drop_zero List.take_succ_cons List.take_zero List.drop_nil List.take_nil List.append_nil List.nil_append List.cons_append List.set_cons_zero List.set_cons_succ Nat.ble_eq Nat.beq_eq Option.getD_some and_self true_and and_true ite_true ite_false if_true if_false
end Go.Proofs.YtpjpkmhaffmbmaaGreat.E
end
section
namespace Go.Proofs.YtpjpkmhaffmbmaaGreat.E
open Go Go.RowKit
set_option linter.unusedVariables false
def zcm (w:World):RD:=fun b o=>w.cell? (mkA b o)
abbrev zet:Phi:=fun _ _ _=>none
def OpensC (P:Program) (t:TypeId) (sz:Nat) {α:Type} (E:α→List AV) (Wf:α→Prop):Prop:=
 P.cellsOf t=sz∧(∀a,(E a).length=sz∧∀c∈E a,sfc c=true)∧
  ∀(H:Type) (enc:TypeId × Value→H) (w:World) (fuel:Nat) (cs:List Value) (x:DataW H × List MemPlace),DataW.trod enc P w 0 (fun _=>true) true fuel t cs=some x→∃a,Wf a∧PW (zcm w) zet (E a) cs
theorem PW.one {rd:RD} {φ:Phi} {c:AV} {v:Value} (h:VRel rd φ c v):PW rd φ [c] [v]:=PW.cons h PW.nil
theorem zjf {P:Program} {t:TypeId} {k:IntKind} (ht:P.underlying t=some (.int k)) (hs:P.cellsOf t=1):OpensC P t 1 (fun n:Int=>[.sc (.int k n)]) (fun n=>(Lit.int k n).wf=true):=
 ⟨hs,fun a=>⟨rfl,by simp [sfc]⟩,fun H enc w fuel cs x h=>by
  obtain ⟨n,rfl,rfl,hw⟩:=DataW.trod_int ht h
  exact ⟨n,hw,PW.one (.sc _ rfl)⟩⟩
theorem zoQ {P:Program} {t:TypeId} (ht:P.underlying t=some .bool) (hs:P.cellsOf t=1):OpensC P t 1 (fun b:Bool=>[.sc (.bool b)]) (fun _=>True):=
 ⟨hs,fun a=>⟨rfl,by simp [sfc]⟩,fun H enc w fuel cs x h=>by
  obtain ⟨n,rfl,rfl⟩:=DataW.trod_bool ht h
  exact ⟨n,trivial,PW.one (.sc _ rfl)⟩⟩
theorem zmk {P:Program} {t:TypeId} (ht:P.underlying t=some .string) (hs:P.cellsOf t=1):OpensC P t 1 (fun b:ByteArray=>[.sc (.string b)]) (fun b=>b.size≤maxLen):=
 ⟨hs,fun a=>⟨rfl,by simp [sfc]⟩,fun H enc w fuel cs x h=>by
  obtain ⟨n,rfl,rfl,hw⟩:=DataW.trod_string ht h
  exact ⟨n,hw,PW.one (.sc _ rfl)⟩⟩
theorem zjF {α:Type} {p:Nat→α→Prop}:∀(n:Nat),(∀i,i<n→∃a,p i a)→∃l:List α,l.length=n∧∀i a,l[i]?=some a→p i a
 | 0,_=>⟨[],rfl,fun i a h=>by simp at h⟩
 | n+1,h=>by
  obtain ⟨l,hl,hp⟩:=zjF n (fun i hi=>h i (Nat.lt_succ_of_lt hi))
  obtain ⟨a,ha⟩:=h n (Nat.lt_succ_self n)
  refine ⟨l++[a],by simp [hl],fun i b hb=>?_⟩
  rcases Nat.lt_or_ge i n with hi | hi
  ·rw [List.getElem?_append_left (by omega)] at hb
   exact hp i b hb
  ·rw [List.getElem?_append_right (by omega)] at hb
   cases hz:i - l.length with
   | zero=>
    rw [hz] at hb
    cases hb
    have:i=n:=by omega
    rw [this];exact ha
   | succ k=>rw [hz] at hb;simp at hb
theorem zeV {w:World} {base:Nat} {a:Addr} {n:Nat} {cs:List Value} (h:w.cells? base a n=some cs):cs.length=n∧∀j,j<n→w.cell? (a.add j)=cs[j]?:=by
 unfold World.cells? at h
 split at h
 ·refine ⟨by simpa using mapM_some_length h,fun j hj=>?_⟩
  have:=mapM_some_get h j j (by simp [hj])
  exact this
 ·cases h
theorem zfI {P:Program} {t e:TypeId} {sz:Nat} {α:Type} {E:α→List AV} {Wf:α→Prop} (ht:P.underlying t=some (.slice e)) (hs:P.cellsOf t=1) (he:OpensC P e sz E Wf) (hpos:0<sz):
  OpensC P t 1 (fun l:List α=>[.ro sz (l.map E)]) (fun l=>(∀a∈l,Wf a)∧l.length≤maxLen):=by
 obtain ⟨he1,he2,he3⟩:=he
 refine ⟨hs,fun a=>⟨rfl,by simp [sfc]⟩,fun H enc w fuel cs x h=>?_⟩
 rcases DataW.trod_slice ht h with ⟨rfl,rfl⟩ | ⟨a,len,cap,elems,rest,n,rfl,rfl,rfl,hb,hl,hc,hlen,hel,-,-⟩
 ·exact ⟨[],⟨by simp,by simp⟩,PW.one (.ro0 _ _ _)⟩
 ·obtain ⟨l,hll,hp⟩:=zjF (p:=fun i a'=>Wf a'∧∃cs,w.cells? 0 (a.add (i * P.cellsOf e)) (P.cellsOf e)=some cs∧PW (zcm w) zet (E a') cs) len (fun i hi=>by
   have hx:=hel i hi
   rw [List.getElem?_eq_getElem (by omega)] at hx
   obtain ⟨cs,h1,h2⟩:=Option.bind_eq_some_iff.1 hx
   obtain ⟨a',h3,h4⟩:=he3 _ _ _ _ _ _ h2
   exact ⟨a',h3,cs,h1,h4⟩)
  refine ⟨l,⟨fun a' ha=>by obtain ⟨i,hi⟩:=List.getElem?_of_mem ha;exact (hp i a' hi).1,by omega⟩,PW.one ?_⟩
  by_cases hz:len=0
  ·subst hz
   have:l=[]:=List.eq_nil_of_length_eq_zero hll
   subst this
   exact .ro0 _ _ _
  ·obtain ⟨b,q,spot⟩:=a
   have hspot:spot=none:=by
    obtain ⟨a0,ha0⟩:∃a0,l[0]?=some a0:=⟨l[0],by rw [List.getElem?_eq_getElem]⟩
    obtain ⟨-,cs,h1,h2⟩:=hp 0 a0 ha0
    obtain ⟨h3,h4⟩:=zeV h1
    have h5:=h4 0 (by rw [he1];exact hpos)
    rw [List.getElem?_eq_getElem (by rw [h3,he1];exact hpos)] at h5
    cases hsp:spot with
    | none=>rfl
    | some s=>
     subst hsp
     exfalso
     simp only [World.cell?,Addr.add] at h5
     split at h5<;>simp_all
   subst hspot
   have hcell:∀(i j:Nat) (c:AV),((l.map E)[i]?).bind (·[j]?)=some c→sfc c=true∧∃v,w.cell? (mkA b (q+i * sz+j))=some v∧VRel (zcm w) zet c v:=by
    intro i j c hc
    rw [List.getElem?_map] at hc
    cases hi:l[i]? with
    | none=>rw [hi] at hc;cases hc
    | some a'=>
     rw [hi] at hc
     simp only [Option.map_some,Option.bind_some] at hc
     obtain ⟨-,cs,h1,h2⟩:=hp i a' hi
     obtain ⟨h3,h4⟩:=zeV h1
     obtain ⟨v,hv,hr⟩:=h2.2 j c hc
     refine ⟨(he2 a').2 c (List.mem_of_getElem? hc),v,?_,hr⟩
     have hj:j<P.cellsOf e:=by
      rw [←h3]
      rcases Nat.lt_or_ge j cs.length with hx | hx
      ·exact hx
      ·rw [List.getElem?_eq_none hx] at hv;cases hv
     have:=h4 j hj
     rw [hv,he1] at this
     rw [←this]
     show w.cell? _=w.cell? (((mkA b q).add (i * sz)).add j)
     rw [xu,xu]
   have:=VRel.ro (rd:=zcm w) (φ:=zet) sz (l.map E) b q cap (fun i j=>(w.cell? (mkA b (q+i * sz+j))).getD undef) (by simp;omega)
    (fun i j c hc=>(hcell i j c hc).1)
    (fun i j c hc=>by obtain ⟨-,v,hv,-⟩:=hcell i j c hc;simp only [zcm];rw [hv];rfl)
    (fun i j c hc=>by obtain ⟨-,v,hv,hr⟩:=hcell i j c hc;rw [hv];exact hr)
   rw [List.length_map,hll] at this
   exact this
def zhh (P:Program) (fl:List (Nat × Nat)) (o sz:Nat) {α:Type} (E:α→List AV) (Wf:α→Prop):Prop:=
 (∀a,(E a).length=sz∧∀c∈E a,sfc c=true)∧
  ∀(H:Type) (enc:TypeId × Value→H) (w:World) (n:Nat) (cs:List Value) (xs:List (DataW H × List MemPlace)),
   (∀(i:Nat) (f:Nat × Nat),fl[i]?=some f→DataW.trod enc P w 0 (fun _=>true) true n f.1 ((cs.drop f.2).take (P.cellsOf f.1))=xs[i]?)→xs.length=fl.length→cs.length=o+sz→∃a,Wf a∧PW (zcm w) zet (E a) (cs.drop o)
theorem zoR {P:Program} {o:Nat}:zhh P [] o 0 (fun _:Unit=>[]) (fun _=>True):=
 ⟨fun a=>⟨rfl,by simp⟩,fun H enc w n cs xs _ _ hl=>⟨(),trivial,by rw [List.drop_eq_nil_of_le (by omega)];exact PW.nil⟩⟩
theorem znr {P:Program} {t:TypeId} {fl:List (Nat × Nat)} {o s1 s2:Nat} {α β:Type} {E1:α→List AV} {W1:α→Prop} {E2:β→List AV} {W2:β→Prop} (h1:OpensC P t s1 E1 W1) (h2:zhh P fl (o+s1) s2 E2 W2):
  zhh P ((t,o)::fl) o (s1+s2) (fun x:α × β=>E1 x.1++E2 x.2) (fun x=>W1 x.1∧W2 x.2):=by
 obtain ⟨a1,a2,a3⟩:=h1
 obtain ⟨b1,b2⟩:=h2
 refine ⟨fun x=>⟨by rw [List.length_append,(a2 x.1).1,(b1 x.2).1],fun c hc=>?_⟩,fun H enc w n cs xs hx hl hcs=>?_⟩
 ·rcases List.mem_append.1 hc with hc | hc
  ·exact (a2 _).2 c hc
  ·exact (b1 _).2 c hc
 ·cases xs with
  | nil=>simp at hl
  | cons x xs=>
   obtain ⟨a,ha,hpa⟩:=a3 H enc w n _ _ (hx 0 (t,o) rfl)
   obtain ⟨b,hb,hpb⟩:=b2 H enc w n cs xs (fun i f hf=>by simpa using hx (i+1) f (by simpa using hf)) (by simpa using hl) (by omega)
   refine ⟨(a,b),⟨ha,hb⟩,?_⟩
   have:=hpa.append hpb
   rw [a1,←List.drop_drop,List.take_append_drop] at this
   exact this
theorem zmj {P:Program} {t:TypeId} {fs:Array Field} {fl:List (Nat × Nat)} {sz:Nat} {α:Type} {E:α→List AV} {Wf:α→Prop} (ht:P.underlying t=some (.struct fs)) (hs:P.cellsOf t=sz)
  (hf:fs.toList.map (fun f=>(f.type,f.offset))=fl) (h:zhh P fl 0 sz E Wf):OpensC P t sz E Wf:=by
 obtain ⟨b1,b2⟩:=h
 refine ⟨hs,b1,fun H enc w fuel cs x hx=>?_⟩
 obtain ⟨xs,n,rfl,rfl,hl,hn,hi⟩:=DataW.trod_struct ht hx
 subst hf
 have:=b2 H enc w n cs xs (fun i f hf=>by
  rw [List.getElem?_map] at hf
  obtain ⟨f',hf',rfl⟩:=Option.map_eq_some_iff.1 hf
  exact hi i f' (by simpa using hf')) (by simp [hn]) (by omega)
 simpa using this
theorem OpensC.map {P:Program} {t:TypeId} {sz:Nat} {α β:Type} {E:α→List AV} {Wf:α→Prop} (h:OpensC P t sz E Wf) (g:α→β) (F:β→List AV) (Wg:β→Prop) (hF:∀b,(F b).length=sz∧∀c∈F b,sfc c=true)
  (hE:∀a,F (g a)=E a) (hW:∀a,Wf a→Wg (g a)):OpensC P t sz F Wg:=
 ⟨h.1,hF,fun H enc w fuel cs x hx=>by obtain ⟨a,ha,hp⟩:=h.2.2 H enc w fuel cs x hx;exact ⟨g a,hW a ha,by rw [hE];exact hp⟩⟩
theorem open_agg {P:Program} {t:TypeId} {sz:Nat} {α:Type} {E:α→List AV} {Wf:α→Prop} (h:OpensC P t sz E Wf) {H:Type} {enc:TypeId × Value→H} {W:World} {arr:Array Value} {d:DataW H} {ps:List MemPlace}
  (hd:DataW.Trod enc P W 0 (fun _=>true) true t (.agg arr) d ps):∃a,Wf a∧VRel (zcm W) zet (.agg (E a)) (.agg arr):=by
 obtain ⟨fuel,hf⟩:=hd
 obtain ⟨a,ha,hp⟩:=h.2.2 _ _ _ _ _ _ hf
 exact ⟨a,ha,PW.agg hp⟩
theorem zjg {P:Program} {t:TypeId} {α:Type} {E:α→AV} {Wf:α→Prop} (h:OpensC P t 1 (fun a=>[E a]) Wf) {H:Type} {enc:TypeId × Value→H} {W:World} {v:Value} (hv:v.cells=#[v]) {d:DataW H} {ps:List MemPlace}
  (hd:DataW.Trod enc P W 0 (fun _=>true) true t v d ps):∃a,Wf a∧VRel (zcm W) zet (E a) v:=by
 obtain ⟨fuel,hf⟩:=hd
 rw [hv] at hf
 obtain ⟨a,ha,hp⟩:=h.2.2 _ _ _ _ _ _ hf
 obtain ⟨u,us,e1,e2,-⟩:=hp.uncons
 simp only [List.cons.injEq] at e1
 exact ⟨a,ha,e1.1▸e2⟩
theorem zlS {P:Program} {n:Nat} {args:List AV} {b:Bool} (h:CallR P n args (.sc (.bool b)) []) {W:World} {cargs:Array Value} (hp:PW (zcm W) zet args cargs.toList):
  Calls P n cargs W fun e W'=>e=.returned (.bool b)∧Below W.heap.size W W':=by
 refine (h.2 W (zcm W) cargs (fun _ _ _ h=>h) hp).mono ?_
 rintro e W' ⟨v,rd',ψ,rfl,_,hh,hv⟩
 rw [zT hv]
 exact ⟨rfl,hh.os,hh.tape,hh.output,hh.size,fun k hk=>hh.frame k hk (fun h=>h)⟩
theorem zoF {α:Type} (l:List α):Array.mk l=l.toArray:=rfl
theorem zpI {n:Nat} {h:n<2 ^ 8}:UInt8.ofBitVec (BitVec.ofFin ⟨n,h⟩)=UInt8.ofNat n:=by
 apply UInt8.toNat_inj.1
 simp only [UInt8.toNat_ofNat']
 exact (Nat.mod_eq_of_lt h).symm
attribute [go_sem] zoF zpI
attribute [go_sem_proc] Nat.reduceBEq Nat.reduceAdd Nat.reduceSub Nat.reduceMul Nat.reduceMod Nat.reduceDiv Nat.reduceLT Nat.reduceLeDiff Int.reduceEq Int.reduceLT Int.reduceLE Int.reduceToNat Int.reduceBNe Int.reduceBEq Int.reduceOfNat Int.reduceNegSucc UInt8.reduceOfNat reduceCtorEq
end Go.Proofs.YtpjpkmhaffmbmaaGreat.E
end
section
namespace Go.Proofs.YtpjpkmhaffmbmaaGreat.E
open Go Go.RowKit
set_option linter.unusedVariables false
def noOr:DT→Bool
 | .nil=>true
 | .pu _ t=>noOr t
 | .ef _ _ t=>noOr t
 | .or _ _=>false
def smp:SC J→Bool
 | .skip | .ret | .exit _ | .reg _=>true
 | .seq a b=>smp a&&smp b
 | .sq _ a b=>smp a&&smp b
 | .ct a b=>smp a&&smp b
 | .cond _ x y=>smp x&&smp y
 | .block _ c=>smp c
 | .loop c=>smp c
 | .lp _ c=>smp c
 | .dr t _ _ _=>noOr t
 | .rng ..=>false
 | .bad=>false
def At (e:Exit) (s:St):Exit→St→Prop:=fun e1 s1=>e1=e∧s1=s
section
variable {P:Program}
theorem zdl {s:St} {d:Option Nat} {v:AV} {σ:Sig} {b:Bool} {K:St→Prop} (h:put s d v σ b K):∃s',K s'∧put s d v σ b (·=s'):=by
 unfold put at h ⊢
 cases d with
 | none=>exact ⟨_,h,rfl⟩
 | some d=>
  simp only at h ⊢
  split at h
  ·rename_i hb
   exact ⟨_,h,rfl⟩
  ·cases h
theorem zgz {o:SO} {s:St} {K:St→Prop} (h:zmd P o s K):∃s',K s'∧zmd P o s (·=s'):=by
 obtain ⟨v,σ',b,h1,h2⟩:=h
 obtain ⟨s',k1,k2⟩:=zdl h2
 exact ⟨s',k1,v,σ',b,h1,k2⟩
theorem zcD {o:SO} {s:St} {K:St→Prop} (h:qM P o s K):∃s',K s'∧qM P o s (·=s'):=by
 unfold qM at h ⊢
 split at h
 ·exact zgz h
 ·rename_i t w hg
  unfold sG at h ⊢
  split at h
  ·rename_i b hb
   cases b<;>cases w<;>simp only [qL,xA] at h ⊢<;>first | exact zgz h | exact zdl h
  ·exact zdl h
  ·cases h
theorem zgy:∀{l:List SO} {s:St} {K:St→Prop},zmc P l s K→∃s',K s'∧zmc P l s (·=s')
 | [],s,K,h=>⟨s,h,rfl⟩
 | o::l,s,K,h=>by
  obtain ⟨s1,k1,h1⟩:=zcD h
  obtain ⟨s2,k2,h2⟩:=zgy k1
  exact ⟨s2,k2,ym (fun s hs=>by subst hs;exact h2) h1⟩
theorem ziO {o:SO} {s:St} {K:St→Prop} (h:zfy P o s K):∃s',K s'∧zfy P o s (·=s'):=by
 obtain ⟨v,h1,h2⟩:=zo h
 obtain ⟨s',k1,k2⟩:=zdl h2
 exact ⟨s',k1,zz h1 k2⟩
theorem ziN {l:List SO}:∀{t:DT} {s:St} {K:St→Prop},noOr t=true→sT P l t s K→∃s',K s'∧sT P l t s (·=s')
 | .nil,s,K,_,h=>⟨s,h,rfl⟩
 | .pu i t,s,K,hn,h=>by
  unfold sT at h ⊢
  split at h
  ·cases h
  ·rename_i o ho
   obtain ⟨s1,k1,h1⟩:=ziO h.2
   obtain ⟨s2,k2,h2⟩:=ziN (t:=t) hn k1
   exact ⟨s2,k2,h.1,jk (fun s hs=>by subst hs;exact h2) h1⟩
 | .ef i rc t,s,K,hn,h=>by
  unfold sT at h ⊢
  split at h
  ·cases h
  ·rename_i o ho
   obtain ⟨s1,k1,h1⟩:=zcD h
   obtain ⟨s2,k2,h2⟩:=ziN (t:=t) hn k1.2
   exact ⟨s2,k2,ym (fun s hs=>by subst hs;exact ⟨k1.1,h2⟩) h1⟩
 | .or a b,s,K,hn,h=>by cases hn
theorem zY:∀{c:SC SO} {s:St} {Q Q':Exit→St→Prop},(∀e s,Q e s→Q' e s)→sv P c s Q→sv P c s Q'
 | .skip,s,Q,Q',h,hk=>h _ _ hk
 | .ret,s,Q,Q',h,hk=>h _ _ hk
 | .exit id,s,Q,Q',h,hk=>h _ _ hk
 | .seq a b,s,Q,Q',h,hk=>by
  rcases hk with hk | hk
  ·exact .inl (zY (fun e s hs=>by
    cases e with
    | normal=>obtain ⟨s'',hw,hs⟩:=hs;exact ⟨s'',hw,zY h hs⟩
    | _=>exact h _ _ hs) hk)
  ·exact .inr fun c hc=>(hk c hc).mono h
 | .sq ks a b,s,Q,Q',h,hk=>zY (c:=a) (fun e s hs=>by
   cases e with
   | normal=>obtain ⟨s'',hw,hs⟩:=hs;exact ⟨s'',hw,zY h hs⟩
   | _=>exact h _ _ hs) hk
 | .ct a b,s,Q,Q',h,hk=>zY (c:=a) (fun e s hs=>by
   cases e with
   | normal=>obtain ⟨s'',hw,hs⟩:=hs;exact ⟨s'',hw,zY h hs⟩
   | _=>exact h _ _ hs) hk
 | .cond c x y,s,Q,Q',h,hk=>by
  simp only [sv] at hk ⊢
  split at hk
  ·rename_i b hb
   cases b with
   | true=>exact zY h hk
   | false=>exact zY h hk
  ·cases hk
 | .block id c,s,Q,Q',h,hk=>zY (c:=c) (fun e s hs=>by
   cases e with
   | exit id'=>
    simp only [yz] at hs ⊢
    split at hs<;>exact h _ _ hs
   | _=>exact h _ _ hs) hk
 | .loop c,s,Q,Q',h,hk=>by
  obtain ⟨I,n,s1,h1,h2,h3⟩:=hk
  exact ⟨I,n,s1,h1,h2,fun m s2 hI=>zY (c:=c) (fun e s hs=>by
   cases e with
   | normal=>exact hs
   | _=>exact h _ _ hs) (h3 m s2 hI)⟩
 | .lp _ c,s,Q,Q',h,hk=>by
  obtain ⟨I,n,s1,h1,h2,h3⟩:=hk
  exact ⟨I,n,s1,h1,h2,fun m s2 hI=>zY (c:=c) (fun e s hs=>by
   cases e with
   | normal=>exact hs
   | _=>exact h _ _ hs) (h3 m s2 hI)⟩
 | .reg l,s,Q,Q',h,hk=>zbl (fun s hs=>h _ _ hs) hk
 | .dr t anc l af,s,Q,Q',h,hk=>by
  obtain ⟨h1,t',anc',h2,h3⟩:=hk
  exact ⟨h1,t',anc',h2,jM (fun s hs=>h _ _ hs) h3⟩
 | .rng ..,_,_,_,_,hk=>by cases hk
 | .bad,_,_,_,_,hk=>by cases hk
theorem zfv {a b:SC SO} {s:St} {Q:Exit→St→Prop} {e1:Exit} {s1:St} (h1:sv P a s (At e1 s1)) (hq:yD Q (fun s'=>∃s'',Weak s' s''∧∃e s2,Q e s2∧sv P b s'' (At e s2)) e1 s1):
  ∃e s2,Q e s2∧sv P a s (yD (At e s2) fun s'=>∃s'',Weak s' s''∧sv P b s'' (At e s2)):=by
 cases e1 with
 | normal=>
  obtain ⟨s'',hw,e,s2,hQ,h2⟩:=hq
  refine ⟨e,s2,hQ,zY (fun e' s' hs=>?_) h1⟩
  obtain ⟨rfl,rfl⟩:=hs
  exact ⟨s'',hw,h2⟩
 | ret=>exact ⟨_,_,hq,zY (fun e' s' hs=>by obtain ⟨rfl,rfl⟩:=hs;exact ⟨rfl,rfl⟩) h1⟩
 | exit id=>exact ⟨_,_,hq,zY (fun e' s' hs=>by obtain ⟨rfl,rfl⟩:=hs;exact ⟨rfl,rfl⟩) h1⟩
 | _=>exact ⟨_,_,hq,zY (fun e' s' hs=>by obtain ⟨rfl,rfl⟩:=hs;exact ⟨rfl,rfl⟩) h1⟩
theorem zgT {c:SC SO} {Q:Exit→St→Prop} {I:Nat→St→Prop} (h:∀m s2,I m s2→∃e s',yD Q (fun s3=>∃m' s4,m'<m∧Weak s3 s4∧I m' s4) e s'∧sv P c s2 (At e s')):
  ∀m s2,I m s2→∃e s',Q e s'∧∃(J:Nat→St→Prop) (n:Nat),J n s2∧∀k s,J k s→sv P c s (yD (At e s') fun s3=>∃m' s4,m'<k∧Weak s3 s4∧J m' s4):=by
 intro m
 induction m using Nat.strongRecOn with
 | _ m ih=>
  intro s2 hI
  obtain ⟨e1,s1,hq,h1⟩:=h m s2 hI
  have stop:∀{e1:Exit} {s1:St},e1≠.normal→Q e1 s1→sv P c s2 (At e1 s1)→∃e s',Q e s'∧∃(J:Nat→St→Prop) (n:Nat),J n s2∧∀k s,J k s→sv P c s (yD (At e s') fun s3=>∃m' s4,m'<k∧Weak s3 s4∧J m' s4):=by
   intro e1 s1 hne hQ h1
   refine ⟨e1,s1,hQ,fun k s=>s=s2,0,rfl,fun k s hs=>?_⟩
   subst hs
   refine zY (fun e' s' hs=>?_) h1
   obtain ⟨rfl,rfl⟩:=hs
   cases e' with
   | normal=>exact absurd rfl hne
   | _=>exact ⟨rfl,rfl⟩
  cases e1 with
  | normal=>
   obtain ⟨m',s4,hlt,hw,hI4⟩:=hq
   obtain ⟨e,s',hQ,J,n,hJ,hstep⟩:=ih m' hlt s4 hI4
   refine ⟨e,s',hQ,fun k s=>(k=n+1∧s=s2)∨J k s,n+1,.inl ⟨rfl,rfl⟩,fun k s hs=>?_⟩
   rcases hs with ⟨rfl,rfl⟩ | hs
   ·refine zY (fun e' s' hs=>?_) h1
    obtain ⟨rfl,rfl⟩:=hs
    exact ⟨n,s4,by omega,hw,.inr hJ⟩
   ·refine zY (fun e' s' hs=>?_) (hstep k s hs)
    cases e' with
    | normal=>obtain ⟨m',s4,h1,h2,h3⟩:=hs;exact ⟨m',s4,h1,h2,.inr h3⟩
    | _=>exact hs
  | ret=>exact stop (by simp) hq h1
  | exit id=>exact stop (by simp) hq h1
  | _=>exact stop (by simp) hq h1
theorem qN (hf:P.follows .mixedOrders=true):∀(c:SC J) {s:St} {Q:Exit→St→Prop},zdK c=true→smp c=true→jv P c s Q→∃e s',Q e s'∧sv P (exC c) s (At e s')
 | .skip,s,Q,_,_,h=>⟨.normal,s,h,rfl,rfl⟩
 | .ret,s,Q,_,_,h=>⟨.ret,s,h,rfl,rfl⟩
 | .exit id,s,Q,_,_,h=>⟨.exit id,s,h,rfl,rfl⟩
 | .seq a b,s,Q,hd,hs,h=>by
  simp only [smp,Bool.and_eq_true] at hs
  obtain ⟨e1,s1,hq,h1⟩:=qN hf a (Bool.and_eq_true_iff.1 hd).1 hs.1 h
  obtain ⟨e,s2,hQ,h2⟩:=zfv (b:=exC b) (Q:=Q) h1 (by
   cases e1 with
   | normal=>exact ⟨s1,.refl s1,qN hf b (Bool.and_eq_true_iff.1 hd).2 hs.2 hq⟩
   | _=>exact hq)
  exact ⟨e,s2,hQ,.inl h2⟩
 | .sq ks a b,s,Q,hd,hs,h=>by
  simp only [smp,Bool.and_eq_true] at hs
  obtain ⟨e1,s1,hq,h1⟩:=qN hf a (Bool.and_eq_true_iff.1 hd).1 hs.1 h
  obtain ⟨e,s2,hQ,h2⟩:=zfv (b:=exC b) (Q:=Q) h1 (by
   cases e1 with
   | normal=>exact ⟨_,.keep ks s1,qN hf b (Bool.and_eq_true_iff.1 hd).2 hs.2 hq⟩
   | _=>exact hq)
  exact ⟨e,s2,hQ,.inl h2⟩
 | .ct a b,s,Q,hd,hs,h=>by
  simp only [smp,Bool.and_eq_true] at hs
  obtain ⟨e1,s1,hq,h1⟩:=qN hf a (Bool.and_eq_true_iff.1 hd).1 hs.1 h
  obtain ⟨e,s2,hQ,h2⟩:=zfv (b:=exC b) (Q:=Q) h1 (by
   cases e1 with
   | normal=>obtain ⟨s'',hw,hb⟩:=hq;exact ⟨s'',hw,qN hf b (Bool.and_eq_true_iff.1 hd).2 hs.2 hb⟩
   | _=>exact hq)
  exact ⟨e,s2,hQ,.inl h2⟩
 | .cond c x y,⟨n,tm,σ,G⟩,Q,hd,hs,h=>by
  simp only [smp,Bool.and_eq_true] at hs
  simp only [jv] at h
  simp only [exC,sv,zeP]
  split at h
  ·rename_i b hb
   cases b with
   | true=>exact qN hf x (Bool.and_eq_true_iff.1 hd).1 hs.1 h
   | false=>exact qN hf y (Bool.and_eq_true_iff.1 hd).2 hs.2 h
  ·cases h
 | .block id c,s,Q,hd,hs,h=>by
  obtain ⟨e1,s1,hq,h1⟩:=qN hf c (Q:=yz id Q) hd hs h
  cases e1 with
  | exit id'=>
   simp only [yz] at hq
   split at hq
   ·rename_i hid
    refine ⟨_,_,hq,zY (c:=exC c) (fun e' s' hs=>?_) h1⟩
    obtain ⟨rfl,rfl⟩:=hs
    simp only [yz]
    rw [hid]
    exact ⟨rfl,rfl⟩
   ·rename_i hid
    refine ⟨_,_,hq,zY (c:=exC c) (fun e' s' hs=>?_) h1⟩
    obtain ⟨rfl,rfl⟩:=hs
    simp only [yz]
    rw [hid]
    exact ⟨rfl,rfl⟩
  | normal=>exact ⟨_,_,hq,zY (c:=exC c) (fun e' s' hs=>by obtain ⟨rfl,rfl⟩:=hs;exact ⟨rfl,rfl⟩) h1⟩
  | ret=>exact ⟨_,_,hq,zY (c:=exC c) (fun e' s' hs=>by obtain ⟨rfl,rfl⟩:=hs;exact ⟨rfl,rfl⟩) h1⟩
  | _=>exact ⟨_,_,hq,zY (c:=exC c) (fun e' s' hs=>by obtain ⟨rfl,rfl⟩:=hs;exact ⟨rfl,rfl⟩) h1⟩
 | .loop c,s,Q,hd,hs,h=>by
  obtain ⟨I,n,s1,h1,h2,h3⟩:=h
  obtain ⟨e,s',hQ,J,k,hJ,hstep⟩:=zgT (fun m s2 hI=>qN hf c hd hs (h3 m s2 hI)) n s1 h2
  exact ⟨e,s',hQ,J,k,s1,h1,hJ,hstep⟩
 | .lp ks c,s,Q,hd,hs,h=>by
  obtain ⟨I,n,s1,h1,h2,h3⟩:=h
  obtain ⟨e,s',hQ,J,k,hJ,hstep⟩:=zgT (fun m s2 hI=>qN hf c hd hs (h3 m s2 hI)) n s1 h2
  exact ⟨e,s',hQ,J,k,s1,h1,hJ,hstep⟩
 | .reg l,s,Q,_,_,h=>by
  obtain ⟨s',k1,k2⟩:=zgy (jc l s _ h)
  exact ⟨.normal,s',k1,zbl (fun s hs=>⟨rfl,hs⟩) k2⟩
 | .dr t anc l af,s,Q,hd,hs,h=>by
  obtain ⟨s',k1,k2⟩:=ziN hs (zeG l t s _ h)
  exact ⟨.normal,s',k1,hf,t,anc,hd,jM (fun s hs=>⟨rfl,hs⟩) k2⟩
 | .rng ..,_,_,_,hs,_=>by cases hs
 | .bad,_,_,_,hs,_=>by cases hs
def zoO (P:Program) (rs:List ResultVar) (wP:AV→Sig→Prop):Exit→St→Prop
 | .ret,s=>∃res σout,wP res σout∧zfe P rs s res σout
 | .normal,s=>∃res σout,wP res σout∧zfe P rs s res σout
 | _,_=>False
theorem retX_ret {rs:List ResultVar} {wP:AV→Sig→Prop} {s:St}:zoO P rs wP .ret s=∃res σout,wP res σout∧zfe P rs s res σout:=rfl
theorem zni {rs:List ResultVar} {wP:AV→Sig→Prop} {s:St}:zoO P rs wP .normal s=∃res σout,wP res σout∧zfe P rs s res σout:=rfl
theorem zf9 {n:Nat} {c:SC J} {N:Nat} {rs:List ResultVar} (hb:zhi P n c N rs) (hc:smp c=true)
  {σin:Sig} {args:List AV} (wP:AV→Sig→Prop) (hlen:Nat.ble args.length N=true) (hv:jv P c ⟨N,wF 0 args,σin,1⟩ (zoO P rs wP)):∃res σout,wP res σout∧zS P n σin args res σout:=by
 obtain ⟨fn,hf,hb,hn,rfl,rfl,hfo,hd⟩:=hb
 cases hbody:fn.body with
 | none=>rw [hbody] at hb;cases hb
 | some code=>
  rw [hbody] at hb
  have e:yZ code=exC c:=Option.some.inj hb
  obtain ⟨e1,s1,hq,h1⟩:=qN hfo c hd hc hv
  have key:∀{res σout},zfe P fn.results.toList s1 res σout→(e1=.ret∨e1=.normal)→zS P n σin args res σout:=by
   intro res σout hr he
   refine zb4 hf hbody hn (Nat.le_of_ble_eq_true hlen) (zcl code (fun _ _ h=>h) (e▸zY (fun e' s' hs=>?_) h1))
   obtain ⟨rfl,rfl⟩:=hs
   rcases he with rfl | rfl<;>exact hr
  cases e1 with
  | ret=>obtain ⟨res,σout,hp,hr⟩:=hq;exact ⟨res,σout,hp,key hr (.inl rfl)⟩
  | normal=>obtain ⟨res,σout,hp,hr⟩:=hq;exact ⟨res,σout,hp,key hr (.inr rfl)⟩
  | _=>cases hq
end
theorem jvX {P:Program} {n:Nat} {c:SC J} (fn:Func) (N:Nat) (rs:List ResultVar) (wP:AV→Sig→Prop) {σin:Sig} {args:List AV}
  (h:(P.funcs[n]?,fn.body.map yZ,fn.name== "runtime.NumGoroutine",fn.ntmps,fn.results.toList,P.follows .mixedOrders)=(some fn,some (exC c),false,N,rs,true)) (hd:zdK c=true) (hs:smp c=true) (hlen:Nat.ble args.length N=true)
  (hv:jv P c ⟨N,wF 0 args,σin,1⟩ (zoO P rs wP)):Use c (∃res σout,wP res σout∧zS P n σin args res σout):=zf9 (zb7 h hd) hs wP hlen hv
def RetAt (P:Program) (rs:List ResultVar) (wP:AV→Sig→Prop) (s:St):Prop:=∃res σout,wP res σout∧zfe P rs s res σout
theorem ziR {P:Program} {rs:List ResultVar} {wP:AV→Sig→Prop} {s:St}:zoO P rs wP .ret s=RetAt P rs wP s:=rfl
theorem zeg {P:Program} {rs:List ResultVar} {wP:AV→Sig→Prop} {s:St}:zoO P rs wP .normal s=RetAt P rs wP s:=rfl
theorem RetAt.intro {P:Program} {rs:List ResultVar} {wP:AV→Sig→Prop} {s:St} (res:AV) (σout:Sig) (h:wP res σout) (k:zfe P rs s res σout):RetAt P rs wP s:=⟨res,σout,h,k⟩
attribute [go_sem] ziR zeg
def MK (ks:List Nat) (us:List (Nat × Nat)) (M:St→Prop) (s:St):Prop:=M (zaf ks (nilN us s))
theorem MK_eq {ks:List Nat} {us:List (Nat × Nat)} {M:St→Prop} {n G:Nat} {tm:List (Nat × AV)} {σ:Sig}:MK ks us M ⟨n,tm,σ,G⟩=M (zaf ks (nilN us ⟨n,tm,σ,G⟩)):=rfl
theorem zX {P:Program} {a b:SC J} {s:St} {Q:Exit→St→Prop} (ks:List Nat) (us:List (Nat × Nat)) (M:St→Prop) (h1:jv P a s (yD Q (MK ks us M))) (h2:∀s',M s'→jv P b s' Q):jv P (.ct a b) s Q:=
 yC a (fun e s hs=>by
  cases e with
  | normal=>exact ⟨_,(Weak.nilN us s).trans (.head ks _),h2 _ hs⟩
  | _=>exact hs) h1
attribute [go_sem] MK_eq
end Go.Proofs.YtpjpkmhaffmbmaaGreat.E
end
