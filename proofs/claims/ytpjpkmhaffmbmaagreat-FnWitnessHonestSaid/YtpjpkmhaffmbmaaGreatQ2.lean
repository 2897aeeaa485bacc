/- An evaluator of the model's code, proved sound (E3): I J U K L R. -/
import Derived.Test.YtpjpkmhaffmbmaaGreatQ1
import Derived.ChangeArms
import Derived.SizedLaws
import Derived.ProofKit
import Derived.OpenShut
section
namespace Go.Proofs.YtpjpkmhaffmbmaaGreat.E
open Go Go.RowKit
set_option linter.unusedVariables false
def Norm (Q:Exit→St→Prop) (s:St):Prop:=Q .normal s
theorem zpy {Q:Exit→St→Prop} {n:Nat} {tm:List (Nat × AV)} {σ:Sig} {G:Nat}:Norm Q ⟨n,tm,σ,G⟩=Q .normal ⟨n,tm,σ,G⟩:=rfl
theorem zpo {α β:Type} {x x':Option α} {f:α→Option β} (h:x=x'):x.bind f=x'.bind f:=by rw [h]
theorem zpL {α β:Type} {x x':Option α} {f:α→β} (h:x=x'):x.map f=x'.map f:=by rw [h]
theorem znZ {len:Nat} {es:List (List AV)} (h:es.length=len):sub 0 len es=es:=by unfold sub;rw [List.drop_zero,←h,List.take_length]
theorem zho {α:Type} {a b:Nat} {x:Option α} (h:a≤b):ziJ a b x=x:=by unfold ziJ;rw [Nat.ble_eq_true_of_le h]
end Go.Proofs.YtpjpkmhaffmbmaaGreat.E
end
section
namespace Go.Proofs.YtpjpkmhaffmbmaaGreat.E
open Go Go.RowKit
set_option linter.unusedVariables false
structure SO where
 d:Option Nat
 o:Op
 g:Option (Nat × Bool)
inductive SC (α:Type) where
 | skip
 | ret
 | exit (id:Nat)
 | seq (a b:SC α)
 | sq (ks:List Nat) (a b:SC α)
 | ct (a b:SC α)
 | cond (c:Operand) (x y:SC α)
 | block (id:Nat) (c:SC α)
 | loop (c:SC α)
 | lp (ks:List Nat) (c:SC α)
 | reg (l:List α)
 | dr (t:DT) (anc:List (List Nat)) (l:List α) (af:List (List Nat))
 | rng (id:Nat) (l:List α) (it ty:Nat) (x:Operand) (tn tb:Nat) (b:SC α)
 | bad
def so (ops:Array Oper) (o:Oper):SO:=match o.guard with
 | none=>⟨o.dst,o.op,none⟩
 | some (j,want)=>match xt ops j with
  | some t=>⟨o.dst,o.op,some (t,want)⟩
  | none=>⟨o.dst,.panic (.const (.bool true)),none⟩
def soL (ops:Array Oper):List Oper→List SO
 | []=>[]
 | o::os=>so ops o::soL ops os
def xh:Code→SC SO
 | .skip=>.skip
 | .ret=>.ret
 | .exit id=>.exit id
 | .seq a b=>.seq (xh a) (xh b)
 | .cond c x y=>.cond c (xh x) (xh y)
 | .block id c=>.block id (xh c)
 | .loop c=>.loop (xh c)
 | .region _ ops false=>.reg (soL ops ops.toList)
 | .region _ ops true=>.dr .nil [] (soL ops ops.toList) (ops.toList.map zfJ)
 | _=>.bad
def zmT (P:Program) (o:SO) (s:St) (K:St→Prop):Prop:=∃v σ' b,CanO P (o.d.getD 0) o.o (ev s) s.σ s.G v σ' b∧put s o.d v σ' b K
def sG (s:St) (d:Option Nat) (t:Nat) (w:Bool) (X:Prop) (K:St→Prop):Prop:=match zz s.tm t with
 | some (.sc (.bool b))=>Br b (Br w X (put s d (.tup []) s.σ false K)) (Br w (put s d (.tup []) s.σ false K) X)
 | some (.tup [])=>put s d (.tup []) s.σ false K
 | _=>False
def qX (P:Program) (o:SO) (s:St) (K:St→Prop):Prop:=
 match o.g with
 | none=>zmT P o s K
 | some (t,w)=>sG s o.d t w (zmT P o s K) K
def zmS (P:Program):List SO→St→(St→Prop)→Prop
 | [],s,Q=>Q s
 | o::os,s,Q=>qX P o s fun s'=>zmS P os s' Q
def zqt:Operand→Option Nat
 | .tmp t=>some t
 | _=>none
def wQ (o:SO):List Nat:=(o.o.operands.toList.filterMap zqt)++(match o.g with
 | some (t,_)=>[t]
 | none=>[])
def zbM (o:SO):Bool:=match o.o with
 | .panic _=>false
 | _=>true
def zk8 (x y:SO):Bool:=zbM x&&zbM y&&
 (match x.d with
  | some d=>!(wQ y).contains d&&y.d != some d
  | none=>true)&&
 (match y.d with
  | some d=>!(wQ x).contains d
  | none=>true)
def sV (P:Program) (σ:Sig) (e:Operand→AV) (o:SO):Option AV:=match o.g with
 | none=>qq P σ e o.o
 | some (t,w)=>match e (.tmp t) with
  | .sc (.bool b)=>match b==w with
   | true=>qq P σ e o.o
   | false=>some (.tup [])
  | .tup []=>some (.tup [])
  | _=>none
def zfZ (P:Program) (o:SO) (s:St) (K:St→Prop):Prop:=zu (sV P s.σ (ev s) o) fun v=>put s o.d v s.σ false K
def zqz (P:Program) (l:List SO) (rc:List Nat) (s:St) (σ':Sig):Prop:=∀k∈rc,∀x,l[k]?=some x→sV P σ' (ev s) x=sV P s.σ (ev s) x
def sT (P:Program) (l:List SO):DT→St→(St→Prop)→Prop
 | .nil,s,K=>K s
 | .pu i t,s,K=>match l[i]? with
  | none=>False
  | some o=>xk o.o=true∧zfZ P o s fun s'=>sT P l t s' K
 | .ef i rc t,s,K=>match l[i]? with
  | none=>False
  | some o=>qX P o s fun s'=>zqz P l rc s s'.σ∧sT P l t s' K
 | .or a b,s,K=>sT P l a s K∧sT P l b s K
def puB (l:List SO) (anc:List (List Nat)) (i:Nat) (t:DT):Bool:=match l[i]? with
 | none=>false
 | some x=>zbM x&&(match x.d with
   | some d=>!(wQ x).contains d
   | none=>true)&&
  (yl t).all (fun j=>match l[j]? with
   | some o=>zbM o&&(match o.d with
    | some d=>!(wQ x).contains d||(yl t).all fun m=>m==j||(anc.getD j []).contains m
    | none=>true)
   | none=>false)&&
  ((yl t).all fun m=>!(anc.getD i []).contains m)&&
  (yS t).all (fun n=>(anc.getD n.1 []).contains i||(match l[n.1]? with
   | some o=>zk8 x o&&(zkC x.o||(match n.2 with
    | none=>true
    | some rc=>rc.contains i))
   | none=>false))
def zh3 (l:List SO) (anc:List (List Nat)):Bool→DT→Bool
 | _,.nil=>true
 | false,.pu i t=>!(yl t).contains i&&(puB l anc i t&&zh3 l anc false t)
 | true,.pu _ _=>false
 | false,.ef i rc t=>!(yl t).contains i&&((yl t).all (fun j=>(anc.getD j []).contains i)&&zh3 l anc false t)
 | true,.ef i rc t=>!(yl t).contains i&&zh3 l anc false t
 | f,.or a b=>zh3 l anc true a&&(zh3 l anc true b&&((((yl a).all fun i=>(yl b).contains i)&&((yl b).all fun i=>(yl a).contains i))&&(Nat.beq (yl a).length (yl b).length&&
   (f||(yl a).all fun j=>(xf a++xf b).any fun h=>h==j||(anc.getD j []).contains h))))
def chkT (t:DT) (anc:List (List Nat)) (l:List SO) (af:List (List Nat)):Bool:=
 (List.range af.length).all (fun i=>(af.getD i []).all fun k=>Nat.blt k i)&&
 ((List.range anc.length).all (fun i=>(anc.getD i []).all fun k=>(af.getD i []).any fun j=>j==k||(anc.getD j []).contains k)&&
 (l.all zbM&&zh3 l anc false t&&((List.range l.length).all (fun i=>(yl t).contains i)&&((yl t).all (fun i=>Nat.blt i l.length)&&Nat.ble (yl t).length l.length))))
def sv (P:Program):SC SO→St→(Exit→St→Prop)→Prop
 | .skip,s,Q=>Q .normal s
 | .ret,s,Q=>Q .ret s
 | .exit id,s,Q=>Q (.exit id) s
 | .seq a b,s,Q=>sv P a s (yI Q fun s'=>∃s'',Weak s' s''∧sv P b s'' Q)∨∀c:Code,xh c=.seq a b→GoodC P c s Q
 | .sq _ a b,s,Q=>sv P a s (yI Q fun s'=>∃s'',Weak s' s''∧sv P b s'' Q)
 | .ct a b,s,Q=>sv P a s (yI Q fun s'=>∃s'',Weak s' s''∧sv P b s'' Q)
 | .cond c x y,s,Q=>match ev s c with
  | .sc (.bool b)=>Br b (sv P x s Q) (sv P y s Q)
  | _=>False
 | .block id c,s,Q=>sv P c s (yH id Q)
 | .loop c,s,Q=>∃(I:Nat→St→Prop) (n:Nat) (s1:St),Weak s s1∧I n s1∧∀m s2,I m s2→sv P c s2 (yI Q fun s3=>∃m' s4,m'<m∧Weak s3 s4∧I m' s4)
 | .lp _ c,s,Q=>∃(I:Nat→St→Prop) (n:Nat) (s1:St),Weak s s1∧I n s1∧∀m s2,I m s2→sv P c s2 (yI Q fun s3=>∃m' s4,m'<m∧Weak s3 s4∧I m' s4)
 | .reg l,s,Q=>zmS P l s fun s'=>Q .normal s'
 | .dr _ _ l af,s,Q=>P.follows .mixedOrders=true∧∃(t:DT) (anc:List (List Nat)),chkT t anc l af=true∧sT P l t s (Q .normal)
 | .rng ..,_,_=>False
 | .bad,_,_=>False
section
variable {P:Program}
theorem GoodC.mono {c:Code} {s:St} {Q Q':Exit→St→Prop} (h:∀e s,Q e s→Q' e s) (hg:GoodC P c s Q):GoodC P c s Q':=
 fun rd O w0 a w hr=>wp_mono (hg rd O w0 a w hr) fun e a' w' ⟨s',hq,hr'⟩=>⟨s',h _ _ hq,hr'⟩
theorem put_mono {s:St} {d:Option Nat} {v:AV} {σ:Sig} {b:Bool} {K K':St→Prop} (h:∀s,K s→K' s) (hk:put s d v σ b K):put s d v σ b K':=zbN h hk
theorem zeH {o:SO} {s:St} {K K':St→Prop} (h:∀s,K s→K' s) (hk:zmT P o s K):zmT P o s K':=by
 obtain ⟨v,σ',b,h1,h2⟩:=hk
 exact ⟨v,σ',b,h1,zbN h h2⟩
theorem zn1 {s:St} {d:Option Nat} {t:Nat} {w:Bool} {X X':Prop} {K K':St→Prop} (hX:X→X') (h:∀s,K s→K' s) (hk:sG s d t w X K):sG s d t w X' K':=by
 unfold sG at hk ⊢
 split at hk
 ·rename_i b hb
  cases b<;>cases w<;>simp only [qW,xG] at hk ⊢<;>first | exact hX hk | exact zbN h hk
 ·exact zbN h hk
 ·cases hk
theorem yu {o:SO} {s:St} {K K':St→Prop} (h:∀s,K s→K' s) (hk:qX P o s K):qX P o s K':=by
 unfold qX at hk ⊢
 split at hk
 ·exact zeH h hk
 ·exact zn1 (zeH h) h hk
theorem zbK {os:List SO}:∀{s:St} {K K':St→Prop},(∀s,K s→K' s)→zmS P os s K→zmS P os s K':=by
 induction os with
 | nil=>exact fun h hk=>h _ hk
 | cons o os ih=>exact fun h hk=>yu (fun s' hs=>ih h hs) hk
theorem jC {o:SO} {s:St} {K K':St→Prop} (h:∀s,K s→K' s) (hk:zfZ P o s K):zfZ P o s K':=by
 obtain ⟨v,h1,h2⟩:=zq hk
 exact zE h1 (zbN h h2)
theorem wh {l:List SO}:∀{t:DT} {s:St} {K K':St→Prop},(∀s,K s→K' s)→sT P l t s K→sT P l t s K'
 | .nil,s,K,K',h,hk=>h _ hk
 | .pu i t,s,K,K',h,hk=>by
  unfold sT at hk ⊢
  split at hk
  ·cases hk
  ·exact ⟨hk.1,jC (fun s' hs=>wh h hs) hk.2⟩
 | .ef i rc t,s,K,K',h,hk=>by
  unfold sT at hk ⊢
  split at hk
  ·cases hk
  ·exact yu (fun s' hs=>⟨hs.1,wh h hs.2⟩) hk
 | .or a b,s,K,K',h,hk=>⟨wh h hk.1,wh h hk.2⟩
theorem zje {ops:Array Oper} {o:Oper} (hg:o.guard=none):so ops o=⟨o.dst,o.op,none⟩:=by simp [so,hg]
theorem zjd {ops:Array Oper} {o:Oper} {j:Nat} {w:Bool} {t:Nat} (hg:o.guard=some (j,w)) (hs:xt ops j=some t):so ops o=⟨o.dst,o.op,some (t,w)⟩:=by simp [so,hg,hs]
theorem zmR {ops:Array Oper} {o:Oper} {j:Nat} {w:Bool} (hg:o.guard=some (j,w)) (hs:xt ops j=none):so ops o=⟨o.dst,.panic (.const (.bool true)),none⟩:=by simp [so,hg,hs]
theorem zeG {ops:Array Oper} {o:Oper} {s:St} {K:St→Prop} (hk:qX P (so ops o) s K):yn P ops o s K:=by
 unfold yn
 cases hg:o.guard with
 | none=>
  rw [zje hg] at hk
  exact hk
 | some jw=>
  obtain ⟨j,want⟩:=jw
  simp only
  cases hs:xt ops j with
  | none=>
   rw [zmR hg hs] at hk
   obtain ⟨v,σ',b,h1,h2⟩:=hk
   rcases h1 with ⟨h,_⟩ | ⟨h,_⟩ | ⟨_,c,n,h,_⟩ | ⟨h,_⟩ | ⟨_,c,n,x,h,_⟩ | ⟨_,t,h,_⟩ | ⟨_,t,x,k,ok,K,E,r,g,p,f,C,res,zv,h,_⟩ | ⟨_,t,m,k,x,K,E,r,g,p,f,C,ck,cx,h,_⟩
   all_goals cases h
  | some t=>
   rw [zjd hg hs] at hk
   exact hk
theorem zf0 {ops:Array Oper}:∀{os:List Oper} {s:St} {K K':St→Prop},(∀s,K s→K' s)→zmS P (soL ops os) s K→zc4 P ops os s K'
 | [],s,K,K',h,hk=>h _ hk
 | o::os,s,K,K',h,hk=>xc (fun s' hs=>zf0 h hs) (zeG hk)
theorem zjh {ops:Array Oper}:∀(os:List Oper) (i:Nat),(soL ops os)[i]?=(os[i]?).map (so ops)
 | [],i=>by simp [soL]
 | o::os,0=>rfl
 | o::os,i+1=>by simpa [soL] using zjh os i
theorem zjg {ops:Array Oper}:∀(os:List Oper),(soL ops os).length=os.length
 | []=>rfl
 | o::os=>by simp [soL,zjg os]
theorem zhj {op:Op} {t:Nat} (h:t∈op.operands.toList.filterMap fun | .tmp t=>some t | _=>none):t∈op.operands.toList.filterMap zqt:=by
 obtain ⟨a,h1,h2⟩:=List.mem_filterMap.1 h
 refine List.mem_filterMap.2 ⟨a,h1,?_⟩
 cases a with
 | tmp u=>exact h2
 | _=>cases h2
theorem zbH {ops:Array Oper} {o:Oper} (h:zbM (so ops o)=true):(so ops o).o=o.op∧(so ops o).d=o.dst∧∀t∈o.looksAt ops,t∈wQ (so ops o):=by
 unfold so at h ⊢
 cases hg:o.guard with
 | none=>exact ⟨rfl,rfl,fun t ht=>by
   rcases List.mem_append.1 ht with ht | ht
   ·exact List.mem_append_left _ (zhj ht)
   ·simp [hg] at ht⟩
 | some jw=>
  obtain ⟨j,want⟩:=jw
  rw [hg] at h
  simp only at h ⊢
  cases hs:xt ops j with
  | none=>rw [hs] at h;cases h
  | some t'=>
   refine ⟨rfl,rfl,fun t ht=>?_⟩
   have hs':(ops[j]?).bind (·.dst)=some t':=by
    unfold xt at hs
    split at hs
    ·rename_i hx;rw [hx];exact hs
    ·cases hs
   rcases List.mem_append.1 ht with ht | ht
   ·exact List.mem_append_left _ (zhj ht)
   ·simp [hg,hs'] at ht
    exact List.mem_append_right _ (by simp [ht])
theorem zlE {ops:Array Oper} {x y:Oper} (h:zk8 (so ops x) (so ops y)=true):x.apart ops y=true:=by
 unfold zk8 at h
 simp only [Bool.and_eq_true] at h
 obtain ⟨⟨⟨h1,h2⟩,h3⟩,h4⟩:=h
 obtain ⟨a1,a2,a3⟩:=zbH h1
 obtain ⟨b1,b2,b3⟩:=zbH h2
 unfold Oper.apart
 rw [a2,b2] at h3
 rw [b2] at h4
 simp only [Bool.and_eq_true]
 constructor
 ·cases hd:x.dst with
  | none=>rfl
  | some d=>
   rw [hd] at h3
   simp only [Bool.and_eq_true,Bool.not_eq_true'] at h3 ⊢
   refine ⟨?_,h3.2⟩
   cases hc:(y.looksAt ops).contains d with
   | false=>rfl
   | true=>
    have:=b3 d (by simpa using hc)
    have h5:(wQ (so ops y)).contains d=true:=by simpa using this
    rw [h5] at h3
    exact absurd h3.1 (by simp)
 ·cases hd:y.dst with
  | none=>rfl
  | some d=>
   rw [hd] at h4
   simp only [Bool.not_eq_true'] at h4 ⊢
   cases hc:(x.looksAt ops).contains d with
   | false=>rfl
   | true=>
    have:=a3 d (by simpa using hc)
    have h5:(wQ (so ops x)).contains d=true:=by simpa using this
    rw [h5] at h4
    cases h4
theorem zjH {o:SO} (h:xk o.o=true):zbM o=true:=by
 unfold zbM
 split
 ·rename_i he;rw [he] at h;cases h
 ·rfl
theorem zfY {ops:Array Oper} {o:Oper} {σ:Sig} {e:Operand→AV} (hr:zbM (so ops o)=true):sV P σ e (so ops o)=zar P ops σ e o:=by
 unfold zar
 cases hg:o.guard with
 | none=>rw [zje hg];rfl
 | some jw=>
  obtain ⟨j,want⟩:=jw
  simp only
  cases hs:xt ops j with
  | none=>rw [zmR hg hs] at hr;cases hr
  | some t=>rw [zjd hg hs];rfl
theorem zeF {ops:Array Oper} {l:List SO} (hl:∀i:Nat,l[i]?=(ops[i]?).map (so ops)) (hrr:∀(i:Nat) (x:SO),l[i]?=some x→zbM x=true):∀{t:DT} {s:St} {K:St→Prop},sT P l t s K→vcT P ops t s K
 | .nil,s,K,hk=>hk
 | .pu i t,s,K,hk=>by
  unfold sT at hk
  unfold vcT
  rw [hl] at hk
  cases ho:ops[i]? with
  | none=>rw [ho] at hk;cases hk
  | some o=>
   rw [ho] at hk
   simp only [Option.map_some] at hk ⊢
   have hr:=zjH hk.1
   obtain ⟨e1,e2,_⟩:=zbH hr
   refine ⟨e1▸hk.1,?_⟩
   obtain ⟨v,h1,h2⟩:=zq hk.2
   rw [zfY hr] at h1
   rw [e2] at h2
   exact zE h1 (zbN (fun s' hs=>zeF hl hrr hs) h2)
 | .ef i rc t,s,K,hk=>by
  unfold sT at hk
  unfold vcT
  rw [hl] at hk
  cases ho:ops[i]? with
  | none=>rw [ho] at hk;cases hk
  | some o=>
   rw [ho] at hk
   simp only [Option.map_some] at hk ⊢
   refine zeG (yu (fun s' hs=>⟨fun k hkk x hx=>?_,zeF hl hrr hs.2⟩) hk)
   have hlx:l[k]?=some (so ops x):=by rw [hl,hx];rfl
   have:=hs.1 k hkk _ hlx
   rwa [zfY (hrr k _ hlx),zfY (hrr k _ hlx)] at this
 | .or a b,s,K,hk=>⟨zeF hl hrr hk.1,zeF hl hrr hk.2⟩
theorem zlT {ops:Array Oper} {l:List SO} (hl:∀i:Nat,l[i]?=(ops[i]?).map (so ops)) {anc:List (List Nat)} {i:Nat} {t:DT} (h:puB l anc i t=true):PuOK ops (fun i=>anc.getD i []) i t:=by
 unfold puB at h
 rw [hl] at h
 cases hx:ops[i]? with
 | none=>rw [hx] at h;cases h
 | some x=>
  rw [hx] at h
  simp only [Option.map_some,Bool.and_eq_true,List.all_eq_true,Bool.or_eq_true] at h
  obtain ⟨⟨⟨⟨hr,hself⟩,hlook⟩,htopo⟩,hnodes⟩:=h
  obtain ⟨e1,e2,e3⟩:=zbH hr
  have nin:∀{d:Nat},(!(wQ (so ops x)).contains d)=true→d ∉ x.looksAt ops:=by
   intro d hd hin
   have:(wQ (so ops x)).contains d=true:=by simpa using e3 d hin
   rw [this] at hd;cases hd
  refine ⟨⟨x,hx⟩,fun y hy d hd=>?_,fun y hy j hj o ho d hd=>?_,fun m hm hin=>?_,fun y hy n hn o ho=>?_⟩
  ·rw [hx] at hy;cases hy
   rw [e2,hd] at hself
   exact nin hself
  ·rw [hx] at hy;cases hy
   have h1:=hlook j hj
   rw [hl,ho] at h1
   simp only [Option.map_some,Bool.and_eq_true] at h1
   obtain ⟨f1,f2,f3⟩:=zbH h1.1
   have h2:=h1.2
   rw [f2,hd] at h2
   simp only [Bool.or_eq_true,List.all_eq_true,beq_iff_eq] at h2
   rcases h2 with h2 | h2
   ·exact .inl (nin h2)
   ·exact .inr fun m hm=>(h2 m hm).imp id fun e=>by simpa using e
  ·have h1:=htopo m hm
   have:(anc.getD i []).contains m=true:=by simpa using hin
   rw [this] at h1
   cases h1
  ·rw [hx] at hy;cases hy
   rcases hnodes n hn with h1 | h1
   ·exact .inl (by simpa using h1)
   ·right
    rw [hl,ho] at h1
    simp only [Option.map_some,Bool.and_eq_true,Bool.or_eq_true] at h1
    refine ⟨zlE h1.1,?_⟩
    rcases h1.2 with h2 | h2
    ·exact .inl (e1▸h2)
    ·cases hk:n.2 with
     | none=>exact .inr (.inl rfl)
     | some rc=>rw [hk] at h2;exact .inr (.inr ⟨rc,rfl,by simpa using h2⟩)
theorem qr {ops:Array Oper} {l:List SO} (hl:∀i:Nat,l[i]?=(ops[i]?).map (so ops)) {anc:List (List Nat)}:∀{t:DT} {f:Bool},zh3 l anc f t=true→okT ops (fun i=>anc.getD i []) f t
 | .nil,_,_=>by unfold okT;trivial
 | .pu i t,false,h=>by
  simp only [zh3,Bool.and_eq_true,Bool.not_eq_true'] at h
  exact ⟨fun hin=>by have:(yl t).contains i=true:=by simpa using hin
                     rw [this] at h;exact absurd h.1 (by simp),zlT hl h.2.1,qr hl h.2.2⟩
 | .pu i t,true,h=>by cases h
 | .ef i rc t,false,h=>by
  simp only [zh3,Bool.and_eq_true,Bool.not_eq_true',List.all_eq_true] at h
  exact ⟨fun hin=>by have:(yl t).contains i=true:=by simpa using hin
                     rw [this] at h;exact absurd h.1 (by simp),fun j hj=>by simpa using h.2.1 j hj,qr hl h.2.2⟩
 | .ef i rc t,true,h=>by
  simp only [zh3,Bool.and_eq_true,Bool.not_eq_true'] at h
  exact ⟨fun hin=>by have:(yl t).contains i=true:=by simpa using hin
                     rw [this] at h;exact absurd h.1 (by simp),qr hl h.2⟩
 | .or a b,f,h=>by
  have h':zh3 l anc true a=true∧zh3 l anc true b=true∧(((yl a).all fun i=>(yl b).contains i)=true∧((yl b).all fun i=>(yl a).contains i)=true)∧Nat.beq (yl a).length (yl b).length=true∧
    (f=true∨((yl a).all fun j=>(xf a++xf b).any fun h=>h==j||(anc.getD j []).contains h)=true):=by
   cases f<;>simp only [zh3,Bool.and_eq_true,Bool.or_eq_true] at h<;>first | exact h | exact ⟨h.1,h.2.1,h.2.2.1,h.2.2.2.1,.inl rfl⟩
  obtain ⟨h1,h2,⟨h3,h4⟩,h5,h6⟩:=h'
  simp only [List.all_eq_true] at h3 h4
  have key:okT ops (fun i=>anc.getD i []) true a∧okT ops (fun i=>anc.getD i []) true b∧((∀i,i∈yl a↔i∈yl b)∧(yl a).length=(yl b).length)∧(f=false→∀j∈yl a,∃h,(h∈xf a∨h∈xf b)∧(h=j∨h∈anc.getD j [])):=by
   refine ⟨qr hl h1,qr hl h2,⟨fun i=>⟨fun hi=>by simpa using h3 i hi,fun hi=>by simpa using h4 i hi⟩,Nat.eq_of_beq_eq_true h5⟩,fun hf j hj=>?_⟩
   rcases h6 with h6 | h6
   ·rw [hf] at h6;cases h6
   ·simp only [List.all_eq_true,List.any_eq_true,List.mem_append,Bool.or_eq_true,beq_iff_eq] at h6
    obtain ⟨h,hh,hj'⟩:=h6 j hj
    exact ⟨h,hh,hj'.imp id fun e=>by simpa using e⟩
  cases f<;>exact key
theorem zcN:∀(c:Code) {s:St} {Q Q':Exit→St→Prop},(∀e s,Q e s→Q' e s)→sv P (xh c) s Q→vc P c s Q'
 | .skip,s,Q,Q',h,hk=>h _ _ hk
 | .ret,s,Q,Q',h,hk=>h _ _ hk
 | .exit id,s,Q,Q',h,hk=>h _ _ hk
 | .seq a b,s,Q,Q',h,hk=>by
  rcases hk with hk | hk
  case inr=>exact .inr ((hk _ rfl).mono h)
  exact .inl (zcN a (fun e s hs=>by
   cases e with
   | normal=>
    obtain ⟨s'',hw,hs⟩:=hs
    exact ⟨s'',hw,zcN b h hs⟩
   | _=>exact h _ _ hs) hk)
 | .cond c x y,s,Q,Q',h,hk=>by
  simp only [xh,sv] at hk
  simp only [vc]
  split at hk
  ·rename_i b hb
   rw [hb]
   cases b with
   | true=>exact zcN x h hk
   | false=>exact zcN y h hk
  ·cases hk
 | .block id c,s,Q,Q',h,hk=>zcN c (fun e s hs=>by
   cases e with
   | exit id'=>
    simp only [yH] at hs ⊢
    split at hs
    ·rename_i hh;exact h _ _ hs
    ·rename_i hh;exact h _ _ hs
   | _=>exact h _ _ hs) hk
 | .loop c,s,Q,Q',h,hk=>by
  obtain ⟨I,n,s1,h1,h2,h3⟩:=hk
  exact ⟨I,n,s1,h1,h2,fun m s2 hI=>zcN c (fun e s hs=>by
   cases e with
   | normal=>exact hs
   | _=>exact h _ _ hs) (h3 m s2 hI)⟩
 | .region _ ops draw,s,Q,Q',h,hk=>by
  cases draw with
  | false=>exact zf0 (fun s hs=>h _ _ hs) hk
  | true=>
   obtain ⟨hm,t,anc,hc,h5⟩:=hk
   have hll:(soL ops ops.toList).length=ops.size:=by rw [zjg];simp
   have hl:∀i:Nat,(soL ops ops.toList)[i]?=(ops[i]?).map (so ops):=by intro i;rw [zjh];simp
   simp only [chkT,Bool.and_eq_true,List.all_eq_true,List.mem_range,List.any_eq_true,Bool.or_eq_true,beq_iff_eq] at hc
   obtain ⟨h1,h2,⟨h0,h3⟩,h4,h6,h7⟩:=hc
   have hget:∀i:Nat,(ops.toList.map zfJ).getD i []=match ops[i]? with | some o=>zfJ o | none=>[]:=by
    intro i
    rw [List.getD_eq_getElem?_getD,List.getElem?_map]
    have:ops.toList[i]?=ops[i]?:=by simp
    rw [this]
    cases ops[i]?<;>rfl
   refine ⟨hm,t,fun i=>anc.getD i [],⟨fun i o k ho hw=>?_,fun i k hk=>?_⟩,qr hl h3,fun i=>⟨fun hi=>?_,fun hi=>?_⟩,by rw [←hll];exact Nat.le_of_ble_eq_true h7,xC (fun s hs=>h _ _ hs) (zeF hl (fun i x hx=>h0 x (List.mem_of_getElem? hx)) h5)⟩
   ·have hlt:i<(ops.toList.map zfJ).length:=by simpa using (Array.getElem?_eq_some_iff.1 ho).1
    have:=h1 i hlt k (by rw [hget,ho];exact waitL_iff.2 hw)
    exact Nat.le_of_ble_eq_true this
   ·have hlt:i<anc.length:=by
     rcases Nat.lt_or_ge i anc.length with hx | hx
     ·exact hx
     ·simp [List.getD_eq_getElem?_getD,List.getElem?_eq_none hx] at hk
    obtain ⟨j,hj,e⟩:=h2 i hlt k hk
    rw [hget] at hj
    cases ho:ops[i]? with
    | none=>rw [ho] at hj;simp at hj
    | some o=>rw [ho] at hj;exact ⟨o,j,rfl,waitL_iff.1 hj,e.imp id fun e=>by simpa using e⟩
   ·have:=Nat.le_of_ble_eq_true (h6 i hi)
    rw [hll] at this
    exact this
   ·have:=h4 i (by rw [hll];exact hi)
    simpa using this
 | .rangeFunc ..,s,Q,Q',h,hk=>by cases hk
 | .scope _,s,Q,Q',h,hk=>by cases hk
 | .label _,s,Q,Q',h,hk=>by cases hk
 | .goto _,s,Q,Q',h,hk=>by cases hk
 | .refuse _,s,Q,Q',h,hk=>by cases hk
end
inductive I where
 | mv (d:Nat) (x:Operand)
 | as (d:Nat) (x:Operand)
 | pk (d:Nat) (c a b:Operand)
 | al (d t:Nat)
 | bx (d t:Nat) (x:Operand)
 | ld (d t:Nat) (x:Operand)
 | st (t:Nat) (a x:Operand)
 | fa (d t:Nat) (x:Operand) (f:Nat)
 | ex (d:Nat) (x:Operand) (i:Nat)
 | nc (d:Nat) (x:Operand)
 | bn (d:Nat) (op:BinOp) (t:Nat) (x y:Operand) (u:Nat)
 | un (d:Nat) (op:UnOp) (t:Nat) (x:Operand)
 | cv (d s t:Nat) (x:Operand)
 | ln (d t:Nat) (x:Operand)
 | mn (d:Nat) (x y:Operand) (ts:List Nat)
 | mx (d:Nat) (x y:Operand) (ts:List Nat)
 | ia (d t:Nat) (x y:Operand)
 | ix (d t:Nat) (x y:Operand)
 | fd (d t:Nat) (x:Operand) (f:Nat)
 | sl (d t:Nat) (x:Operand) (lo hi mx:Option Operand)
 | bd (d t:Nat) (ps:List (Nat × Operand))
 | bo (d t n:Nat) (ps:List (Nat × Operand))
 | bs (d t n:Nat) (ps:List (Nat × Operand))
 | ms (d t:Nat) (x y:Operand)
 | ap (d:Option Nat) (t tx:Nat) (x y:Operand)
 | cp (d:Option Nat) (t tx:Nat) (x y:Operand)
 | sb (d s t:Nat) (x:Operand)
 | ca (d:Option Nat) (f:Nat) (xs:List Operand) (ts:List Nat)
 | cl (d:Option Nat) (f:Nat) (xs:List Operand) (ts:List Nat)
 | cm (d:Option Nat) (f:Nat) (ms:List Bool) (xs:List Operand) (ts:List Nat)
 | cn (d:Option Nat) (f:Nat) (ms:List Bool) (xs:List Operand) (ts:List Nat)
 | cu (d:Option Nat) (x:Operand) (xs:List Operand) (ts:List Nat)
 | lz (d t g:Nat)
 | mf (d f:Nat) (x:Operand)
 | mk (d t:Nat)
 | lu (d t:Nat) (x k:Operand) (ok:Bool)
 | mu (t:Nat) (m k x:Operand)
 | op (d:Option Nat) (o:Op)
inductive J where
 | p (i:I)
 | g (t:Nat) (w:Bool) (i:I)
def I.so:I→SO
 | .mv d x=>⟨some d,.move x,none⟩
 | .as d x=>⟨some d,.assign x,none⟩
 | .pk d c a b=>⟨some d,.pick c a b,none⟩
 | .al d t=>⟨some d,.alloc t,none⟩
 | .bx d t x=>⟨some d,.box t x,none⟩
 | .ld d t x=>⟨some d,.load t x,none⟩
 | .st t a x=>⟨none,.store t a x,none⟩
 | .fa d t x f=>⟨some d,.fieldAddr t x f,none⟩
 | .ex d x i=>⟨some d,.extract x i,none⟩
 | .nc d x=>⟨some d,.nilCheck x,none⟩
 | .bn d b t x y u=>⟨some d,.binOp b t x y u,none⟩
 | .un d b t x=>⟨some d,.unOp b t x,none⟩
 | .cv d s t x=>⟨some d,.convert s t x,none⟩
 | .ln d t x=>⟨some d,.call {callee:=.builtin .len,args:=#[x],argTypes:=#[t]},none⟩
 | .mn d x y ts=>⟨some d,.call {callee:=.builtin .min,args:=#[x,y],argTypes:=ts.toArray},none⟩
 | .mx d x y ts=>⟨some d,.call {callee:=.builtin .max,args:=#[x,y],argTypes:=ts.toArray},none⟩
 | .ia d t x y=>⟨some d,.indexAddr t x y,none⟩
 | .ix d t x y=>⟨some d,.index t x y,none⟩
 | .fd d t x f=>⟨some d,.field t x f,none⟩
 | .sl d t x lo hi m=>⟨some d,.slice t x lo hi m,none⟩
 | .bd d t ps=>⟨some d,.build t ps.toArray,none⟩
 | .bo d t n ps=>⟨some d,.buildSlice t n ps.toArray,none⟩
 | .bs d t n ps=>⟨some d,.buildSlice t n ps.toArray,none⟩
 | .ms d t x y=>⟨some d,.makeSlice t x y,none⟩
 | .ap d t tx x y=>⟨d,.call {callee:=.builtin .append,args:=#[x,y],argTypes:=#[t,tx]},none⟩
 | .cp d t tx x y=>⟨d,.call {callee:=.builtin .copy,args:=#[x,y],argTypes:=#[t,tx]},none⟩
 | .sb d s t x=>⟨some d,.convert s t x,none⟩
 | .ca d f xs ts=>⟨d,.call {callee:=.value (.func f),args:=xs.toArray,argTypes:=ts.toArray},none⟩
 | .cl d f xs ts=>⟨d,.call {callee:=.value (.func f),args:=xs.toArray,argTypes:=ts.toArray},none⟩
 | .cm d f _ xs ts=>⟨d,.call {callee:=.value (.func f),args:=xs.toArray,argTypes:=ts.toArray},none⟩
 | .cn d f _ xs ts=>⟨d,.call {callee:=.value (.func f),args:=xs.toArray,argTypes:=ts.toArray},none⟩
 | .cu d x xs ts=>⟨d,.call {callee:=.value x,args:=xs.toArray,argTypes:=ts.toArray},none⟩
 | .lz d t g=>⟨some d,.load t (.global g),none⟩
 | .mf d f x=>⟨some d,.makeFunc (.func f) #[x] #[],none⟩
 | .mk d t=>⟨some d,.makeMap t none,none⟩
 | .lu d t x k ok=>⟨some d,.lookup t x k ok,none⟩
 | .mu t m k x=>⟨none,.mapUpdate t m k x,none⟩
 | .op d o=>⟨d,o,none⟩
def soI:List J→List SO
 | []=>[]
 | .p i::l=>⟨i.so.d,i.so.o,none⟩::soI l
 | .g t w i::l=>⟨i.so.d,i.so.o,some (t,w)⟩::soI l
def exC:SC J→SC SO
 | .skip=>.skip
 | .ret=>.ret
 | .exit id=>.exit id
 | .seq a b=>.seq (exC a) (exC b)
 | .sq _ a b=>.seq (exC a) (exC b)
 | .ct a b=>.seq (exC a) (exC b)
 | .cond c x y=>.cond c (exC x) (exC y)
 | .block id c=>.block id (exC c)
 | .loop c=>.loop (exC c)
 | .lp _ c=>.loop (exC c)
 | .reg l=>.reg (soI l)
 | .dr _ _ l af=>.dr .nil [] (soI l) af
 | .rng id l it ty x tn tb b=>.seq (.reg (soI l++[⟨some it,.range ty x,none⟩])) (.block id (.loop (.seq (.reg [⟨some tn,.next (.tmp it) true,none⟩,⟨some tb,.extract (.tmp tn) 0,none⟩]) (.seq (.cond (.tmp tb) .skip (.exit id)) (exC b)))))
 | .bad=>.bad
def evT (tm:List (Nat × AV)):Operand→AV
 | .tmp t=>match zz tm t with
  | some v=>v
  | none=>.dead
 | .const v=>znF v
 | .func f=>.sc (.func (.func f) #[] #[])
 | .global _=>.dead
def evL (tm:List (Nat × AV)):List Operand→List AV
 | []=>[]
 | x::l=>evT tm x::evL tm l
def yz:List (Nat × AV)→Nat→AV
 | [],_=>.dead
 | (k,v)::l,n=>match k==n with
  | true=>v
  | false=>yz l n
def evP (tm:List (Nat × AV)):List (Nat × Operand)→List (Nat × AV)
 | []=>[]
 | x::l=>(x.1,evT tm x.2)::evP tm l
def zlS (n d:Nat) (tm:List (Nat × AV)) (G:Nat) (K:St→Prop) (x:AV × Sig):Prop:=Br (Nat.blt d n) (K ⟨n,(d,x.1)::tm,x.2,G+1⟩) False
def zba (n d:Nat) (tm:List (Nat × AV)) (σ:Sig) (G:Nat) (K:St→Prop) (v:AV):Prop:=Br (Nat.blt d n) (K ⟨n,(d,v)::tm,σ,G⟩) False
def putS (n:Nat) (tm:List (Nat × AV)) (G:Nat) (K:St→Prop) (σ:Sig):Prop:=K ⟨n,tm,σ,G⟩
def zg5 (n:Nat) (tm:List (Nat × AV)) (G:Nat) (K:St→Prop):Option Nat→AV × Sig→Prop
 | none,x=>K ⟨n,tm,x.2,G+1⟩
 | some d,x=>Br (Nat.blt d n) (K ⟨n,(d,x.1)::tm,x.2,G+1⟩) False
def znT (P:Program) (n:Nat) (d:Option Nat) (tm:List (Nat × AV)) (σ:Sig) (G f:Nat) (K:St→Prop) (x:Sig × List AV):Prop:=Want P f x.2 (zlo ⟨n,tm,σ,G⟩ d K x.1)
def zlk (Z:Nat→Nat→List Nat→jQ→Row→Prop) (r g:Nat) (p:List Nat) (f:jQ):Option Row→Prop
 | some row=>Z r g p f row
 | none=>False
def zfD (Z:Nat→Nat→List Nat→jQ→Row→Prop) (r g:Nat) (p:List Nat):Option (Nat × jQ)→Prop
 | some (g',f)=>match Nat.beq g' g with
  | true=>zlk Z r g p f (f p)
  | false=>False
 | none=>False
def zcY (σ:Sig) (Z:Nat→Nat→List Nat→jQ→Row→Prop):AV→Prop
 | .mr r g p=>zfD Z r g p (zz σ r)
 | _=>False
def LuZ (P:Program) (t:Nat) (k:AV) (ok:Bool) (K:AV→Prop) (row:Row):Prop:=∃C res K0 E zv,row=mpR C∧zdZ P t=some (K0,E)∧zOf P E=some zv∧zcR P K0 k=true∧zad P K0 k C=some res∧K (luV zv ok res)
def MuZ (P:Program) (t:Nat) (k x:AV) (σ:Sig) (K:Sig→Prop) (r g:Nat) (p:List Nat) (f:jQ) (row:Row):Prop:=∃C K0 E ck cx,row=mpR C∧zdZ P t=some (K0,E)∧zcR P K0 k=true∧zad P K0 k C=some none∧zcU k=some ck∧zcU x=some cx∧K (yD σ r (g,jg f p (mpR (C++[(k,x)]))))
theorem zhh {P:Program} {t:Nat} {k:AV} {ok:Bool} {K:AV→Prop} {C:MC} {res:Option AV} {K0 E:Nat} (hT:zdZ P t=some (K0,E)) {zv:Value} (hE:zOf P E=some zv) (hk:zcR P K0 k=true) (hf:zad P K0 k C=some res) (h:K (luV zv ok res)):LuZ P t k ok K (mpR C):=⟨C,res,K0,E,zv,rfl,hT,hE,hk,hf,h⟩
theorem zl3 {P:Program} {t:Nat} {k x:AV} {σ:Sig} {K:Sig→Prop} {r g:Nat} {p:List Nat} {f:jQ} {C:MC} {K0 E:Nat} {ck cx:List Nat} (hT:zdZ P t=some (K0,E)) (hk:zcR P K0 k=true) (hf:zad P K0 k C=some none) (h1:zcU k=some ck) (h2:zcU x=some cx) (h:K (yD σ r (g,jg f p (mpR (C++[(k,x)]))))):MuZ P t k x σ K r g p f (mpR C):=⟨C,K0,E,ck,cx,rfl,hT,hk,hf,h1,h2,h⟩
theorem zaz {σ:Sig} {Z:Nat→Nat→List Nat→jQ→Row→Prop} {v:AV} (h:zcY σ Z v):∃r g p f row,v=.mr r g p∧zz σ r=some (g,f)∧f p=some row∧Z r g p f row:=by
 cases v<;>first | exact h.elim | skip
 rename_i r g p
 have h:zfD Z r g p (zz σ r):=h
 cases hl:zz σ r with
 | none=>rw [hl] at h;exact h.elim
 | some gf=>
  obtain ⟨g',f⟩:=gf
  rw [hl] at h
  simp only [zfD] at h
  split at h
  ·rename_i hg
   have hg:=Nat.eq_of_beq_eq_true hg
   subst hg
   cases hf:f p with
   | none=>rw [hf] at h;exact h.elim
   | some row=>rw [hf] at h;exact ⟨_,_,_,f,row,rfl,hl,hf,h⟩
  ·cases h
theorem zdj {σ:Sig} {Z Z':Nat→Nat→List Nat→jQ→Row→Prop} {v:AV} (hz:∀r g p f row,Z r g p f row→Z' r g p f row) (h:zcY σ Z v):zcY σ Z' v:=by
 obtain ⟨r,g,p,f,row,rfl,h1,h2,h3⟩:=zaz h
 simp only [zcY,zfD,zlk,h1,h2,Nat.beq_refl]
 exact hz _ _ _ _ _ h3
def iSt (P:Program) (i:I) (s:St) (K:St→Prop):Prop:=match i with
 | .ca d f xs _=>zu (qx s.σ (evL s.tm xs)) (znT P s.n d s.tm s.σ s.G f K)
 | .cl d f xs _=>zgW P s d f (evL s.tm xs) K
 | .cm d f ms xs _=>zi2 P s d f ms (evL s.tm xs) K
 | .bs d t n ps=>zu (yZ P d s.G s.σ t n (evP s.tm ps)) (zg5 s.n s.tm s.G K (some d))
 | .ap d t tx x y=>zu (qA P (d.getD 0) s.G s.σ t tx (evT s.tm x) (evT s.tm y)) (zg5 s.n s.tm s.G K d)
 | .cp d t tx x y=>zu (zaO P s.σ t tx (evT s.tm x) (evT s.tm y)) (zg5 s.n s.tm s.G K d)
 | .sb d r t x=>match tk P r with
  | some .string=>zu (zpA P d s.G s.σ t (evT s.tm x)) (zg5 s.n s.tm s.G K (some d))
  | _=>False
 | .cn d f ms xs _=>zfP P s d f ms (evL s.tm xs) K
 | .cu d x xs _=>zu (fnV (evT s.tm x)) fun f=>zgW P s d f (.agg []::evL s.tm xs) K
 | .lz d t _=>zu (zcD P t) fun v=>put s (some d) v s.σ false K
 | .mf d f x=>zu (ziE f (evT s.tm x)) fun v=>put s (some d) v s.σ false K
 | .mk d t=>put s (some d) (.mr d s.G []) (yD s.σ d (s.G,one (mpR []))) true K
 | .lu d t x k ok=>zcY s.σ (fun r g p f row=>LuZ P t (evT s.tm k) ok (fun v=>put s (some d) v s.σ false K) row) (evT s.tm x)
 | .mu t m k x=>zcY s.σ (MuZ P t (evT s.tm k) (evT s.tm x) s.σ fun σ'=>put s none .dead σ' false K) (evT s.tm m)
 | i=>zu (xR P (i.so.d.getD 0) s.G (evT s.tm) s.σ i.so.o) (ziF s i.so.d (zek i.so.o) K)
def zgl (i:I) (s:St) (K:St→Prop):Prop:=put s i.so.d (.tup []) s.σ false K
section
variable {P:Program} {n G:Nat} {tm:List (Nat × AV)} {σ:Sig} {Q:Exit→St→Prop} {K:St→Prop} {d t f i s u:Nat} {x y z:Operand} {l:List J} {w:Bool}
theorem zgz:∀{tm:List (Nat × AV)} {t:Nat},evT tm (.tmp t)=yz tm t:=by
 intro tm t
 induction tm with
 | nil=>rfl
 | cons x l ih=>
  obtain ⟨k,v⟩:=x
  simp only [evT,zz,yz] at ih ⊢
  cases hk:k==t with
  | true=>rfl
  | false=>exact ih
theorem zfg:ev ⟨n,tm,σ,G⟩ x=evT tm x:=by cases x<;>rfl
theorem evf:(ev ⟨n,tm,σ,G⟩)=evT tm:=funext fun _=>zfg
theorem zer (s:St):ev s=evT s.tm:=by obtain ⟨n,tm,σ,G⟩:=s;exact evf
theorem zj1:∀(xs:List Operand),xs.map (evT tm)=evL tm xs
 | []=>rfl
 | x::xs=>by rw [List.map_cons,zj1 xs];rfl
theorem zdX:∀(xs:List (Nat × Operand)),xs.map (fun x=>(x.1,evT tm x.2))=evP tm xs
 | []=>rfl
 | x::xs=>by rw [List.map_cons,zdX xs];rfl
theorem zbh {s:St} {d:Option Nat} {x:AV × Sig} (h:zg5 s.n s.tm s.G K d x):put s d x.1 x.2 true K:=by
 unfold put
 cases d with
 | none=>exact h
 | some d=>
  simp only [zg5] at h ⊢
  cases hb:Nat.blt d s.n with
  | true=>rw [hb] at h;exact h
  | false=>rw [hb] at h;exact h.elim
theorem zd7 {i:I} {s:St} (h:iSt P i s K):zmT P ⟨i.so.d,i.so.o,none⟩ s K:=by
 have plain:zu (xR P (i.so.d.getD 0) s.G (evT s.tm) s.σ i.so.o) (ziF s i.so.d (zek i.so.o) K)→zmT P ⟨i.so.d,i.so.o,none⟩ s K:=by
  intro h
  obtain ⟨x,h1,h2⟩:=zq h
  exact ⟨x.1,x.2,_,.inl ⟨by rw [zer];exact h1,rfl⟩,h2⟩
 have args:∀(xs:List Operand) (c:Call),c.args=xs.toArray→c.args.toList.map (ev s)=evL s.tm xs:=by
  intro xs c hc
  rw [hc,List.toList_toArray,zer,zj1]
 cases i with
 | ca d f xs ts=>
  obtain ⟨⟨σ1,as⟩,h1,res,rf,h2,h3,h4⟩:=zq h
  exact ⟨nm (d.getD 0) s.G res,zfF σ1 (d.getD 0) s.G rf,true,.inr (.inr (.inl ⟨rfl,{callee:=.value (.func f),args:=xs.toArray,argTypes:=ts.toArray},f,rfl,rfl,.inl ⟨σ1,as,res,rf,by rw [args xs _ rfl];exact h1,h2,h3,rfl,rfl⟩⟩)),h4⟩
 | cl d f xs ts=>
  obtain ⟨⟨σ1,as⟩,h1,res,rf,h2,h3,h4⟩:=zq h
  exact ⟨nm (d.getD 0) s.G res,zfF s.σ (d.getD 0) s.G rf,true,.inr (.inr (.inl ⟨rfl,{callee:=.value (.func f),args:=xs.toArray,argTypes:=ts.toArray},f,rfl,rfl,.inr (.inl ⟨σ1,as,res,rf,by rw [args xs _ rfl];exact h1,h2,h3,rfl,rfl⟩)⟩)),h4⟩
 | cm d f ms xs ts=>
  obtain ⟨h0,h⟩:=h
  obtain ⟨⟨σ1,as⟩,h1,h⟩:=zq h
  obtain ⟨σin,h2,res,σout,h3,h4,h⟩:=zq h
  obtain ⟨σ2,h5,h6⟩:=zq h
  exact ⟨_,σ2,true,.inr (.inr (.inl ⟨rfl,{callee:=.value (.func f),args:=xs.toArray,argTypes:=ts.toArray},f,rfl,rfl,.inr (.inr (.inl ⟨ms,_,σ1,as,σin,res,σout,by rw [args xs _ rfl],h0,by rw [args xs _ rfl];exact h1,h2,h3,h4,h5,rfl⟩))⟩)),h6⟩
 | cn d f ms xs ts=>
  obtain ⟨h0,h⟩:=h
  obtain ⟨⟨σ1,as⟩,h1,h⟩:=zq h
  obtain ⟨σin,h2,h2',res,σout,h3,h3',h4,h⟩:=zq h
  obtain ⟨σ2,h5,h6⟩:=zq h
  exact ⟨_,σ2,true,.inr (.inr (.inl ⟨rfl,{callee:=.value (.func f),args:=xs.toArray,argTypes:=ts.toArray},f,rfl,rfl,.inr (.inr (.inr ⟨ms,_,σ1,as,σin,res,σout,by rw [args xs _ rfl],h0,by rw [args xs _ rfl];exact h1,h2,h2',h3,h3',h4,h5,rfl⟩))⟩)),h6⟩
 | cu d x xs ts=>
  obtain ⟨f,h0,h⟩:=zq h
  obtain ⟨⟨σ1,as⟩,h1,res,rf,h2,h3,h4⟩:=zq h
  exact ⟨nm (d.getD 0) s.G res,zfF s.σ (d.getD 0) s.G rf,true,.inr (.inr (.inr (.inr (.inl ⟨rfl,{callee:=.value x,args:=xs.toArray,argTypes:=ts.toArray},f,x,rfl,rfl,by rw [zer];exact h0,⟨σ1,as,res,rf,by rw [args xs _ rfl];exact h1,h2,h3,rfl,rfl⟩⟩)))),h4⟩
 | mk d t=>exact ⟨_,_,true,.inr (.inr (.inr (.inr (.inr (.inl ⟨rfl,t,rfl,rfl,rfl⟩))))),h⟩
 | lu d t x k ok=>
  obtain ⟨r,g,p,f,row,h1,h2,h3,C,res,K0,E,zv,rfl,h4,h5,h6,h7,h8⟩:=zaz h
  exact ⟨_,_,false,.inr (.inr (.inr (.inr (.inr (.inr (.inl ⟨rfl,t,x,k,ok,K0,E,r,g,p,f,C,res,zv,rfl,h4,h5,by rw [zer];exact h1,h2,h3,by rw [zer];exact h6,by rw [zer];exact h7,rfl,rfl⟩)))))),h8⟩
 | mu t m k x=>
  obtain ⟨r,g,p,f,row,h1,h2,h3,C,K0,E,ck,cx,rfl,h4,h5,h6,h7,h8,h9⟩:=zaz h
  exact ⟨_,_,false,.inr (.inr (.inr (.inr (.inr (.inr (.inr ⟨rfl,t,m,k,x,K0,E,r,g,p,f,C,ck,cx,rfl,h4,by rw [zer];exact h1,h2,h3,by rw [zer];exact h5,by rw [zer];exact h6,by rw [zer];exact h7,by rw [zer];exact h8,rfl,rfl⟩)))))),by rw [zer];exact h9⟩
 | lz d t g=>
  obtain ⟨v,h1,h2⟩:=zq h
  exact ⟨v,s.σ,false,.inr (.inr (.inr (.inl ⟨h1,rfl,rfl⟩))),h2⟩
 | mf d f x=>
  obtain ⟨v,h1,h2⟩:=zq h
  exact ⟨v,s.σ,false,.inr (.inr (.inr (.inl ⟨by rw [zer];exact h1,rfl,rfl⟩))),h2⟩
 | bs d t n ps=>
  obtain ⟨x,h1,h2⟩:=zq h
  exact ⟨x.1,x.2,true,.inr (.inl ⟨by rw [zer];show yZ P d s.G s.σ t n (ps.toArray.toList.map fun x=>(x.1,evT s.tm x.2))=_;rw [List.toList_toArray,zdX];exact h1,rfl⟩),zbh h2⟩
 | ap d t tx x y=>
  obtain ⟨z,h1,h2⟩:=zq h
  exact ⟨z.1,z.2,true,.inr (.inl ⟨by rw [zer];exact h1,rfl⟩),zbh h2⟩
 | cp d t tx x y=>
  obtain ⟨z,h1,h2⟩:=zq h
  exact ⟨z.1,z.2,true,.inr (.inl ⟨by rw [zer];exact h1,rfl⟩),zbh h2⟩
 | sb d r t x=>
  simp only [iSt] at h
  split at h
  ·rename_i hk
   obtain ⟨z,h1,h2⟩:=zq h
   exact ⟨z.1,z.2,true,.inr (.inl ⟨by rw [zer];simp only [I.so,jX,hk];exact h1,rfl⟩),zbh h2⟩
  ·cases h
 | _=>exact plain h
theorem zcH {s:St} {d:Option Nat} {b:Bool} {K K':St→Prop} {x:AV × Sig} (h:∀s,K s→K' s) (hk:ziF s d b K x):ziF s d b K' x:=zbN h hk
theorem wG {n:Nat} {tm:List (Nat × AV)} {G:Nat} {K K':St→Prop} {d:Option Nat} {x:AV × Sig} (h:∀s,K s→K' s) (hk:zg5 n tm G K d x):zg5 n tm G K' d x:=by
 cases d with
 | none=>exact h _ hk
 | some d=>
  simp only [zg5] at hk ⊢
  cases hb:Nat.blt d n with
  | true=>rw [hb] at hk;exact h _ hk
  | false=>rw [hb] at hk;exact hk
theorem zH {α:Type} {x:Option α} {K K':α→Prop} (h:∀a,K a→K' a) (hk:zu x K):zu x K':=by
 obtain ⟨a,h1,h2⟩:=zq hk
 exact zE h1 (h a h2)
theorem zbm {i:I} {s:St} {K K':St→Prop} (h:∀s,K s→K' s) (hk:iSt P i s K):iSt P i s K':=by
 cases i with
 | ca d f xs ts=>exact zH (fun x ⟨res,rf,h1,h2,h3⟩=>⟨res,rf,h1,h2,zbN h h3⟩) hk
 | cl d f xs ts=>exact zH (fun x ⟨res,rf,h1,h2,h3⟩=>⟨res,rf,h1,h2,zbN h h3⟩) hk
 | cm d f ms xs ts=>exact ⟨hk.1,zH (fun x=>zH fun σin ⟨res,σout,h1,h2,h3⟩=>⟨res,σout,h1,h2,zH (fun σ2=>zbN h) h3⟩) hk.2⟩
 | cn d f ms xs ts=>exact ⟨hk.1,zH (fun x=>zH fun σin ⟨h0,res,σout,h1,h1',h2,h3⟩=>⟨h0,res,σout,h1,h1',h2,zH (fun σ2=>zbN h) h3⟩) hk.2⟩
 | cu d x xs ts=>exact zH (fun f=>zH (fun x ⟨res,rf,h1,h2,h3⟩=>⟨res,rf,h1,h2,zbN h h3⟩)) hk
 | lz d t g=>exact zH (fun v=>zbN h) hk
 | mf d f x=>exact zH (fun v=>zbN h) hk
 | mk d t=>exact zbN h (show put s (some d) (.mr d s.G []) (yD s.σ d (s.G,one (mpR []))) true K from hk)
 | lu d t x k ok=>exact zdj (fun r g p f row ⟨C,res,K0,E,zv,h1,h2,h3,h4,h5,h6⟩=>⟨C,res,K0,E,zv,h1,h2,h3,h4,h5,zbN h h6⟩) hk
 | mu t m k x=>exact zdj (fun r g p f row ⟨C,K0,E,ck,cx,h1,h2,h3,h4,h5,h6,h7⟩=>⟨C,K0,E,ck,cx,h1,h2,h3,h4,h5,h6,zbN h h7⟩) hk
 | bs d t n ps=>exact zH (fun x=>wG h) hk
 | ap d t tx x y=>exact zH (fun x=>wG h) hk
 | cp d t tx x y=>exact zH (fun x=>wG h) hk
 | sb d r t x=>
  simp only [iSt] at hk ⊢
  split at hk
  ·exact zH (fun x=>wG h) hk
  ·cases hk
 | mv d x=>exact zH (x:=xR P d s.G (evT s.tm) s.σ (.move x)) (fun x=>zcH h) hk
 | as d x=>exact zH (x:=xR P d s.G (evT s.tm) s.σ (.assign x)) (fun x=>zcH h) hk
 | _=>exact zH (fun x=>zcH h) hk
theorem zdQ {v:AV} {σ':Sig}:put ⟨n,tm,σ,G⟩ (some d) v σ' true K=zlS n d tm G K (v,σ'):=by
 show (match Nat.blt d n with | true=>_ | false=>_)=Br (Nat.blt d n) _ _
 cases Nat.blt d n<;>rfl
theorem zjE {v:AV}:put ⟨n,tm,σ,G⟩ (some d) v σ false K=zba n d tm σ G K v:=by
 show (match Nat.blt d n with | true=>_ | false=>_)=Br (Nat.blt d n) _ _
 cases Nat.blt d n<;>rfl
theorem zax {α β:Type} {x:Option α} {g:α→β} {K:β→Prop}:zu (x.map g) K=zu x (fun a=>K (g a)):=by cases x<;>rfl
theorem yw {x:Option AV}:zu (x.map fun v=>(v,σ)) (ziF ⟨n,tm,σ,G⟩ (some d) false K)=zu x (zba n d tm σ G K):=by
 rw [zax]
 congr 1
theorem zjK {x:Option (AV × Sig)}:zu x (ziF ⟨n,tm,σ,G⟩ (some d) true K)=zu x (zlS n d tm G K):=by
 congr 1
theorem r_mv:iSt P (.mv d x) ⟨n,tm,σ,G⟩ K=zba n d tm σ G K (evT tm x):=yw (x:=some (evT tm x))
theorem r_as:iSt P (.as d x) ⟨n,tm,σ,G⟩ K=zba n d tm σ G K (evT tm x):=yw (x:=some (evT tm x))
theorem r_pk:iSt P (.pk d x y z) ⟨n,tm,σ,G⟩ K=zu (zep (evT tm x) (evT tm y) (evT tm z)) (zba n d tm σ G K):=yw
theorem r_al:iSt P (.al d t) ⟨n,tm,σ,G⟩ K=zu (zam P d G σ t) (zlS n d tm G K):=zjK
theorem r_bx:iSt P (.bx d t x) ⟨n,tm,σ,G⟩ K=zu (zfB P d G σ t (evT tm x)) (zlS n d tm G K):=zjK
theorem r_ld:iSt P (.ld d t x) ⟨n,tm,σ,G⟩ K=zu (wB P σ t (evT tm x)) (zba n d tm σ G K):=yw
theorem r_fa:iSt P (.fa d t x f) ⟨n,tm,σ,G⟩ K=zu (xw P t (evT tm x) f) (zba n d tm σ G K):=yw
theorem r_ex:iSt P (.ex d x i) ⟨n,tm,σ,G⟩ K=zu (qz (evT tm x) i) (zba n d tm σ G K):=yw
theorem r_nc:iSt P (.nc d x) ⟨n,tm,σ,G⟩ K=zu (qU (evT tm x)) (zba n d tm σ G K):=yw
theorem r_bn {b:BinOp}:iSt P (.bn d b t x y u) ⟨n,tm,σ,G⟩ K=zu (zfC P b t (evT tm x) (evT tm y)) (zba n d tm σ G K):=yw
theorem r_un {b:UnOp}:iSt P (.un d b t x) ⟨n,tm,σ,G⟩ K=zu (zld b (evT tm x)) (zba n d tm σ G K):=yw
theorem r_cv:iSt P (.cv d s t x) ⟨n,tm,σ,G⟩ K=zu (zbr P σ s t (evT tm x)) (zba n d tm σ G K):=yw
theorem r_st:iSt P (.st t x y) ⟨n,tm,σ,G⟩ K=zu (jL P σ t (evT tm x) (evT tm y)) (putS n tm G K):=by
 show zu ((jL P σ t (evT tm x) (evT tm y)).map fun σ'=>(AV.dead,σ')) (ziF ⟨n,tm,σ,G⟩ none false K)=_
 rw [zax]
 rfl
theorem r_ia:iSt P (.ia d t x y) ⟨n,tm,σ,G⟩ K=zu (xv P σ t (evT tm x) (evT tm y)) (zba n d tm σ G K):=yw
theorem r_ix:iSt P (.ix d t x y) ⟨n,tm,σ,G⟩ K=zu (zak P t (evT tm x) (evT tm y)) (zba n d tm σ G K):=yw
theorem r_fd:iSt P (.fd d t x f) ⟨n,tm,σ,G⟩ K=zu (zal P t (evT tm x) f) (zba n d tm σ G K):=yw
theorem r_ms:iSt P (.ms d t x y) ⟨n,tm,σ,G⟩ K=zu (zcG P d G σ t (evT tm x) (evT tm y)) (zlS n d tm G K):=zjK
theorem r_ln:iSt P (.ln d t x) ⟨n,tm,σ,G⟩ K=zu (zfz P t (evT tm x)) (zba n d tm σ G K):=yw
theorem r_mn {ts:List Nat}:iSt P (.mn d x y ts) ⟨n,tm,σ,G⟩ K=zu (zhD (evT tm x) (evT tm y)) (zba n d tm σ G K):=yw
theorem r_mx {ts:List Nat}:iSt P (.mx d x y ts) ⟨n,tm,σ,G⟩ K=zu (zhE (evT tm x) (evT tm y)) (zba n d tm σ G K):=yw
def evO (tm:List (Nat × AV)):Option Operand→Option AV
 | none=>none
 | some x=>some (evT tm x)
theorem zgf {o:Option Operand}:o.map (evT tm)=evO tm o:=by cases o<;>rfl
theorem r_sl {lo hi mx:Option Operand}:iSt P (.sl d t x lo hi mx) ⟨n,tm,σ,G⟩ K=zu (jM P t (evT tm x) (evO tm lo) (evO tm hi) (evO tm mx)) (zba n d tm σ G K):=by
 show zu ((jM P t (evT tm x) (lo.map (evT tm)) (hi.map (evT tm)) (mx.map (evT tm))).map fun v=>(v,σ)) (ziF ⟨n,tm,σ,G⟩ (some d) false K)=_
 rw [zgf,zgf,zgf]
 exact yw
theorem r_bd {ps:List (Nat × Operand)}:iSt P (.bd d t ps) ⟨n,tm,σ,G⟩ K=zu (jN P t (evP tm ps)) (zba n d tm σ G K):=by
 show zu ((jN P t (ps.toArray.toList.map fun x=>(x.1,evT tm x.2))).map fun v=>(v,σ)) (ziF ⟨n,tm,σ,G⟩ (some d) false K)=_
 rw [List.toList_toArray,zdX]
 exact yw
theorem r_bo {m:Nat} {ps:List (Nat × Operand)}:iSt P (.bo d t m ps) ⟨n,tm,σ,G⟩ K=zu (xI P t m (evP tm ps)) (zba n d tm σ G K):=by
 show zu ((xI P t m (ps.toArray.toList.map fun x=>(x.1,evT tm x.2))).map fun v=>(v,σ)) (ziF ⟨n,tm,σ,G⟩ (some d) false K)=_
 rw [List.toList_toArray,zdX]
 exact yw
theorem r_bs {m:Nat} {ps:List (Nat × Operand)}:iSt P (.bs d t m ps) ⟨n,tm,σ,G⟩ K=zu (yZ P d G σ t m (evP tm ps)) (zg5 n tm G K (some d)):=rfl
theorem r_ap {d:Option Nat} {tx:Nat}:iSt P (.ap d t tx x y) ⟨n,tm,σ,G⟩ K=zu (qA P (d.getD 0) G σ t tx (evT tm x) (evT tm y)) (zg5 n tm G K d):=rfl
theorem r_cp {d:Option Nat} {tx:Nat}:iSt P (.cp d t tx x y) ⟨n,tm,σ,G⟩ K=zu (zaO P σ t tx (evT tm x) (evT tm y)) (zg5 n tm G K d):=rfl
def sbK (P:Program) (n d G:Nat) (tm:List (Nat × AV)) (σ:Sig) (t:Nat) (x:AV) (K:St→Prop):Option TK→Prop
 | some .string=>zu (zpA P d G σ t x) (zg5 n tm G K (some d))
 | _=>False
theorem r_sb:iSt P (.sb d s t x) ⟨n,tm,σ,G⟩ K=sbK P n d G tm σ t (evT tm x) K (tk P s):=by
 unfold sbK
 simp only [iSt]
 try (split<;>rfl)
theorem r_ca {xs:List Operand} {ts:List Nat} {d:Option Nat}:iSt P (.ca d f xs ts) ⟨n,tm,σ,G⟩ K=zu (qx σ (evL tm xs)) (znT P n d tm σ G f K):=rfl
theorem r_cl {xs:List Operand} {ts:List Nat} {d:Option Nat}:iSt P (.cl d f xs ts) ⟨n,tm,σ,G⟩ K=zu (qx σ (evL tm xs)) (zq0 P ⟨n,tm,σ,G⟩ d f K):=rfl
theorem r_cm {xs:List Operand} {ts:List Nat} {ms:List Bool} {d:Option Nat}:iSt P (.cm d f ms xs ts) ⟨n,tm,σ,G⟩ K=mvA P ⟨n,tm,σ,G⟩ d f K ms (evL tm xs) (zgB false σ 1 30 1000000 [] (zjS ms (evL tm xs))):=rfl
theorem r_cn {xs:List Operand} {ts:List Nat} {ms:List Bool} {d:Option Nat}:iSt P (.cn d f ms xs ts) ⟨n,tm,σ,G⟩ K=mvAL P ⟨n,tm,σ,G⟩ d f K ms (evL tm xs) (zgB false σ 1 30 1000000 [] (zjS ms (evL tm xs))):=rfl
def cuK (P:Program) (n:Nat) (d:Option Nat) (tm:List (Nat × AV)) (σ:Sig) (G:Nat) (xs:List Operand) (K:St→Prop) (f:Nat):Prop:=zu (qx σ (.agg []::evL tm xs)) (zq0 P ⟨n,tm,σ,G⟩ d f K)
theorem r_cu {xs:List Operand} {ts:List Nat} {d:Option Nat}:iSt P (.cu d x xs ts) ⟨n,tm,σ,G⟩ K=zu (fnV (evT tm x)) (cuK P n d tm σ G xs K):=rfl
theorem zrM {xs:List Operand} {d:Option Nat}:cuK P n d tm σ G xs K f=zu (qx σ (.agg []::evL tm xs)) (zq0 P ⟨n,tm,σ,G⟩ d f K):=rfl
theorem r_lz {g:Nat}:iSt P (.lz d t g) ⟨n,tm,σ,G⟩ K=zu (zcD P t) (zba n d tm σ G K):=by
 show zu (zcD P t) (fun v=>put ⟨n,tm,σ,G⟩ (some d) v σ false K)=_
 congr 1
theorem r_mf:iSt P (.mf d f x) ⟨n,tm,σ,G⟩ K=zu (ziE f (evT tm x)) (zba n d tm σ G K):=by
 show zu (ziE f (evT tm x)) (fun v=>put ⟨n,tm,σ,G⟩ (some d) v σ false K)=_
 congr 1
theorem r_mk:iSt P (.mk d t) ⟨n,tm,σ,G⟩ K=zlS n d tm G K (.mr d G [],yD σ d (G,one (mpR []))):=zdQ
theorem r_lu {k:Operand} {ok:Bool}:iSt P (.lu d t x k ok) ⟨n,tm,σ,G⟩ K=zcY σ (fun _ _ _ _=>LuZ P t (evT tm k) ok (zba n d tm σ G K)) (evT tm x):=by
 show zcY σ (fun r g p f row=>LuZ P t (evT tm k) ok (fun v=>put ⟨n,tm,σ,G⟩ (some d) v σ false K) row) (evT tm x)=_
 congr 1
theorem r_mu {m k:Operand}:iSt P (.mu t m k x) ⟨n,tm,σ,G⟩ K=zcY σ (MuZ P t (evT tm k) (evT tm x) σ (putS n tm G K)) (evT tm m):=rfl
theorem zhk:∀(tm:List (Nat × AV)) (t:Nat) (b:Bool),yz tm t=.sc (.bool b)→zz tm t=some (.sc (.bool b))
 | [],_,_,h=>by cases h
 | (k,v)::l,t,b,h=>by
  simp only [yz,zz] at h ⊢
  split at h
  ·rename_i hk;rw [hk];rw [h]
  ·rename_i hk;rw [hk];exact zhk l t b h
theorem ze5:∀(tm:List (Nat × AV)) (t:Nat),yz tm t=.tup []→zz tm t=some (.tup [])
 | [],_,h=>by cases h
 | (k,v)::l,t,h=>by
  simp only [yz,zz] at h ⊢
  split at h
  ·rename_i hk;rw [hk];rw [h]
  ·rename_i hk;rw [hk];exact ze5 l t h
def yN (P:Program) (n:Nat) (tm:List (Nat × AV)) (σ:Sig) (G t:Nat) (w:Bool) (i:I) (K:St→Prop) (v:AV):Prop:=
 match v with
 | .sc (.bool b)=>Br b (Br w (iSt P i ⟨n,tm,σ,G⟩ K) (zgl i ⟨n,tm,σ,G⟩ K)) (Br w (zgl i ⟨n,tm,σ,G⟩ K) (iSt P i ⟨n,tm,σ,G⟩ K))
 | .tup []=>zgl i ⟨n,tm,σ,G⟩ K
 | _=>False
theorem zcl {i:I} (h:yN P n tm σ G t w i K (yz tm t)):qX P ⟨i.so.d,i.so.o,some (t,w)⟩ ⟨n,tm,σ,G⟩ K:=by
 cases hv:yz tm t with
 | sc v=>
  rw [hv] at h
  cases v with
  | bool b=>
   unfold qX sG
   simp only [zhk _ _ _ hv]
   cases b<;>cases w<;>simp only [yN,qW,xG] at h ⊢<;>first | exact zd7 h | exact h
  | _=>cases h
 | tup vs=>
  rw [hv] at h
  cases vs with
  | nil=>
   unfold qX sG
   simp only [ze5 _ _ hv]
   exact h
  | cons=>cases h
 | _=>rw [hv] at h;cases h
theorem wy {K K':St→Prop} {i:I} {v:AV} (h:∀s,K s→K' s) (hk:yN P n tm σ G t w i K v):yN P n tm σ G t w i K' v:=by
 unfold yN at hk ⊢
 split at hk
 ·rename_i b
  cases b<;>cases w<;>simp only [qW,xG] at hk ⊢<;>first | exact zbm h hk | exact zbN h hk
 ·exact zbN h hk
 ·cases hk
def zhn (P:Program):List J→St→(St→Prop)→Prop
 | [],s,Q=>Q s
 | .p i::l,s,Q=>iSt P i s fun s'=>zhn P l s' Q
 | .g t w i::l,s,Q=>yN P s.n s.tm s.σ s.G t w i (fun s'=>zhn P l s' Q) (yz s.tm t)
def zhd:List J→Nat→Option J
 | [],_=>none
 | j::l,i=>match i==0 with
  | true=>some j
  | false=>zhd l (i - 1)
theorem zbV:∀(l:List J) (i:Nat),(soI l)[i]?=(zhd l i).map fun
  | .p j=>⟨j.so.d,j.so.o,none⟩
  | .g t w j=>⟨j.so.d,j.so.o,some (t,w)⟩
 | [],i=>rfl
 | .p j::l,0=>rfl
 | .g t w j::l,0=>rfl
 | .p j::l,i+1=>by simpa [soI,zhd] using zbV l i
 | .g t w j::l,i+1=>by simpa [soI,zhd] using zbV l i
def rdW (P:Program) (σ:Sig) (tm:List (Nat × AV)) (i:I):Option AV:=qq P σ (evT tm) i.so.o
def gdW (w:Bool) (x:Option AV):AV→Option AV
 | .sc (.bool b)=>match b==w with
  | true=>x
  | false=>some (.tup [])
 | .tup []=>some (.tup [])
 | _=>none
def rdJ (P:Program) (σ:Sig) (tm:List (Nat × AV)):Option J→Option AV
 | some (.p i)=>rdW P σ tm i
 | some (.g t w i)=>gdW w (rdW P σ tm i) (yz tm t)
 | none=>none
def zfX (P:Program) (l:List J) (tm:List (Nat × AV)) (σ σ':Sig):List Nat→Prop
 | []=>True
 | k::rc=>rdJ P σ' tm (zhd l k)=rdJ P σ tm (zhd l k)∧zfX P l tm σ σ' rc
def puW (P:Program) (i:I) (s:St) (K:St→Prop):Prop:=xk i.so.o=true∧iSt P i s K
def ze9:I→Bool
 | .bs .. | .sb .. | .lz .. | .mf ..=>false
 | _=>true
def jT (P:Program) (l:List J):DT→St→(St→Prop)→Prop
 | .nil,s,K=>K s
 | .pu i t,s,K=>match zhd l i with
  | some (.p j)=>(ze9 j=true∧xk j.so.o=true)∧iSt P j s fun s'=>jT P l t s' K
  | some (.g u w j)=>(ze9 j=true∧xk j.so.o=true)∧yN P s.n s.tm s.σ s.G u w j (fun s'=>jT P l t s' K) (yz s.tm u)
  | none=>False
 | .ef i rc t,s,K=>match zhd l i with
  | some (.p j)=>iSt P j s fun s'=>zfX P l s.tm s.σ s'.σ rc∧jT P l t s' K
  | some (.g u w j)=>yN P s.n s.tm s.σ s.G u w j (fun s'=>zfX P l s.tm s.σ s'.σ rc∧jT P l t s' K) (yz s.tm u)
  | none=>False
 | .or a b,s,K=>jT P l a s K∧jT P l b s K
def zd5:List Nat→List (Nat × AV)→List (Nat × AV)
 | [],_=>[]
 | k::ks,tm=>(k,yz tm k)::zd5 ks tm
def zot (ks:List Nat) (s:St):St:=⟨s.n,zd5 ks s.tm,s.σ,s.G⟩
def jb (ks:List Nat) (s:St):St:=canL s (zd5 ks s.tm) (canN s ks)
def jv (P:Program):SC J→St→(Exit→St→Prop)→Prop
 | .skip,s,Q=>Q .normal s
 | .ret,s,Q=>Q .ret s
 | .exit id,s,Q=>Q (.exit id) s
 | .seq a b,s,Q=>jv P a s (yI Q fun s'=>jv P b s' Q)
 | .sq ks a b,s,Q=>jv P a s (yI Q fun s'=>jv P b (zot ks s') Q)
 | .ct a b,s,Q=>jv P a s (yI Q fun s'=>∃s'',Weak s' s''∧jv P b s'' Q)
 | .cond c x y,s,Q=>match evT s.tm c with
  | .sc (.bool b)=>Br b (jv P x s Q) (jv P y s Q)
  | _=>False
 | .block id c,s,Q=>jv P c s (yH id Q)
 | .loop c,s,Q=>∃(I:Nat→St→Prop) (n:Nat) (s1:St),Weak s s1∧I n s1∧∀m s2,I m s2→jv P c s2 (yI Q fun s3=>∃m' s4,m'<m∧Weak s3 s4∧I m' s4)
 | .lp _ c,s,Q=>∃(I:Nat→St→Prop) (n:Nat) (s1:St),Weak s s1∧I n s1∧∀m s2,I m s2→jv P c s2 (yI Q fun s3=>∃m' s4,m'<m∧Weak s3 s4∧I m' s4)
 | .reg l,s,Q=>zhn P l s fun s'=>Q .normal s'
 | .dr t _ l _,s,Q=>jT P l t s (Q .normal)
 | .rng id l it ty x tn tb b,s,Q=>tk P ty=some .string∧zhn P l s fun s1=>∃str,evT s1.tm x=.sc (.string str)∧it<s1.n∧∀r,∃(I:Nat→St→Prop) (s2:St),Weak ⟨s1.n,(it,.it r)::s1.tm,s1.σ,s1.G⟩ s2∧I 0 s2∧∀pos s3,I pos s3→
   (zz s3.tm it=some (.it r)∧tn<s3.n∧tb<s3.n)∧
   (pos<str.size→∃c,Utf8.decode str pos=(c,1)∧jv P b ⟨s3.n,(tb,.sc (.bool true))::(tn,.tup [.sc (.bool true),.sc (.int .i64 pos),.sc (.int .i32 c)])::s3.tm,s3.σ,s3.G⟩ (yI (yH id Q) fun s4=>∃s5,Weak s4 s5∧I (pos+1) s5))∧
   (¬pos<str.size→Q .normal ⟨s3.n,(tb,.sc (.bool false))::(tn,.tup [.sc (.bool false)])::s3.tm,s3.σ,s3.G⟩)
 | .bad,_,_=>False
theorem jr:∀(l:List J) (s:St) (Q:St→Prop),zhn P l s Q→zmS P (soI l) s Q
 | [],s,Q,h=>h
 | .p i::l,s,Q,h=>yu (o:=⟨i.so.d,i.so.o,none⟩) (fun s' hs=>jr l s' Q hs) (zd7 h)
 | .g t w i::l,⟨n,tm,σ,G⟩,Q,h=>yu (fun s' hs=>jr l s' Q hs) (zcl h)
theorem zg6 {j:I} {s:St} (h0:ze9 j=true) (hp:xk j.so.o=true) (h:iSt P j s K):zu (qq P s.σ (ev s) j.so.o) fun v=>put s j.so.d v s.σ false K:=by
 have plain:zu (xR P (j.so.d.getD 0) s.G (evT s.tm) s.σ j.so.o) (ziF s j.so.d (zek j.so.o) K)→zu (qq P s.σ (ev s) j.so.o) fun v=>put s j.so.d v s.σ false K:=by
  intro h
  rw [zdJ hp,zax,zbO hp] at h
  rw [zer]
  exact h
 cases j with
 | ca d f xs ts=>simp [I.so,xk] at hp
 | cl d f xs ts=>simp [I.so,xk] at hp
 | cm d f ms xs ts=>simp [I.so,xk] at hp
 | cn d f ms xs ts=>simp [I.so,xk] at hp
 | cu d x xs ts=>simp [I.so,xk] at hp
 | lz=>cases h0
 | mf=>cases h0
 | bs=>cases h0
 | sb=>cases h0
 | ap=>simp [I.so,xk] at hp
 | cp=>simp [I.so,xk] at hp
 | mk=>simp [I.so,xk] at hp
 | lu=>simp [I.so,xk] at hp
 | mu=>simp [I.so,xk] at hp
 | _=>exact plain h
theorem ze8 (l:List J):∀(t:DT) (s:St) (Q:St→Prop),jT P l t s Q→sT P (soI l) t s Q
 | .nil,s,Q,h=>h
 | .pu i t,⟨n,tm,σ,G⟩,Q,h=>by
  unfold jT at h
  unfold sT
  rw [zbV]
  split at h
  ·rename_i j hj
   rw [hj]
   exact ⟨h.1.2,jC (o:=⟨j.so.d,j.so.o,none⟩) (fun s' hs=>ze8 l t s' Q hs) (zg6 h.1.1 h.1.2 h.2)⟩
  ·rename_i u w j hj
   rw [hj]
   refine ⟨h.1.2,?_⟩
   obtain ⟨⟨h1,h2⟩,h3⟩:=h
   have key:zfZ P ⟨j.so.d,j.so.o,some (u,w)⟩ ⟨n,tm,σ,G⟩ (fun s'=>jT P l t s' Q):=by
    unfold zfZ sV
    rw [evf]
    simp only at h3
    simp only [zgz]
    cases hv:yz tm u with
    | sc v=>
     rw [hv] at h3
     cases v with
     | bool b=>
      have pl:iSt P j ⟨n,tm,σ,G⟩ (fun s'=>jT P l t s' Q)→zu (qq P σ (evT tm) j.so.o) fun v=>put ⟨n,tm,σ,G⟩ j.so.d v σ false fun s'=>jT P l t s' Q:=fun hh=>by
       have:=zg6 h1 h2 hh
       rwa [evf] at this
      cases b<;>cases w<;>simp only [yN,qW,xG] at h3<;>first | exact pl h3 | exact h3
     | _=>cases h3
    | tup vs=>
     rw [hv] at h3
     cases vs with
     | nil=>exact h3
     | cons=>cases h3
    | _=>rw [hv] at h3;cases h3
   exact jC (fun s' hs=>ze8 l t s' Q hs) key
  ·cases h
 | .ef i rc t,⟨n,tm,σ,G⟩,Q,h=>by
  have same:∀{s':St},zfX P l tm σ s'.σ rc→zqz P (soI l) rc ⟨n,tm,σ,G⟩ s'.σ:=by
   clear h
   intro s'
   induction rc with
   | nil=>intro _ k hk;simp at hk
   | cons k0 rc ih=>
    intro hs k hk x hx
    rcases List.mem_cons.1 hk with rfl | hk
    ·have h1:=hs.1
     rw [zbV] at hx
     rw [evf]
     cases hn:zhd l k with
     | none=>rw [hn] at hx;cases hx
     | some j=>
      rw [hn] at hx h1
      cases j with
      | p j=>
       simp only [Option.map_some,Option.some.injEq] at hx
       subst hx
       exact h1
      | g u w j=>
       simp only [Option.map_some,Option.some.injEq] at hx
       subst hx
       simp only [rdJ] at h1
       unfold sV
       simp only [zgz]
       unfold gdW at h1
       exact h1
    ·exact ih hs.2 k hk x hx
  unfold jT at h
  unfold sT
  rw [zbV]
  split at h
  ·rename_i j hj
   rw [hj]
   exact yu (o:=⟨j.so.d,j.so.o,none⟩) (fun s' hs=>⟨same hs.1,ze8 l t s' Q hs.2⟩) (zd7 h)
  ·rename_i u w j hj
   rw [hj]
   exact yu (fun s' hs=>⟨same hs.1,ze8 l t s' Q hs.2⟩) (zcl h)
  ·cases h
 | .or a b,s,Q,h=>⟨ze8 l a s Q h.1,ze8 l b s Q h.2⟩
theorem wx {l:List J}:∀{t:DT} {s:St} {K K':St→Prop},(∀s,K s→K' s)→jT P l t s K→jT P l t s K'
 | .nil,s,K,K',h,hk=>h _ hk
 | .pu i t,s,K,K',h,hk=>by
  unfold jT at hk ⊢
  split at hk
  ·exact ⟨hk.1,zbm (fun s' hs=>wx h hs) hk.2⟩
  ·exact ⟨hk.1,wy (fun s' hs=>wx h hs) hk.2⟩
  ·cases hk
 | .ef i rc t,s,K,K',h,hk=>by
  unfold jT at hk ⊢
  split at hk
  ·exact zbm (fun s' hs=>⟨hs.1,wx h hs.2⟩) hk
  ·exact wy (fun s' hs=>⟨hs.1,wx h hs.2⟩) hk
  ·cases hk
 | .or a b,s,K,K',h,hk=>⟨wx h hk.1,wx h hk.2⟩
theorem zcf:∀(tm:List (Nat × AV)) (t:Nat) (v:AV),zz tm t=some v→yz tm t=v
 | [],_,_,h=>by cases h
 | (k,u)::l,t,v,h=>by
  simp only [yz,zz] at h ⊢
  split at h
  ·rename_i hk;rw [hk];exact Option.some.inj h
  ·rename_i hk;rw [hk];exact zcf l t v h
theorem zdn:∀(tm:List (Nat × AV)) (t:Nat),zz tm t=none→yz tm t=.dead
 | [],_,_=>rfl
 | (k,u)::l,t,h=>by
  simp only [yz,zz] at h ⊢
  split at h
  ·cases h
  ·rename_i hk;rw [hk];exact zdn l t h
theorem qN:∀(ks:List Nat) (tm:List (Nat × AV)) (t:Nat) (v:AV),zz (zd5 ks tm) t=some v→yz tm t=v
 | [],_,_,_,h=>by cases h
 | k::ks,tm,t,v,h=>by
  simp only [zd5,zA] at h
  split at h
  ·rename_i hk;subst hk;exact Option.some.inj h
  ·exact qN ks tm t v h
theorem Rel.look {rd:RD} {φ:Phi} {O:Nat→Prop} {w0 w:World} {s:St} {a:Act} (h:Rel rd φ O w0 s a w) (t:Nat):VRel rd φ (yz s.tm t) (a.tmps.getD t undef):=by
 cases hl:zz s.tm t with
 | none=>rw [zdn _ _ hl];exact .dead _
 | some v=>rw [zcf _ _ _ hl];exact h.tm t v hl
theorem Weak.keep (ks:List Nat) (s:St):Weak s (zot ks s):=by
 intro rd O w0 a w ⟨rd',φ,hx,h⟩
 exact ⟨rd',φ,hx,h.heap,fun t v hl=>qN ks s.tm t v hl▸h.look t,h.size,h.defers,h.gen⟩
theorem Weak.head (ks:List Nat) (s:St):Weak s (jb ks s):=
 Weak.canL (fun t v hl rd φ O w0 a w h=>qN ks s.tm t v hl▸h.look t) _
def nilP (s:St) (t:Nat) (x:AV × Sig × Nat):St:=⟨s.n,(t,x.1)::s.tm,x.2.1,x.2.2⟩
def zl2 (s:St) (t:Nat) (u:AV):St:=nilP s t (zm7 u (yz s.tm t) s.σ s.G)
def zoi (σ:Sig) (r g:Nat) (f:jQ) (p:List Nat) (row:Row) (i j sz G:Nat) (e:List AV):Option AV→Option Sig
 | some .nilS=>some (yD (yD σ (800000+G) (G,one ⟨sz,[],2,false⟩)) r (g,jg f p ⟨row.sz,row.es.set i (e.set j (.blk (800000+G) G [] sz 0 0)),0,false⟩))
 | _=>none
def zoj (σ:Sig) (r g:Nat) (p:List Nat) (i j sz G:Nat) (f:jQ):Option Row→Option Sig
 | some row=>match row.es[i]?,row.ao with
  | some e,false=>zoi σ r g f p row i j sz G e (e[j]?)
  | _,_=>none
 | none=>none
def zjV (σ:Sig) (j sz G:Nat):AV→Option Sig
 | .ptr r g p _ i _=>match Nat.beq r (800000+G),zz σ r with
  | false,some (g',f)=>match Nat.beq g' g with
   | true=>zoj σ r g p i j sz G f (f p)
   | false=>none
  | _,_=>none
 | _=>none
def zok (s:St):Option Sig→St
 | some σ'=>⟨s.n,s.tm,σ',s.G+1⟩
 | none=>s
def nilCell (s:St) (t j sz:Nat):St:=zok s (zjV s.σ j sz s.G (yz s.tm t))
def nilN:List (Nat × Nat)→St→St
 | [],s=>s
 | (t,sz)::l,s=>match Nat.ble 1000 t with
  | true=>nilN l (nilCell s (t%1000) (t/1000 - 1) sz)
  | false=>nilN l (zl2 s t (.blk 0 0 [] sz 0 0))
theorem HRel.review {rd:RD} {φ:Phi} {O:Nat→Prop} {w0 w:World} {σ:Sig} {r g:Nat} {p:List Nat} {f:jQ} {row:Row} (h:HRel rd φ O w0 σ w) (hl:zz σ r=some (g,f)) (hf:f p=some row) (hao:row.ao=false)
  {es':List (List AV)} (hlen:es'.length=row.es.length) (hwide:∀e∈es',e.length=row.sz)
  (hc:∀(i j:Nat) (c':AV),(es'[i]?).bind (·[j]?)=some c'→∃c,(row.es[i]?).bind (·[j]?)=some c∧∀v,VRel rd φ c v→VRel rd φ c' v):HRel rd φ O w0 (yD σ r (g,jg f p ⟨row.sz,es',0,false⟩)) w:=by
 have hat:zo σ r g p=some row:=by unfold zo;rw [hl];simp [hf]
 obtain ⟨pl,hφ,hok⟩:=h.rows r g p row hat
 have hcase:=fun {r2 g2 p2 row2} (hr:zo (yD σ r (g,jg f p ⟨row.sz,es',0,false⟩)) r2 g2 p2=some row2)=>xH hl hr
 have hsome:∀{r2 g2 p2 row2},zo (yD σ r (g,jg f p ⟨row.sz,es',0,false⟩)) r2 g2 p2=some row2→∃x,zo σ r2 g2 p2=some x:=by
  intro r2 g2 p2 row2 hr
  rcases hcase hr with ⟨rfl,rfl,rfl,rfl⟩ | ⟨h1,_⟩
  ·exact ⟨_,hat⟩
  ·exact ⟨_,h1⟩
 refine ⟨?_,?_,h.rdok,?_,?_,h.frame,h.size,h.os,h.tape,h.output⟩
 ·intro r2 g2 p2 row2 hr
  rcases hcase hr with ⟨rfl,rfl,rfl,rfl⟩ | ⟨hr,hne⟩
  ·refine ⟨pl,hφ,hwide,by rw [hlen];exact hok.len,fun e he=>⟨fun h=>absurd h (by simp),fun h=>absurd h (by simp)⟩,hok.nil,hok.room,fun b q had i j c' hcc=>?_,fun ha=>(by cases ha),zm4 (by show (0:Nat)<3;decide)⟩
   obtain ⟨c,h1,h2⟩:=hc i j c' hcc
   obtain ⟨v,h3,h4⟩:=hok.cells b q had i j c h1
   exact ⟨v,h3,h2 v h4⟩
  ·exact h.rows _ _ _ _ hr
 ·intro r1 g1 p1 row1 r2 g2 p2 row2 pl1 pl2 b q1 q2 h1 h2 h3 h4 h5 h6
  obtain ⟨x1,e1⟩:=hsome h1
  obtain ⟨x2,e2⟩:=hsome h2
  exact h.sep _ _ _ _ _ _ _ _ _ _ _ _ _ e1 e2 h3 h4 h5 h6
 ·intro r2 g2 p2 row2 pl2 b2 q2 h1 h2 h3 k hor
  rcases hcase h1 with ⟨rfl,rfl,rfl,rfl⟩ | ⟨h1,_⟩
  ·exact h.rdsep _ _ _ _ _ _ _ hat h2 h3 k (.inl hao)
  ·exact h.rdsep _ _ _ _ _ _ _ h1 h2 h3 k hor
 ·intro r1 g1 p1 row1 pl1 b q1 h1 h2 h3
  obtain ⟨x1,e1⟩:=hsome h1
  exact h.own _ _ _ _ _ _ _ e1 h2 h3
theorem Weak.nilCell (s:St) (t j sz:Nat):Weak s (nilCell s t j sz):=by
 unfold E.nilCell
 cases hx:zjV s.σ j sz s.G (yz s.tm t) with
 | none=>exact .refl s
 | some σ'=>
  intro rd O w0 a w ⟨rd',φ,hx0,h⟩
  unfold zjV at hx
  split at hx
  ·rename_i r g p sz0 i o hp
   split at hx
   ·rename_i g' f hne hl
    split at hx
    ·rename_i hg
     have hg:=Nat.eq_of_beq_eq_true hg
     subst hg
     unfold zoj at hx
     split at hx
     ·rename_i row hf
      split at hx
      ·rename_i e hes hao
       unfold zoi at hx
       split at hx
       ·rename_i hej
        cases hx
        have hfr:∀q,φ (800000+s.G) s.G q=none:=fun q=>by
         cases hh:φ (800000+s.G) s.G q with
         | none=>rfl
         | some x=>exact absurd (h.gen _ _ _ (by rw [hh];simp)) (Nat.lt_irrefl _)
        obtain ⟨n1,n2⟩:=h.heap.newNil hfr sz 2
        generalize hφ':(zB φ (800000+s.G) s.G fun q=>match q with | []=>some (⟨none,0⟩:Pl) | _=>none)=φ' at n1 n2
        have hne':r≠800000+s.G:=fun e=>by rw [e,Nat.beq_refl] at hne;cases hne
        have hl':zz (yD s.σ (800000+s.G) (s.G,one ⟨sz,[],2,false⟩)) r=some (g',f):=by rw [zaC,if_neg hne',hl]
        have hat:zo s.σ r g' p=some row:=by unfold zo;rw [hl];simp [hf]
        obtain ⟨pl,hφr,hok⟩:=h.heap.rows _ _ _ _ hat
        have hmem:e∈row.es:=List.mem_of_getElem? hes
        refine ⟨rd',φ',hx0.step .refl n2,n1.review hl' hf hao (by simp) ?_ ?_,fun t' v hlv=>(h.tm t' v hlv).mono (fun _ _ _ h=>h) n2,h.size,h.defers,?_⟩
        ·intro x hx
         rcases List.mem_or_eq_of_mem_set hx with hx | rfl
         ·exact hok.wide x hx
         ·rw [List.length_set];exact hok.wide e hmem
        ·intro i' j' c' hcc
         by_cases hi:i=i'
         ·subst hi
          have hlt:i<row.es.length:=(List.getElem?_eq_some_iff.1 hes).1
          rw [List.getElem?_set_self hlt] at hcc
          by_cases hj:j=j'
          ·subst hj
           have hjl:j<e.length:=(List.getElem?_eq_some_iff.1 hej).1
           simp only [Option.bind_some,List.getElem?_set_self hjl,Option.some.injEq] at hcc
           subst hcc
           refine ⟨.nilS,by rw [hes];exact hej,fun v hv=>?_⟩
           cases hv
           exact .blk (800000+s.G) s.G [] sz 0 0 ⟨none,0⟩ none (by rw [←hφ'];simp [zB]) (.inl rfl) (Nat.zero_le _)
          ·simp only [Option.bind_some,List.getElem?_set_ne hj] at hcc
           exact ⟨c',by rw [hes];exact hcc,fun v hv=>hv⟩
         ·rw [List.getElem?_set_ne hi] at hcc
          exact ⟨c',hcc,fun v hv=>hv⟩
        ·intro r' g0 p' hp'
         rw [←hφ'] at hp'
         unfold zB at hp'
         split at hp'
         ·rename_i ee;rw [ee.2];exact Nat.lt_succ_self _
         ·exact Nat.lt_succ_of_lt (h.gen _ _ _ hp')
       ·cases hx
      ·cases hx
     ·cases hx
    ·cases hx
   ·cases hx
  ·cases hx
theorem Weak.nil1 (s:St) (t:Nat) (u:AV):Weak s (zl2 s t u):=by
 intro rd O w0 a w ⟨rd',φ,hx,h⟩
 obtain ⟨φ1,x1,h1,g1,v1⟩:=zdd (u:=u) h.heap h.gen (h.look t)
 refine ⟨rd',φ1,hx.step .refl x1,h1,fun t' v hl=>?_,h.size,h.defers,g1⟩
 show VRel rd' φ1 v _
 unfold zl2 nilP at hl
 simp only [zA] at hl
 split at hl
 ·rename_i e
  subst e
  cases hl
  exact v1
 ·exact (h.tm t' v hl).mono (fun _ _ _ h=>h) x1
theorem Weak.nilN:∀(l:List (Nat × Nat)) (s:St),Weak s (nilN l s)
 | [],s=>.refl s
 | (t,sz)::l,s=>by
  simp only [E.nilN]
  split
  ·exact (Weak.nilCell s _ _ _).trans (Weak.nilN l _)
  ·exact (Weak.nil1 s t _).trans (Weak.nilN l _)
end
def zef:SC J→Bool
 | .dr t anc l af=>chkT t anc (soI l) af
 | .seq a b=>zef a&&zef b
 | .sq _ a b=>zef a&&zef b
 | .ct a b=>zef a&&zef b
 | .cond _ a b=>zef a&&zef b
 | .block _ c=>zef c
 | .loop c=>zef c
 | .lp _ c=>zef c
 | .rng _ _ _ _ _ _ _ b=>zef b
 | _=>true
end Go.Proofs.YtpjpkmhaffmbmaaGreat.E
end
section
namespace Go.Proofs.YtpjpkmhaffmbmaaGreat.E
open Go Go.RowKit
set_option linter.unusedVariables false
inductive CK where
 | cl
 | ca
 | cm (ms:List Bool)
 | cn (ms:List Bool)
structure Dec where
 mv:List (Nat × CK)
 str:List Nat
 sli:List Nat
 oc:Bool
def ckOf (f:Nat):List (Nat × CK)→CK
 | []=>.cl
 | (g,k)::r=>match Nat.beq g f with
  | true=>k
  | false=>ckOf f r
def zp8 (x:Nat):List Nat→Bool
 | []=>false
 | y::l=>match Nat.beq x y with
  | true=>true
  | false=>zp8 x l
def zpN (x:Nat):List Nat→List Nat
 | []=>[x]
 | y::l=>match Nat.blt x y with
  | true=>x::y::l
  | false=>match Nat.beq x y with
   | true=>y::l
   | false=>y::zpN x l
def unN:List Nat→List Nat→List Nat
 | [],m=>m
 | x::l,m=>unN l (zpN x m)
def delN (x:Nat):List Nat→List Nat
 | []=>[]
 | y::l=>match Nat.beq x y with
  | true=>l
  | false=>y::delN x l
def frN {α:Type}:Nat→(Nat→α)→α
 | 0,k=>k 0
 | n+1,k=>k (n+1)
def frL {α:Type}:List Nat→(List Nat→α)→α
 | [],k=>k []
 | x::l,k=>frN x fun x=>frL l fun l=>k (x::l)
def frM {α:Type}:List (List Nat)→(List (List Nat)→α)→α
 | [],k=>k []
 | x::l,k=>frL x fun x=>frM l fun l=>k (x::l)
def zqq:Nat→List Nat→List Nat
 | 0,l=>l
 | n+1,l=>zqq n (n::l)
def zqA:List Nat→List Nat→Bool
 | [],[]=>true
 | x::l,y::m=>match Nat.beq x y with
  | true=>zqA l m
  | false=>false
 | _,_=>false
def callW (D:Dec) (d:Option Nat) (c:Call):I:=
 match c.callee,c.args.toList,c.argTypes.toList,d with
 | .value (.func f),xs,ts,d=>match ckOf f D.mv with
  | .cl=>.cl d f xs ts
  | .ca=>.ca d f xs ts
  | .cm ms=>.cm d f ms xs ts
  | .cn ms=>.cn d f ms xs ts
 | .value (.tmp t),xs,ts,d=>.cu d (.tmp t) xs ts
 | .builtin .len,[x],[t],some d=>.ln d t x
 | .builtin .min,[x,y],ts,some d=>.mn d x y ts
 | .builtin .max,[x,y],ts,some d=>.mx d x y ts
 | .builtin .append,[x,y],[t,u],d=>.ap d t u x y
 | .builtin .copy,[x,y],[t,u],d=>.cp d t u x y
 | _,_,_,_=>.op d (.call c)
def opW (D:Dec) (d:Nat) (bo:Bool):Op→I
 | .move x=>.mv d x
 | .assign x=>.as d x
 | .pick c a b=>.pk d c a b
 | .alloc t=>.al d t
 | .box t x=>.bx d t x
 | .load t (.global g)=>.lz d t g
 | .load t x=>.ld d t x
 | .fieldAddr t x f=>.fa d t x f
 | .extract x i=>.ex d x i
 | .nilCheck x=>.nc d x
 | .binOp b t x y u=>.bn d b t x y u
 | .unOp b t x=>.un d b t x
 | .convert s t x=>match zp8 s D.str&&zp8 t D.sli with
  | true=>.sb d s t x
  | false=>.cv d s t x
 | .indexAddr t x y=>.ia d t x y
 | .index t x y=>.ix d t x y
 | .field t x f=>.fd d t x f
 | .slice t x a b c=>.sl d t x a b c
 | .build t ps=>.bd d t ps.toList
 | .buildSlice t n ps=>match bo with
  | true=>.bo d t n ps.toList
  | false=>.bs d t n ps.toList
 | .makeSlice t x y=>.ms d t x y
 | .makeFunc (.func f) a b=>match a.toList,b.toList with
  | [x],[]=>.mf d f x
  | _,_=>.op (some d) (.makeFunc (.func f) a b)
 | .makeMap t none=>.mk d t
 | .lookup t x k ok=>.lu d t x k ok
 | o=>.op (some d) o
def word (D:Dec) (bo:Bool) (d:Option Nat) (o:Op):I:=
 match o,d with
 | .store t a x,none=>.st t a x
 | .call c,d=>callW D d c
 | .mapUpdate t m k x,none=>.mu t m k x
 | o,some d=>opW D d bo o
 | o,none=>.op none o
def zrr (ops:List Oper) (j:Nat):Nat:=match ops[j]? with
 | some o=>o.dst.getD 0
 | none=>0
def zet (D:Dec) (ops:List Oper) (bos:List Nat):Nat→List Oper→List J
 | _,[]=>[]
 | i,o::r=>(match o.guard with
  | none=>J.p (word D (zp8 i bos) o.dst o.op)
  | some (j,w)=>J.g (zrr ops j) w (word D (zp8 i bos) o.dst o.op))::zet D ops bos (i+1) r
def zgX:List Operand→List Nat→List Nat
 | [],m=>m
 | .tmp t::l,m=>zgX l (zpN t m)
 | _::l,m=>zgX l m
def zqZ (ops:List Oper):List Oper→List Nat→List Nat
 | [],m=>m
 | o::r,m=>frL (zqZ ops r m) fun m=>
  let m:=match o.dst with
   | some d=>delN d m
   | none=>m
  let m:=zgX o.op.operands.toList m
  match o.guard with
  | some (j,_)=>zpN (zrr ops j) m
  | none=>m
def exOf (id:Nat):List (Nat × List Nat)→List Nat
 | []=>[]
 | (i,m)::r=>match Nat.beq i id with
  | true=>m
  | false=>exOf id r
def kindW:I→Nat
 | .mv .. | .as .. | .pk .. | .fa .. | .ex .. | .nc .. | .bn .. | .un .. | .ln .. | .mn .. | .mx .. | .ix .. | .fd .. | .sl .. | .bd .. | .bo ..=>1
 | .ld .. | .ia .. | .cv ..=>2
 | .bs ..=>3
 | _=>0
def iOf:J→I
 | .p i=>i
 | .g _ _ i=>i
def zqg (s i:Nat):Bool:=Nat.beq (Nat.land (Nat.shiftRight s i) 1) 1
def slN (a i:Nat):Nat:=Nat.land (Nat.shiftRight a (Nat.mul i 256)) (Nat.sub (Nat.pow 2 256) 1)
def kdN (ks i:Nat):Nat:=Nat.land (Nat.shiftRight ks (Nat.mul i 2)) 3
def zn9:List J→Nat
 | []=>0
 | j::l=>Nat.add (kindW (iOf j)) (Nat.mul 4 (zn9 l))
def zqR:List Nat→Nat
 | []=>0
 | j::l=>Nat.lor (Nat.shiftLeft 1 j) (zqR l)
def zqF:List (List Nat)→Nat
 | []=>0
 | a::l=>Nat.lor (zqR a) (Nat.shiftLeft (zqF l) 256)
def orA (acc:Nat):List Nat→Nat
 | []=>0
 | j::a=>Nat.lor (Nat.lor (Nat.shiftLeft 1 j) (slN acc j)) (orA acc a)
def ancP:Nat→Nat→List (List Nat)→Nat
 | _,acc,[]=>acc
 | i,acc,a::r=>frN (Nat.lor acc (Nat.shiftLeft (orA acc a) (Nat.mul i 256))) fun acc=>frN (Nat.add i 1) fun i=>ancP i acc r
def zpn (s:Nat):List Nat→List Nat
 | []=>[]
 | i::r=>match zqg s i with
  | true=>i::zpn s r
  | false=>zpn s r
def zi4 (a:Nat) (all:List Nat):List Nat→List (List Nat)
 | []=>[]
 | i::r=>(frN (slN a i) fun s=>zpn s all)::zi4 a all r
def rdyN (af done i:Nat):Bool:=match zqg done i with
 | true=>false
 | false=>frN (slN af i) fun s=>Nat.beq (Nat.land s done) s
def zqD (ks i:Nat):Bool:=match kdN ks i with
 | 1=>true
 | 2=>true
 | _=>false
def zkF (ks af done:Nat):List Nat→Option Nat
 | []=>none
 | i::r=>match zqD ks i with
  | false=>zkF ks af done r
  | true=>match rdyN af done i with
   | true=>some i
   | false=>zkF ks af done r
def zjt (af done:Nat):List Nat→List Nat
 | []=>[]
 | i::r=>match rdyN af done i with
  | true=>i::zjt af done r
  | false=>zjt af done r
def zju (ks done an:Nat):List Nat→List Nat
 | []=>[]
 | k::r=>match zqg done k,Nat.beq (kdN ks k) 2,zqg an k with
  | true,true,false=>k::zju ks done an r
  | _,_,_=>zju ks done an r
def orT:List DT→DT
 | []=>.nil
 | [t]=>t
 | t::r=>.or t (orT r)
def znV (ks:Nat) (all:List Nat) (anc af:Nat):Nat→Nat→DT
 | 0,_=>.nil
 | n+1,done=>match zkF ks af done all with
  | some p=>frN (Nat.lor done (Nat.shiftLeft 1 p)) fun done=>.pu p (znV ks all anc af n done)
  | none=>orT ((zjt af done all).map fun e=>frN (slN anc e) fun an=>.ef e (zju ks done an all) (frN (Nat.lor done (Nat.shiftLeft 1 e)) fun done=>znV ks all anc af n done))
def drW (D:Dec) (ops:List Oper):SC J:=
 frM (ops.map zfJ) fun afl=>frL (zqq ops.length []) fun all=>frN (zqF afl) fun af=>frN (ancP 0 0 afl) fun anc=>frN (zn9 (zet D ops [] 0 ops)) fun ks=>
 frL (all.filter fun i=>!zqD ks i) fun eff=>
 frL (eff.filter fun i=>Nat.beq (kdN ks i) 3&&eff.any fun j=>!Nat.beq i j&&!zqg (slN anc i) j&&!zqg (slN anc j) i) fun bos=>
 frN (zn9 (zet D ops bos 0 ops)) fun ks=>.dr (znV ks all anc af ops.length 0) (zi4 anc all all) (zet D ops bos 0 ops) afl
def zio:Code→Bool
 | .ret=>true
 | .exit _=>true
 | .seq a b=>zio a||zio b
 | .cond _ a b=>zio a&&zio b
 | _=>false
def isifW:Code→Bool
 | .seq _ (.cond _ a b)=>!zio a&&!zio b
 | _=>false
def zkj:List J→Option (List J × Nat × Nat × Operand)
 | []=>none
 | [.p (.op (some it) (.range ty x))]=>some ([],it,ty,x)
 | j::l=>match zkj l with
  | some (pre,r)=>some (j::pre,r)
  | none=>none
def seqW (D:Dec) (ct:Bool) (ks:List Nat) (a b:SC J):SC J:=
 match a,b with
 | .reg l,.block id (.lp ms (.sq k1 (.reg [.p (.op (some tn) (.next n s)),.p (.ex tb y z)]) (.sq k2 (.cond c .skip (.exit e)) body)))=>match zkj l with
  | some (pre,it,ty,x)=>match zp8 ty D.str with
   | true=>.rng id pre it ty x tn tb body
   | false=>.sq ks a b
  | none=>.sq ks a b
 | a,b=>match ct with
  | true=>.ct a b
  | false=>.sq ks a b
def orD:DT→Bool
 | .nil=>false
 | .pu _ t=>orD t
 | .ef _ _ t=>orD t
 | .or _ _=>true
def orC:SC J→Bool
 | .dr t _ _ _=>orD t
 | _=>false
def fixN (f:List Nat→List Nat):Nat→List Nat→List Nat
 | 0,m=>m
 | n+1,m=>frL (f m) fun m2=>match zqA m2 m with
  | true=>m
  | false=>frL (unN m2 m) fun m=>fixN f n m
def ze6 (ret:List Nat):Code→List Nat→List (Nat × List Nat)→List Nat
 | .skip,out,ex=>out
 | .ret,out,ex=>ret
 | .exit id,out,ex=>exOf id ex
 | .seq a b,out,ex=>frL (ze6 ret b out ex) fun m=>ze6 ret a m ex
 | .cond c a b,out,ex=>zgX [c] (unN (ze6 ret a out ex) (ze6 ret b out ex))
 | .block id c,out,ex=>ze6 ret c out ((id,out)::ex)
 | .loop c,out,ex=>fixN (fun m=>ze6 ret c m ex) 5 []
 | .region _ ops _,out,ex=>zqZ ops.toList ops.toList out
 | _,out,ex=>out
def zfm (D:Dec) (ct:Bool) (ret:List Nat):Code→List Nat→List (Nat × List Nat)→SC J
 | .skip,_,_=>.skip
 | .ret,_,_=>.ret
 | .exit id,_,_=>.exit id
 | .seq a b,out,ex=>
  frL (ze6 ret b out ex) fun m=>seqW D ((ct&&isifW a)||(D.oc&&orC (zfm D ct ret a m ex))) m (zfm D ct ret a m ex) (zfm D ct ret b out ex)
 | .cond c a b,out,ex=>.cond c (zfm D ct ret a out ex) (zfm D ct ret b out ex)
 | .block id c,out,ex=>.block id (zfm D ct ret c out ((id,out)::ex))
 | .loop c,out,ex=>
  frL (fixN (fun m=>ze6 ret c m ex) 5 []) fun m=>.lp m (zfm D ct ret c m ex)
 | .region _ ops false,out,ex=>.reg (zet D ops.toList [] 0 ops.toList)
 | .region _ ops true,out,ex=>drW D ops.toList
 | _,_,_=>.bad
def resT:List ResultVar→List Nat→List Nat
 | [],m=>m
 | .tmp t::r,m=>resT r (zpN t m)
 | .cell t _::r,m=>resT r (zpN t m)
def decW (D:Dec) (ct:Bool) (f:Func):SC J:=match f.body with
 | some c=>zfm D ct (resT f.results.toList []) c (resT f.results.toList []) []
 | none=>.bad
end Go.Proofs.YtpjpkmhaffmbmaaGreat.E
end
section
namespace Go.Proofs.YtpjpkmhaffmbmaaGreat.E
open Go Go.RowKit
set_option linter.unusedVariables false
theorem zbE:∀{c:Code} {A B:SC SO},xh c=.seq A B→∃a b,c=.seq a b∧xh a=A∧xh b=B
 | .seq a b,A,B,h=>by cases h;exact ⟨a,b,rfl,rfl,rfl⟩
 | .region _ ops d,A,B,h=>by cases d<;>cases h
 | .skip,A,B,h | .ret,A,B,h | .exit _,A,B,h | .cond ..,A,B,h | .block ..,A,B,h | .loop _,A,B,h | .rangeFunc ..,A,B,h | .scope _,A,B,h | .label _,A,B,h | .goto _,A,B,h | .refuse _,A,B,h=>by cases h
theorem zeB:∀{c:Code} {L:List SO},xh c=.reg L→∃i ops,c=.region i ops false∧soL ops ops.toList=L
 | .region i ops d,L,h=>by
  cases d with
  | true=>cases h
  | false=>cases h;exact ⟨i,ops,rfl,rfl⟩
 | .seq ..,L,h | .skip,L,h | .ret,L,h | .exit _,L,h | .cond ..,L,h | .block ..,L,h | .loop _,L,h | .rangeFunc ..,L,h | .scope _,L,h | .label _,L,h | .goto _,L,h | .refuse _,L,h=>by cases h
theorem zfR:∀{c:Code} {id:Nat} {A:SC SO},xh c=.block id A→∃a,c=.block id a∧xh a=A
 | .block _ a,id,A,h=>by cases h;exact ⟨a,rfl,rfl⟩
 | .region _ ops d,id,A,h=>by cases d<;>cases h
 | .seq ..,id,A,h | .skip,id,A,h | .ret,id,A,h | .exit _,id,A,h | .cond ..,id,A,h | .loop _,id,A,h | .rangeFunc ..,id,A,h | .scope _,id,A,h | .label _,id,A,h | .goto _,id,A,h | .refuse _,id,A,h=>by cases h
theorem zhR:∀{c:Code} {A:SC SO},xh c=.loop A→∃a,c=.loop a∧xh a=A
 | .loop a,A,h=>by cases h;exact ⟨a,rfl,rfl⟩
 | .region _ ops d,A,h=>by cases d<;>cases h
 | .seq ..,A,h | .skip,A,h | .ret,A,h | .exit _,A,h | .cond ..,A,h | .block ..,A,h | .rangeFunc ..,A,h | .scope _,A,h | .label _,A,h | .goto _,A,h | .refuse _,A,h=>by cases h
theorem zhT:∀{c:Code} {x:Operand} {A B:SC SO},xh c=.cond x A B→∃a b,c=.cond x a b∧xh a=A∧xh b=B
 | .cond _ a b,x,A,B,h=>by cases h;exact ⟨a,b,rfl,rfl,rfl⟩
 | .region _ ops d,x,A,B,h=>by cases d<;>cases h
 | .seq ..,x,A,B,h | .skip,x,A,B,h | .ret,x,A,B,h | .exit _,x,A,B,h | .block ..,x,A,B,h | .loop _,x,A,B,h | .rangeFunc ..,x,A,B,h | .scope _,x,A,B,h | .label _,x,A,B,h | .goto _,x,A,B,h | .refuse _,x,A,B,h=>by cases h
theorem zhQ:∀{c:Code},xh c=.skip→c=.skip
 | .skip,h=>rfl
 | .region _ ops d,h=>by cases d<;>cases h
 | .seq ..,h | .ret,h | .exit _,h | .cond ..,h | .block ..,h | .loop _,h | .rangeFunc ..,h | .scope _,h | .label _,h | .goto _,h | .refuse _,h=>by cases h
theorem zhS:∀{c:Code} {id:Nat},xh c=.exit id→c=.exit id
 | .exit _,id,h=>by cases h;rfl
 | .region _ ops d,id,h=>by cases d<;>cases h
 | .seq ..,id,h | .ret,id,h | .skip,id,h | .cond ..,id,h | .block ..,id,h | .loop _,id,h | .rangeFunc ..,id,h | .scope _,id,h | .label _,id,h | .goto _,id,h | .refuse _,id,h=>by cases h
theorem zji {ops:Array Oper}:∀{l:List Oper} {A B:List SO},soL ops l=A++B→∃a b,l=a++b∧soL ops a=A∧soL ops b=B
 | l,[],B,h=>⟨[],l,rfl,rfl,h⟩
 | [],x::A,B,h=>by cases h
 | o::l,x::A,B,h=>by
  simp only [soL,List.cons_append,List.cons.injEq] at h
  obtain ⟨a,b,h1,h2,h3⟩:=zji h.2
  exact ⟨o::a,b,by rw [h1];rfl,by simp only [soL,h2,h.1],h3⟩
theorem zjf {ops:Array Oper} {o:Oper} {d:Option Nat} {p:Op} (h:so ops o=⟨d,p,none⟩) (hp:zbM ⟨d,p,none⟩=true):o.op=p∧o.dst=d∧o.guard=none:=by
 unfold so at h
 split at h
 ·rename_i hg;cases h;exact ⟨rfl,rfl,hg⟩
 ·split at h
  ·cases h
  ·cases h;cases hp
theorem zhP {P:Program} {t:Nat} (h:tk P t=some .string):P.underlying t=some .string:=by
 obtain ⟨i,hi,hk⟩:=zcJ h
 obtain ⟨dsc,h1,h2,-⟩:=yO hi
 rw [hk] at h2
 cases dsc<;>simp [xe] at h2
 exact h1
theorem wS {P:Program} (hf:P.follows .mixedOrders=true):∀(c:SC J) {s:St} {Q Q':Exit→St→Prop},zef c=true→(∀e s,Q e s→Q' e s)→jv P c s Q→sv P (exC c) s Q'
 | .skip,s,Q,Q',hd,h,hk=>h _ _ hk
 | .ret,s,Q,Q',hd,h,hk=>h _ _ hk
 | .exit id,s,Q,Q',hd,h,hk=>h _ _ hk
 | .seq a b,s,Q,Q',hd,h,hk=>.inl (wS hf a (Bool.and_eq_true_iff.1 hd).1 (fun e s hs=>by
   cases e with
   | normal=>exact ⟨s,.refl s,wS hf b (Bool.and_eq_true_iff.1 hd).2 h hs⟩
   | _=>exact h _ _ hs) hk)
 | .sq ks a b,s,Q,Q',hd,h,hk=>.inl (wS hf a (Bool.and_eq_true_iff.1 hd).1 (fun e s hs=>by
   cases e with
   | normal=>exact ⟨_,.keep ks s,wS hf b (Bool.and_eq_true_iff.1 hd).2 h hs⟩
   | _=>exact h _ _ hs) hk)
 | .ct a b,s,Q,Q',hd,h,hk=>.inl (wS hf a (Bool.and_eq_true_iff.1 hd).1 (fun e s hs=>by
   cases e with
   | normal=>
    obtain ⟨s'',hw,hs⟩:=hs
    exact ⟨s'',hw,wS hf b (Bool.and_eq_true_iff.1 hd).2 h hs⟩
   | _=>exact h _ _ hs) hk)
 | .cond c x y,⟨n,tm,σ,G⟩,Q,Q',hd,h,hk=>by
  simp only [jv] at hk
  simp only [exC,sv,zfg]
  split at hk
  ·rename_i b hb
   cases b with
   | true=>exact wS hf x (Bool.and_eq_true_iff.1 hd).1 h hk
   | false=>exact wS hf y (Bool.and_eq_true_iff.1 hd).2 h hk
  ·cases hk
 | .block id c,s,Q,Q',hd,h,hk=>wS hf c hd (fun e s hs=>by
   cases e with
   | exit id'=>
    simp only [yH] at hs ⊢
    split at hs
    ·exact h _ _ hs
    ·exact h _ _ hs
   | _=>exact h _ _ hs) hk
 | .loop c,s,Q,Q',hd,h,hk=>by
  obtain ⟨I,n,s1,h1,h2,h3⟩:=hk
  exact ⟨I,n,s1,h1,h2,fun m s2 hI=>wS hf c hd (fun e s hs=>by
   cases e with
   | normal=>exact hs
   | _=>exact h _ _ hs) (h3 m s2 hI)⟩
 | .lp ks c,s,Q,Q',hd,h,hk=>by
  obtain ⟨I,n,s1,h1,h2,h3⟩:=hk
  exact ⟨I,n,s1,h1,h2,fun m s2 hI=>wS hf c hd (fun e s hs=>by
   cases e with
   | normal=>exact hs
   | _=>exact h _ _ hs) (h3 m s2 hI)⟩
 | .reg l,s,Q,Q',hd,h,hk=>zbK (fun s hs=>h _ _ hs) (jr l s _ hk)
 | .dr t anc l af,s,Q,Q',hd,h,hk=>⟨hf,t,anc,hd,wh (fun s hs=>h _ _ hs) (ze8 l t s _ hk)⟩
 | .rng id l it ty x tn tb b,s,Q,Q',hd,h,hk=>by
  refine .inr fun c hc=>?_
  obtain ⟨hty,hk⟩:=hk
  obtain ⟨a,b',rfl,ha,hb1⟩:=zbE hc
  obtain ⟨i1,ops1,rfl,h1⟩:=zeB ha
  obtain ⟨c1,rfl,hb2⟩:=zfR hb1
  obtain ⟨c2,rfl,hb3⟩:=zhR hb2
  obtain ⟨c3,c4,rfl,h20,hb4⟩:=zbE hb3
  obtain ⟨i2,ops2,rfl,h2⟩:=zeB h20
  obtain ⟨c5,body,rfl,h3,hb⟩:=zbE hb4
  obtain ⟨c6,c7,rfl,h4,h5⟩:=zhT h3
  obtain rfl:=zhQ h4
  obtain rfl:=zhS h5
  obtain ⟨pre,last,e1,h6,h7⟩:=zji h1
  obtain ⟨oR,l8,rfl,h8⟩:∃oR l8,last=oR::l8∧soL ops1 last=so ops1 oR::soL ops1 l8:=by
   cases last with
   | nil=>cases h7
   | cons o l=>exact ⟨o,l,rfl,rfl⟩
  rw [h8] at h7
  simp only [List.cons.injEq] at h7
  have hl8:l8=[]:=by
   cases l8 with
   | nil=>rfl
   | cons o l=>cases h7.2
  subst hl8
  obtain ⟨oN,oE,e2,hN,hE⟩:∃oN oE,ops2.toList=[oN,oE]∧so ops2 oN=⟨some tn,.next (.tmp it) true,none⟩∧so ops2 oE=⟨some tb,.extract (.tmp tn) 0,none⟩:=by
   cases hl:ops2.toList with
   | nil=>rw [hl] at h2;cases h2
   | cons o1 l=>
    rw [hl] at h2
    cases l with
    | nil=>simp [soL] at h2
    | cons o2 l=>
     cases l with
     | nil=>
      simp only [soL,List.cons.injEq] at h2
      exact ⟨o1,o2,rfl,h2.1,h2.2.1⟩
     | cons o3 l=>simp [soL] at h2
  refine zlK e1 (zjf h7.1 rfl) e2 (zjf hN rfl) (zjf hE rfl) (zhP hty) ?_
  refine zf0 ?_ (h6▸jr l s _ hk)
  rintro ⟨n,tm,σ,G⟩ ⟨str,hx,hit,hI⟩
  refine ⟨str,by rw [zfg];exact hx,hit,fun r=>?_⟩
  obtain ⟨I,s2,hw,h0,hr⟩:=hI r
  refine ⟨I,s2,hw,h0,fun pos s3 hp=>⟨(hr pos s3 hp).1,fun hlt=>?_,fun hlt=>h _ _ ((hr pos s3 hp).2.2 hlt)⟩⟩
  obtain ⟨c,hdd,hbd⟩:=(hr pos s3 hp).2.1 hlt
  refine ⟨c,hdd,zcN body (fun _ _ h=>h) (hb▸wS hf b hd (fun e s hs=>?_) hbd)⟩
  cases e with
  | normal=>exact hs
  | exit id'=>
   simp only [yI,yH] at hs ⊢
   split at hs
   ·exact h _ _ hs
   ·exact h _ _ hs
  | _=>exact h _ _ hs
 | .bad,s,Q,Q',hd,h,hk=>by cases hk
def zsw (P:Program) (rs:List ResultVar) (s:St) (res:AV) (rf:List (List Nat × Row)):Prop:=
 match jW P s rs with
 | some vs=>RetA res rf (zfE (zev res vs) vs s.σ s.G)
 | none=>False
def zqB (P:Program) (rs:List ResultVar) (res:AV) (rf:List (List Nat × Row)):Exit→St→Prop
 | .ret,s=>zsw P rs s res rf
 | .normal,s=>zsw P rs s res rf
 | _,_=>False
def zhJ (P:Program) (n:Nat) (c:SC J) (N:Nat) (rs:List ResultVar):Prop:=
 ∃fn:Func,P.funcs[n]?=some fn∧fn.body.map xh=some (exC c)∧(fn.name== "runtime.NumGoroutine")=false∧fn.ntmps=N∧fn.results.toList=rs∧P.follows .mixedOrders=true∧zef c=true
theorem zcz {P:Program} {n:Nat} {fn:Func} {c:SC J} {N:Nat} {rs:List ResultVar}
  (h:(P.funcs[n]?,fn.body.map xh,fn.name== "runtime.NumGoroutine",fn.ntmps,fn.results.toList,P.follows .mixedOrders)=(some fn,some (exC c),false,N,rs,true)) (hd:zef c=true):zhJ P n c N rs:=by
 simp only [Prod.mk.injEq] at h
 exact ⟨fn,h.1,h.2.1,h.2.2.1,h.2.2.2.1,h.2.2.2.2.1,h.2.2.2.2.2,hd⟩
abbrev Use (_:SC J) (G:Prop):Prop:=G
theorem zl {G:Prop} (D:Dec) (ct:Bool) (fn:Func) (h:Use (decW D ct fn) G):G:=h
theorem zgE {P:Program} {n:Nat} {c:SC J} {N:Nat} {rs:List ResultVar} (hb:zhJ P n c N rs)
  {args:List AV} {res:AV} {rf:List (List Nat × Row)} (hlen:Nat.ble args.length N=true) (hv:jv P c ⟨N,zaf 0 args,[],0⟩ (zqB P rs res rf)):CallR P n args res rf:=by
 obtain ⟨fn,hf,hb,hn,rfl,rfl,hfo,hd⟩:=hb
 cases hbody:fn.body with
 | none=>rw [hbody] at hb;cases hb
 | some code=>
  rw [hbody] at hb
  have e:xh code=exC c:=Option.some.inj hb
  have hq:∀e s,zqB P fn.results.toList res rf e s→retK P fn res rf e s:=by
   intro e s h
   cases e<;>exact h
  exact zgD hf hbody hn (Nat.le_of_ble_eq_true hlen) (zcN code (fun _ _ h=>h) (e▸wS hfo c hd hq hv))
def retM (P:Program) (rs:List ResultVar) (res:AV) (σout:Sig):Exit→St→Prop
 | .ret,s=>zfG P rs s res σout
 | .normal,s=>zfG P rs s res σout
 | _,_=>False
theorem zgF {P:Program} {n:Nat} {c:SC J} {N:Nat} {rs:List ResultVar} (hb:zhJ P n c N rs)
  {σin:Sig} {args:List AV} {res:AV} {σout:Sig} (hlen:Nat.ble args.length N=true) (hv:jv P c ⟨N,zaf 0 args,σin,1⟩ (retM P rs res σout)):zW P n σin args res σout:=by
 obtain ⟨fn,hf,hb,hn,rfl,rfl,hfo,hd⟩:=hb
 cases hbody:fn.body with
 | none=>rw [hbody] at hb;cases hb
 | some code=>
  rw [hbody] at hb
  have e:xh code=exC c:=Option.some.inj hb
  exact zcw hf hbody hn (Nat.le_of_ble_eq_true hlen) (zcN code (fun _ _ h=>h) (e▸wS hfo c hd (fun e s h=>by
   cases e<;>exact h) hv))
theorem zlL {P:Program} {rs:List ResultVar} {res:AV} {σout:Sig} {s:St}:retM P rs res σout .ret s=zfG P rs s res σout:=rfl
theorem zf2 {P:Program} {rs:List ResultVar} {res:AV} {σout:Sig} {s:St}:retM P rs res σout .normal s=zfG P rs s res σout:=rfl
theorem jvR {P:Program} {n:Nat} {c:SC J} (fn:Func) (N:Nat) (rs:List ResultVar) {args:List AV} {res:AV} {rf:List (List Nat × Row)}
  (h:(P.funcs[n]?,fn.body.map xh,fn.name== "runtime.NumGoroutine",fn.ntmps,fn.results.toList,P.follows .mixedOrders)=(some fn,some (exC c),false,N,rs,true)) (hd:zef c=true) (hlen:Nat.ble args.length N=true)
  (hv:jv P c ⟨N,zaf 0 args,[],0⟩ (zqB P rs res rf)):Use c (CallR P n args res rf):=zgE (zcz h hd) hlen hv
theorem jvM {P:Program} {n:Nat} {c:SC J} (fn:Func) (N:Nat) (rs:List ResultVar) {σin:Sig} {args:List AV} {res:AV} {σout:Sig}
  (h:(P.funcs[n]?,fn.body.map xh,fn.name== "runtime.NumGoroutine",fn.ntmps,fn.results.toList,P.follows .mixedOrders)=(some fn,some (exC c),false,N,rs,true)) (hd:zef c=true) (hlen:Nat.ble args.length N=true)
  (hv:jv P c ⟨N,zaf 0 args,σin,1⟩ (retM P rs res σout)):Use c (zW P n σin args res σout):=zgF (zcz h hd) hlen hv
def zsB (P:Program) (b:SC J) (Q:Exit→St→Prop) (s:St):Prop:=jv P b s Q
def zpz (P:Program) (l:List J) (Q:St→Prop) (s:St):Prop:=zhn P l s Q
def zmy (P:Program) (a b:SC J) (s:St) (Q:Exit→St→Prop) (v:AV):Prop:=match v with
 | .sc (.bool c)=>Br c (jv P a s Q) (jv P b s Q)
 | _=>False
theorem zi {P:Program} {a b:SC J} {s:St} {Q:Exit→St→Prop} {c:Bool} (h:c=true→jv P a s Q) (k:c=false→jv P b s Q):zmy P a b s Q (.sc (.bool c)):=zmN h k
section
variable {P:Program} {n G:Nat} {tm:List (Nat × AV)} {σ:Sig} {Q:Exit→St→Prop} {K:St→Prop} {d t f i id:Nat} {x y z:Operand} {l:List J} {w:Bool} {s:St} {a b:SC J}
theorem zb:zmy P a b s Q (.sc (.bool true))=jv P a s Q:=rfl
theorem za:zmy P a b s Q (.sc (.bool false))=jv P b s Q:=rfl
theorem zc {i:I}:yN P n tm σ G t true i K (.sc (.bool true))=iSt P i ⟨n,tm,σ,G⟩ K:=rfl
theorem zf {i:I}:yN P n tm σ G t false i K (.sc (.bool false))=iSt P i ⟨n,tm,σ,G⟩ K:=rfl
theorem ze {i:I}:yN P n tm σ G t true i K (.sc (.bool false))=zgl i ⟨n,tm,σ,G⟩ K:=rfl
theorem zg {i:I}:yN P n tm σ G t false i K (.sc (.bool true))=zgl i ⟨n,tm,σ,G⟩ K:=rfl
theorem zkt {i:I}:yN P n tm σ G t w i K (.tup [])=zgl i ⟨n,tm,σ,G⟩ K:=rfl
theorem zm {i:I} {c:Bool} (h:c=true→yN P n tm σ G t w i K (.sc (.bool true))) (k:c=false→yN P n tm σ G t w i K (.sc (.bool false))):yN P n tm σ G t w i K (.sc (.bool c)):=by
 cases c with
 | true=>exact h rfl
 | false=>exact k rfl
theorem zmL:zsB P b Q ⟨n,tm,σ,G⟩=jv P b ⟨n,tm,σ,G⟩ Q:=rfl
theorem zmM:zpz P l K ⟨n,tm,σ,G⟩=zhn P l ⟨n,tm,σ,G⟩ K:=rfl
theorem zox:jv P .skip s Q=Q .normal s:=rfl
theorem zq4:jv P .ret s Q=Q .ret s:=rfl
theorem zoy:jv P (.exit id) s Q=Q (.exit id) s:=rfl
theorem zq2:jv P (.seq a b) s Q=jv P a s (yI Q (zsB P b Q)):=rfl
theorem zmb:jv P (.block id a) s Q=jv P a s (yH id Q):=rfl
theorem zoz:jv P (.cond x a b) ⟨n,tm,σ,G⟩ Q=zmy P a b ⟨n,tm,σ,G⟩ Q (evT tm x):=rfl
theorem zq5:jv P (.reg l) s Q=zhn P l s (Norm Q):=rfl
theorem zmc:zhn P [] s K=K s:=rfl
theorem zq8 {i:I}:zhn P (.p i::l) s K=iSt P i s (zpz P l K):=rfl
theorem zq9 {i:I}:zhn P (.g t w i::l) ⟨n,tm,σ,G⟩ K=yN P n tm σ G t w i (zpz P l K) (yz tm t):=rfl
def znN (P:Program) (l:List J) (t:DT) (K:St→Prop) (s:St):Prop:=jT P l t s K
def znO (P:Program) (l:List J) (rc:List Nat) (tm:List (Nat × AV)) (σ:Sig) (t:DT) (K:St→Prop) (s:St):Prop:=zfX P l tm σ s.σ rc∧jT P l t s K
def jPw (P:Program) (n:Nat) (tm:List (Nat × AV)) (σ:Sig) (G:Nat) (K:St→Prop):Option J→Prop
 | some (.p j)=>(ze9 j=true∧xk j.so.o=true)∧iSt P j ⟨n,tm,σ,G⟩ K
 | some (.g u w j)=>(ze9 j=true∧xk j.so.o=true)∧yN P n tm σ G u w j K (yz tm u)
 | none=>False
def jEw (P:Program) (n:Nat) (tm:List (Nat × AV)) (σ:Sig) (G:Nat) (K:St→Prop):Option J→Prop
 | some (.p j)=>iSt P j ⟨n,tm,σ,G⟩ K
 | some (.g u w j)=>yN P n tm σ G u w j K (yz tm u)
 | none=>False
theorem zll {t:DT}:znN P l t K ⟨n,tm,σ,G⟩=jT P l t ⟨n,tm,σ,G⟩ K:=rfl
theorem zlm {t:DT} {rc:List Nat} {tm0:List (Nat × AV)} {σ0:Sig}:znO P l rc tm0 σ0 t K ⟨n,tm,σ,G⟩=(zfX P l tm0 σ0 σ rc∧jT P l t ⟨n,tm,σ,G⟩ K):=rfl
theorem jv_dr {t:DT} {anc af:List (List Nat)}:jv P (.dr t anc l af) s Q=jT P l t s (Norm Q):=rfl
theorem zq7:jT P l .nil s K=K s:=rfl
theorem jT_pu {t:DT}:jT P l (.pu i t) ⟨n,tm,σ,G⟩ K=jPw P n tm σ G (znN P l t K) (zhd l i):=by
 rw [jT]
 cases h:zhd l i with
 | none=>rfl
 | some j=>cases j<;>rfl
theorem jT_ef {t:DT} {rc:List Nat}:jT P l (.ef i rc t) ⟨n,tm,σ,G⟩ K=jEw P n tm σ G (znO P l rc tm σ t K) (zhd l i):=by
 rw [jT]
 cases h:zhd l i with
 | none=>rfl
 | some j=>cases j<;>rfl
theorem jT_or {a b:DT}:jT P l (.or a b) s K=(jT P l a s K∧jT P l b s K):=rfl
theorem jPw_p {i:I}:jPw P n tm σ G K (some (.p i))=((ze9 i=true∧xk i.so.o=true)∧iSt P i ⟨n,tm,σ,G⟩ K):=rfl
theorem jPw_g {i:I}:jPw P n tm σ G K (some (.g t w i))=((ze9 i=true∧xk i.so.o=true)∧yN P n tm σ G t w i K (yz tm t)):=rfl
theorem jEw_p {i:I}:jEw P n tm σ G K (some (.p i))=iSt P i ⟨n,tm,σ,G⟩ K:=rfl
theorem jEw_g {i:I}:jEw P n tm σ G K (some (.g t w i))=yN P n tm σ G t w i K (yz tm t):=rfl
theorem zfQ {K:St→Prop}:yI Q K .normal s=K s:=rfl
theorem zlD {K:St→Prop}:yI Q K .ret s=Q .ret s:=rfl
theorem zi7 {K:St→Prop}:yI Q K (.exit id) s=Q (.exit id) s:=rfl
theorem zfs:yH id Q .normal s=Q .normal s:=rfl
theorem zk1:yH id Q .ret s=Q .ret s:=rfl
theorem ziy {id':Nat}:yH id Q (.exit id') s=Br (id'==id) (Q .normal s) (Q (.exit id') s):=by
 cases h:id'==id<;>simp [yH,h,Br]
theorem zn2 {rs:List ResultVar} {res:AV} {rf:List (List Nat × Row)}:zqB P rs res rf .ret s=zsw P rs s res rf:=rfl
theorem zhX {rs:List ResultVar} {res:AV} {rf:List (List Nat × Row)}:zqB P rs res rf .normal s=zsw P rs s res rf:=rfl
theorem zpj {X:Prop}:Br (Nat.blt d n) X False=if d<n then X else False:=by
 by_cases h:d<n
 ·rw [if_pos h,show Nat.blt d n=true from Nat.ble_eq_true_of_le h];rfl
 ·rw [if_neg h]
  cases hb:Nat.blt d n with
  | false=>rfl
  | true=>exact absurd (Nat.le_of_ble_eq_true hb) h
theorem zn5 {v:AV}:zba n d tm σ G K v=if d<n then K ⟨n,(d,v)::tm,σ,G⟩ else False:=zpj
theorem zn7 {v:AV} {σ':Sig}:zlS n d tm G K (v,σ')=if d<n then K ⟨n,(d,v)::tm,σ',G+1⟩ else False:=zpj
theorem zqC {v:AV}:put ⟨n,tm,σ,G⟩ (some d) v σ false K=if d<n then K ⟨n,(d,v)::tm,σ,G⟩ else False:=by rw [zjE];exact zpj
theorem zlR {v:AV} {σ':Sig}:put ⟨n,tm,σ,G⟩ none v σ' false K=K ⟨n,tm,σ',G⟩:=rfl
theorem zjF {v:AV} {σ':Sig}:put ⟨n,tm,σ,G⟩ none v σ' true K=K ⟨n,tm,σ',G+1⟩:=rfl
theorem zn6 {σ':Sig}:putS n tm G K σ'=K ⟨n,tm,σ',G⟩:=rfl
theorem zlw {d:Option Nat} {args':List AV} {σ':Sig}:znT P n d tm σ G f K (σ',args')=Want P f args' (zlo ⟨n,tm,σ,G⟩ d K σ'):=rfl
theorem zmz {res:AV} {σ':Sig} {rf:List (List Nat × Row)}:zlo ⟨n,tm,σ,G⟩ (some d) K σ' res rf=(zjr rf=true∧zlS n d tm G K (nm d G res,zfF σ' d G rf)):=by
 have h:put ⟨n,tm,σ,G⟩ (some d) (nm d G res) (zfF σ' d G rf) true K=zlS n d tm G K (nm d G res,zfF σ' d G rf):=zdQ
 show (_∧put ⟨n,tm,σ,G⟩ (some d) (nm d G res) (zfF σ' d G rf) true K)=_
 rw [h]
theorem zit {res:AV} {σ':Sig} {rf:List (List Nat × Row)}:zlo ⟨n,tm,σ,G⟩ none K σ' res rf=(zjr rf=true∧putS n tm (G+1) K (zfF σ' 0 G rf)):=rfl
def zsA (P:Program) (ks:List Nat) (b:SC J) (Q:Exit→St→Prop) (s:St):Prop:=jv P b (zot ks s) Q
theorem zmK {ks:List Nat}:zsA P ks b Q ⟨n,tm,σ,G⟩=jv P b ⟨n,zd5 ks tm,σ,G⟩ Q:=rfl
theorem jv_sq {ks:List Nat}:jv P (.sq ks a b) s Q=jv P a s (yI Q (zsA P ks b Q)):=rfl
theorem zkI {v:Value}:evT tm (.const v)=znF v:=rfl
theorem zmq:evT tm (.func f)=.sc (.func (.func f) #[] #[]):=rfl
theorem zmd {i:I}:zgl i s K=put s i.so.d (.tup []) s.σ false K:=rfl
end
theorem wT {P:Program}:∀(l:List J) {s:St} {K K':St→Prop},(∀s,K s→K' s)→zhn P l s K→zhn P l s K'
 | [],_,_,_,h,hk=>h _ hk
 | .p i::l,_,_,_,h,hk=>zbm (fun s hs=>wT l h hs) hk
 | .g t w i::l,s,K,K',h,hk=>by
  exact wy (fun s hs=>wT l h hs) hk
theorem yx {P:Program}:∀(c:SC J) {s:St} {Q Q':Exit→St→Prop},(∀e s,Q e s→Q' e s)→jv P c s Q→jv P c s Q'
 | .skip,s,Q,Q',h,hk=>h _ _ hk
 | .ret,s,Q,Q',h,hk=>h _ _ hk
 | .exit id,s,Q,Q',h,hk=>h _ _ hk
 | .seq a b,s,Q,Q',h,hk=>yx a (fun e s hs=>by
   cases e with
   | normal=>exact yx b h hs
   | _=>exact h _ _ hs) hk
 | .sq ks a b,s,Q,Q',h,hk=>yx a (fun e s hs=>by
   cases e with
   | normal=>exact yx b h hs
   | _=>exact h _ _ hs) hk
 | .ct a b,s,Q,Q',h,hk=>yx a (fun e s hs=>by
   cases e with
   | normal=>
    obtain ⟨s'',hw,hs⟩:=hs
    exact ⟨s'',hw,yx b h hs⟩
   | _=>exact h _ _ hs) hk
 | .cond c x y,⟨n,tm,σ,G⟩,Q,Q',h,hk=>by
  simp only [jv] at hk ⊢
  split at hk
  ·rename_i b hb
   cases b with
   | true=>exact yx x h hk
   | false=>exact yx y h hk
  ·cases hk
 | .block id c,s,Q,Q',h,hk=>yx c (fun e s hs=>by
   cases e with
   | exit id'=>
    simp only [yH] at hs ⊢
    split at hs
    ·exact h _ _ hs
    ·exact h _ _ hs
   | _=>exact h _ _ hs) hk
 | .loop c,s,Q,Q',h,hk=>by
  obtain ⟨I,n,s1,h1,h2,h3⟩:=hk
  exact ⟨I,n,s1,h1,h2,fun m s2 hI=>yx c (fun e s hs=>by
   cases e with
   | normal=>exact hs
   | _=>exact h _ _ hs) (h3 m s2 hI)⟩
 | .lp ks c,s,Q,Q',h,hk=>by
  obtain ⟨I,n,s1,h1,h2,h3⟩:=hk
  exact ⟨I,n,s1,h1,h2,fun m s2 hI=>yx c (fun e s hs=>by
   cases e with
   | normal=>exact hs
   | _=>exact h _ _ hs) (h3 m s2 hI)⟩
 | .reg l,s,Q,Q',h,hk=>wT l (fun s hs=>h _ _ hs) hk
 | .dr _ _ l _,s,Q,Q',h,hk=>wx (l:=l) (fun s hs=>h _ _ hs) hk
 | .rng id l it ty x tn tb b,s,Q,Q',h,hk=>by
  obtain ⟨hty,hk⟩:=hk
  refine ⟨hty,wT l ?_ hk⟩
  rintro s1 ⟨str,hx,hit,hI⟩
  refine ⟨str,hx,hit,fun r=>?_⟩
  obtain ⟨I,s2,hw,h0,hr⟩:=hI r
  refine ⟨I,s2,hw,h0,fun pos s3 hp=>⟨(hr pos s3 hp).1,fun hlt=>?_,fun hlt=>h _ _ ((hr pos s3 hp).2.2 hlt)⟩⟩
  obtain ⟨c,hd,hb⟩:=(hr pos s3 hp).2.1 hlt
  refine ⟨c,hd,yx b (fun e s hs=>?_) hb⟩
  cases e with
  | normal=>exact hs
  | exit id'=>
   simp only [yI,yH] at hs ⊢
   split at hs
   ·exact h _ _ hs
   ·exact h _ _ hs
  | _=>exact h _ _ hs
 | .bad,s,Q,Q',h,hk=>by cases hk
theorem jv_ct {P:Program} {a b:SC J} {s:St} {Q:Exit→St→Prop} (R:St→Prop) (h1:jv P a s (yI Q fun s'=>∃s'',Weak s' s''∧R s'')) (h2:∀s'',R s''→jv P b s'' Q):jv P (.ct a b) s Q:=
 yx a (fun e s hs=>by
  cases e with
  | normal=>
   obtain ⟨s'',hw,hs⟩:=hs
   exact ⟨s'',hw,h2 _ hs⟩
  | _=>exact hs) h1
theorem jv_loop {P:Program} {c:SC J} {s:St} {Q:Exit→St→Prop} (I:Nat→St→Prop) (n:Nat) (h1:∃s1,Weak s s1∧I n s1)
  (h2:∀m s2,I m s2→jv P c s2 (yI Q fun s3=>∃m' s4,m'<m∧Weak s3 s4∧I m' s4)):jv P (.loop c) s Q:=by
 obtain ⟨s1,hw,hI⟩:=h1
 exact ⟨I,n,s1,hw,hI,h2⟩
def LpK (ks:List Nat) (I:Nat→St→Prop) (m:Nat) (s:St):Prop:=∃m',m'<m∧I m' (jb ks s)
theorem zsy {ks:List Nat} {I:Nat→St→Prop} {m n G:Nat} {tm:List (Nat × AV)} {σ:Sig}:LpK ks I m ⟨n,tm,σ,G⟩=∃m',m'<m∧I m' (jb ks ⟨n,tm,σ,G⟩):=rfl
theorem zmg {ks:List Nat} {n G:Nat} {tm:List (Nat × AV)} {σ:Sig}:jb ks ⟨n,tm,σ,G⟩=canL ⟨n,tm,σ,G⟩ (zd5 ks tm) (canN ⟨n,tm,σ,G⟩ ks):=rfl
theorem zX {P:Program} {ks:List Nat} {c:SC J} {s:St} {Q:Exit→St→Prop} (I:Nat→St→Prop) (n:Nat) (h1:I n (jb ks s))
  (h2:∀m s2,I m s2→jv P c s2 (yI Q (LpK ks I m))):jv P (.lp ks c) s Q:=⟨I,n,_,.head ks s,h1,fun m s2 hI=>yx c (fun e s hs=>by
   cases e with
   | normal=>
    obtain ⟨m',h4,h5⟩:=hs
    exact ⟨m',_,h4,.head ks s,h5⟩
   | _=>exact hs) (h2 m s2 hI)⟩
def LpN (ks:List Nat) (us:List (Nat × Nat)) (I:Nat→St→Prop) (m:Nat) (s:St):Prop:=∃m',m'<m∧I m' (jb ks (nilN us s))
theorem zsx {ks:List Nat} {us:List (Nat × Nat)} {I:Nat→St→Prop} {m n G:Nat} {tm:List (Nat × AV)} {σ:Sig}:LpN ks us I m ⟨n,tm,σ,G⟩=∃m',m'<m∧I m' (jb ks (nilN us ⟨n,tm,σ,G⟩)):=rfl
theorem qv {P:Program} {ks:List Nat} {c:SC J} {s:St} {Q:Exit→St→Prop} (us:List (Nat × Nat)) (I:Nat→St→Prop) (n:Nat) (h1:I n (jb ks (nilN us s)))
  (h2:∀m s2,I m s2→jv P c s2 (yI Q (LpN ks us I m))):jv P (.lp ks c) s Q:=⟨I,n,_,(Weak.nilN us s).trans (.head ks _),h1,fun m s2 hI=>yx c (fun e s hs=>by
   cases e with
   | normal=>
    obtain ⟨m',h4,h5⟩:=hs
    exact ⟨m',_,h4,(Weak.nilN us s).trans (.head ks _),h5⟩
   | _=>exact hs) (h2 m s2 hI)⟩
def RngJ (P:Program) (id it:Nat) (x:Operand) (tn tb:Nat) (b:SC J) (Q:Exit→St→Prop) (s1:St):Prop:=∃str,evT s1.tm x=.sc (.string str)∧it<s1.n∧∀r,∃(I:Nat→St→Prop) (s2:St),Weak ⟨s1.n,(it,.it r)::s1.tm,s1.σ,s1.G⟩ s2∧I 0 s2∧∀pos s3,I pos s3→
   (zz s3.tm it=some (.it r)∧tn<s3.n∧tb<s3.n)∧
   (pos<str.size→∃c,Utf8.decode str pos=(c,1)∧jv P b ⟨s3.n,(tb,.sc (.bool true))::(tn,.tup [.sc (.bool true),.sc (.int .i64 pos),.sc (.int .i32 c)])::s3.tm,s3.σ,s3.G⟩ (yI (yH id Q) fun s4=>∃s5,Weak s4 s5∧I (pos+1) s5))∧
   (¬pos<str.size→Q .normal ⟨s3.n,(tb,.sc (.bool false))::(tn,.tup [.sc (.bool false)])::s3.tm,s3.σ,s3.G⟩)
theorem zq3 {P:Program} {id it ty tn tb:Nat} {x:Operand} {l:List J} {b:SC J} {s:St} {Q:Exit→St→Prop}:jv P (.rng id l it ty x tn tb b) s Q=(tk P ty=some .string∧zhn P l s (RngJ P id it x tn tb b Q)):=rfl
def RngN (ks:List Nat) (us:List (Nat × Nat)) (I:Nat→St→Prop) (pos:Nat) (s:St):Prop:=I pos (jb ks (nilN us s))
theorem zpv {ks:List Nat} {us:List (Nat × Nat)} {I:Nat→St→Prop} {pos n G:Nat} {tm:List (Nat × AV)} {σ:Sig}:RngN ks us I pos ⟨n,tm,σ,G⟩=I pos (jb ks (nilN us ⟨n,tm,σ,G⟩)):=rfl
theorem zeL {P:Program} {id it tn tb n G:Nat} {tm:List (Nat × AV)} {σ:Sig} {x:Operand} {b:SC J} {Q:Exit→St→Prop} (str:ByteArray) (ks:List Nat) (us:List (Nat × Nat)) (I:Nat→Nat→St→Prop)
  (hx:evT tm x=.sc (.string str)) (hn:it<n∧tn<n∧tb<n) (h0:∀r,I r 0 (jb ks (nilN us ⟨n,(it,.it r)::tm,σ,G⟩)))
  (hr:∀r pos s,I r pos s→zz s.tm it=some (.it r)∧s.n=n)
  (h1:∀r pos s,I r pos s→pos<str.size→∃c,Utf8.decode str pos=(c,1)∧jv P b ⟨s.n,(tb,.sc (.bool true))::(tn,.tup [.sc (.bool true),.sc (.int .i64 pos),.sc (.int .i32 c)])::s.tm,s.σ,s.G⟩ (yI (yH id Q) (RngN ks us (I r) (pos+1))))
  (h2:∀r pos s,I r pos s→¬pos<str.size→Q .normal ⟨s.n,(tb,.sc (.bool false))::(tn,.tup [.sc (.bool false)])::s.tm,s.σ,s.G⟩):RngJ P id it x tn tb b Q ⟨n,tm,σ,G⟩:=by
 refine ⟨str,hx,hn.1,fun r=>⟨I r,_,(Weak.nilN us _).trans (.head ks _),h0 r,fun pos s3 hp=>⟨⟨(hr r pos s3 hp).1,by rw [(hr r pos s3 hp).2];exact hn.2.1,by rw [(hr r pos s3 hp).2];exact hn.2.2⟩,fun hlt=>?_,h2 r pos s3 hp⟩⟩⟩
 obtain ⟨c,hd,hb⟩:=h1 r pos s3 hp hlt
 refine ⟨c,hd,yx b (fun e s hs=>?_) hb⟩
 cases e with
 | normal=>exact ⟨_,(Weak.nilN us s).trans (.head ks _),hs⟩
 | _=>exact hs
theorem zl1 {n G t:Nat} {tm:List (Nat × AV)} {σ:Sig} {u:AV}:zl2 ⟨n,tm,σ,G⟩ t u=nilP ⟨n,tm,σ,G⟩ t (zm7 u (yz tm t) σ G):=rfl
theorem zh4 {n G t j sz:Nat} {tm:List (Nat × AV)} {σ:Sig}:nilCell ⟨n,tm,σ,G⟩ t j sz=zok ⟨n,tm,σ,G⟩ (zjV σ j sz G (yz tm t)):=rfl
theorem zoh {n G t G':Nat} {tm:List (Nat × AV)} {σ σ':Sig} {v:AV}:nilP ⟨n,tm,σ,G⟩ t (v,σ',G')=⟨n,(t,v)::tm,σ',G'⟩:=rfl
theorem Weak.only (ks:List Nat) (s:St):Weak s ⟨s.n,zd5 ks s.tm,[],s.G⟩:=by
 intro rd O w0 a w ⟨rd',φ,hx,h⟩
 have hno:∀{r g p row},zo ([]:Sig) r g p=some row→False:=by
  intro r g p row hr
  simp [zo,zz] at hr
 exact ⟨rd',φ,hx,⟨fun r g p row hr=>(hno hr).elim,fun r g p row r' g' p' row' pl pl' b q q' hr=>(hno hr).elim,h.heap.rdok,fun r g p row pl b q hr=>(hno hr).elim,fun r g p row pl b q hr=>(hno hr).elim,h.heap.frame,h.heap.size,h.heap.os,h.heap.tape,h.heap.output⟩,
  fun t v hl=>qN ks s.tm t v hl▸h.look t,h.size,h.defers,h.gen⟩
theorem zk9 {p:AV→Bool}:∀{tm:List (Nat × AV)},(tm.all fun x=>p x.2)=true→∀t v,zz tm t=some v→p v=true
 | [],_,t,v,h=>by cases h
 | (k,u)::l,ha,t,v,h=>by
  simp only [List.all_cons,Bool.and_eq_true] at ha
  simp only [zA] at h
  split at h
  ·cases h;exact ha.1
  ·exact zk9 ha.2 t v h
theorem zk3 (n:Nat):Nat.beq n n=true:=Nat.beq_refl n
theorem zkc {row:Row}:jO [([],row)]=one row:=by
 funext p
 cases p<;>rfl
theorem beqL_iff:∀{a b:List Nat},zgJ a b=true↔a=b
 | [],[]=>by simp [zgJ]
 | [],_::_=>by simp [zgJ]
 | _::_,[]=>by simp [zgJ]
 | a::l,b::m=>by
  simp only [zgJ,List.cons.injEq]
  cases h:a==b with
  | true=>simp only [beqL_iff];simp at h;simp [h]
  | false=>simp at h;simp [h]
theorem zh9 {q p:List Nat} {row:Row} {l:List (List Nat × Row)}:jO ((q,row)::l) p=match zgJ p q with
  | true=>some row
  | false=>jO l p:=by
 rw [jO]
 cases h:zgJ p q with
 | true=>rw [if_pos (beqL_iff.1 h)]
 | false=>rw [if_neg (fun e=>by rw [beqL_iff.2 e] at h;cases h)]
theorem zoR {f:jQ} {p q:List Nat} {row:Row}:jg f p row q=match zgJ q p with
  | true=>some row
  | false=>f q:=by
 unfold jg
 cases h:zgJ q p with
 | true=>rw [if_pos (beqL_iff.1 h)]
 | false=>rw [if_neg (fun e=>by rw [beqL_iff.2 e] at h;cases h)]
theorem zpl (a b:Nat):Nat.ble a b=decide (a≤b):=by
 by_cases h:a≤b
 ·rw [Nat.ble_eq_true_of_le h,decide_eq_true h]
 ·rw [decide_eq_false h]
  cases hb:Nat.ble a b with
  | false=>rfl
  | true=>exact absurd (Nat.le_of_ble_eq_true hb) h
theorem zkd {p:List Nat}:jO [] p=none:=rfl
attribute [go_sem] r_mk r_lu r_mu zcY zfD zlk luV eqA wW zkd zh4 zok zjV zoj zoi zky Option.getD_none Int.le_refl r_cu zrM r_lz r_mf fnV zoX zcD ziE zq3 zpv zsx zl1 zoh zm7 zjW zm8 zfE RetA zpw nilN zev zpl List.set_set List.length_set List.replicate_succ List.replicate_zero Nat.succ_eq_add_one List.take_length zkc zh9 zoR zgJ zk3 Bool.true_or Bool.false_or Bool.not_not Bool.not_true Bool.not_false Bool.false_and beq_self_eq_true Nat.min_def Int.toNat_natCast Int.natCast_nonneg zoA zho znZ znY Nat.zero_add Nat.le_refl List.getElem?_map List.length_map zin zdQ zjF jv_dr zq7 jT_pu jT_ef jT_or jPw_p jPw_g jEw_p jEw_g zll zlm zfX rdJ rdW gdW qq xR zhd ze9 xk zlL zf2 zfG zpx retL zlJ zfT zeC zmg zsy canN canL zrP addN zj2 znR zgB tgt zrq hasT je lkN lkB zeN zjp nmsC zqL zqM zl0 nmsT zjS nmsE nmsG inNm inNs zm5 zna zoq zpM qs zl4 zrd zcP mvA mvB mvC mvD mvE bkN zmv zo1 zmX zfl zeT zeS zeU zbQ zc9 zav ldD zq0 zg5 zqG elB jM zcE zak ju zal zaN jN zfw zfr jA xI yZ zhH zbr zhD zhE zfU flL qc zla zk4 zqb appR qA zaO zpA sbK evO evP xx zox zq4 zoy zq2 jv_sq zmb zoz zq5 zmc zq8 zq9 zfQ zlD zi7 zfs zk1 ziy zn2 zhX zn5 zn7 zn6 zlw zmz zit zgz zkI zmq zmd zmL zmM zmK zpy zb za zc zf ze zg zkt r_mv r_as r_pk r_al r_bx r_ld r_fa r_ex r_nc r_bn r_un r_cv r_st r_ln r_ca r_cl r_cm r_cn mvAL mvBL mvCL mvDL zik zil r_ia r_ix r_fd r_sl r_bd r_bo r_bs r_ap r_cp r_sb r_mn r_mx r_ms xv zcG evL yz zd5 I.so zqC zlR zfg zaf znF absC zlI zga qW xG zfC zhF zeo zle zd6 zep zld zam zfB wB jL zjb zrb xw qz qU zfz zeq ldC stC yB jP flC plc sfc one zhs zo zz yD Option.map_some Option.map_none Option.bind_some Option.bind_none zsw jW zfd zrw zkz zkA zni zrx frz qx zkv zco zcn zcm zaF xY jy zaU zjr nm nmA nmC zfF Nat.blt tk decide_true decide_false List.getElem?_toArray List.getElem?_cons_succ List.getElem?_cons_zero List.getElem?_nil List.all_cons List.all_nil List.any_cons List.any_nil Bool.and_true Bool.true_and Bool.or_false Bool.false_or Bool.and_self List.map_cons List.map_nil List.length_cons List.length_nil List.drop_succ_cons List.drop_zero List.take_succ_cons List.take_zero List.drop_nil List.take_nil List.append_nil List.nil_append List.cons_append List.set_cons_zero List.set_cons_succ Nat.ble_eq Nat.beq_eq Option.getD_some and_self true_and and_true ite_true ite_false if_true if_false
end Go.Proofs.YtpjpkmhaffmbmaaGreat.E
end
section
namespace Go.Proofs.YtpjpkmhaffmbmaaGreat.E
open Go Go.RowKit
set_option linter.unusedVariables false
def zcO (w:World):RD:=fun b o=>w.cell? (mkA b o)
abbrev zeZ:Phi:=fun _ _ _=>none
def OpensC (P:Program) (t:TypeId) (sz:Nat) {α:Type} (E:α→List AV) (Wf:α→Prop):Prop:=
 P.cellsOf t=sz∧(∀a,(E a).length=sz∧∀c∈E a,sfc c=true)∧
  ∀(H:Type) (enc:TypeId × Value→H) (w:World) (fuel:Nat) (cs:List Value) (x:DataW H × List MemPlace),DataW.trod enc P w 0 (fun _=>true) true fuel t cs=some x→∃a,Wf a∧PW (zcO w) zeZ (E a) cs
theorem PW.one {rd:RD} {φ:Phi} {c:AV} {v:Value} (h:VRel rd φ c v):PW rd φ [c] [v]:=PW.cons h PW.nil
theorem zjP {P:Program} {t:TypeId} {k:IntKind} (ht:P.underlying t=some (.int k)) (hs:P.cellsOf t=1):OpensC P t 1 (fun n:Int=>[.sc (.int k n)]) (fun n=>(Lit.int k n).wf=true):=
 ⟨hs,fun a=>⟨rfl,by simp [sfc]⟩,fun H enc w fuel cs x h=>by
  obtain ⟨n,rfl,rfl,hw⟩:=DataW.trod_int ht h
  exact ⟨n,hw,PW.one (.sc _ rfl)⟩⟩
theorem zpD {P:Program} {t:TypeId} (ht:P.underlying t=some .bool) (hs:P.cellsOf t=1):OpensC P t 1 (fun b:Bool=>[.sc (.bool b)]) (fun _=>True):=
 ⟨hs,fun a=>⟨rfl,by simp [sfc]⟩,fun H enc w fuel cs x h=>by
  obtain ⟨n,rfl,rfl⟩:=DataW.trod_bool ht h
  exact ⟨n,trivial,PW.one (.sc _ rfl)⟩⟩
theorem zm0 {P:Program} {t:TypeId} (ht:P.underlying t=some .string) (hs:P.cellsOf t=1):OpensC P t 1 (fun b:ByteArray=>[.sc (.string b)]) (fun b=>b.size≤maxLen):=
 ⟨hs,fun a=>⟨rfl,by simp [sfc]⟩,fun H enc w fuel cs x h=>by
  obtain ⟨n,rfl,rfl,hw⟩:=DataW.trod_string ht h
  exact ⟨n,hw,PW.one (.sc _ rfl)⟩⟩
theorem zke {α:Type} {p:Nat→α→Prop}:∀(n:Nat),(∀i,i<n→∃a,p i a)→∃l:List α,l.length=n∧∀i a,l[i]?=some a→p i a
 | 0,_=>⟨[],rfl,fun i a h=>by simp at h⟩
 | n+1,h=>by
  obtain ⟨l,hl,hp⟩:=zke n (fun i hi=>h i (Nat.lt_succ_of_lt hi))
  obtain ⟨a,ha⟩:=h n (Nat.lt_succ_self n)
  refine ⟨l++[a],by simp [hl],fun i b hb=>?_⟩
  rcases Nat.lt_or_ge i n with hi | hi
  ·rw [List.getElem?_append_left (by omega)] at hb
   exact hp i b hb
  ·rw [List.getElem?_append_right (by omega)] at hb
   cases hz:i - l.length with
   | zero=>
    rw [hz] at hb
    cases hb
    have:i=n:=by omega
    rw [this];exact ha
   | succ k=>rw [hz] at hb;simp at hb
theorem zfn {w:World} {base:Nat} {a:Addr} {n:Nat} {cs:List Value} (h:w.cells? base a n=some cs):cs.length=n∧∀j,j<n→w.cell? (a.add j)=cs[j]?:=by
 unfold World.cells? at h
 split at h
 ·refine ⟨by simpa using mapM_some_length h,fun j hj=>?_⟩
  have:=mapM_some_get h j j (by simp [hj])
  exact this
 ·cases h
theorem zf9 {P:Program} {t e:TypeId} {sz:Nat} {α:Type} {E:α→List AV} {Wf:α→Prop} (ht:P.underlying t=some (.slice e)) (hs:P.cellsOf t=1) (he:OpensC P e sz E Wf) (hpos:0<sz):
  OpensC P t 1 (fun l:List α=>[.ro sz (l.map E)]) (fun l=>(∀a∈l,Wf a)∧l.length≤maxLen):=by
 obtain ⟨he1,he2,he3⟩:=he
 refine ⟨hs,fun a=>⟨rfl,by simp [sfc]⟩,fun H enc w fuel cs x h=>?_⟩
 rcases DataW.trod_slice ht h with ⟨rfl,rfl⟩ | ⟨a,len,cap,elems,rest,n,rfl,rfl,rfl,hb,hl,hc,hlen,hel,-,-⟩
 ·exact ⟨[],⟨by simp,by simp⟩,PW.one (.ro0 _ _ _)⟩
 ·obtain ⟨l,hll,hp⟩:=zke (p:=fun i a'=>Wf a'∧∃cs,w.cells? 0 (a.add (i * P.cellsOf e)) (P.cellsOf e)=some cs∧PW (zcO w) zeZ (E a') cs) len (fun i hi=>by
   have hx:=hel i hi
   rw [List.getElem?_eq_getElem (by omega)] at hx
   obtain ⟨cs,h1,h2⟩:=Option.bind_eq_some_iff.1 hx
   obtain ⟨a',h3,h4⟩:=he3 _ _ _ _ _ _ h2
   exact ⟨a',h3,cs,h1,h4⟩)
  refine ⟨l,⟨fun a' ha=>by obtain ⟨i,hi⟩:=List.getElem?_of_mem ha;exact (hp i a' hi).1,by omega⟩,PW.one ?_⟩
  by_cases hz:len=0
  ·subst hz
   have:l=[]:=List.eq_nil_of_length_eq_zero hll
   subst this
   exact .ro0 _ _ _
  ·obtain ⟨b,q,spot⟩:=a
   have hspot:spot=none:=by
    obtain ⟨a0,ha0⟩:∃a0,l[0]?=some a0:=⟨l[0],by rw [List.getElem?_eq_getElem]⟩
    obtain ⟨-,cs,h1,h2⟩:=hp 0 a0 ha0
    obtain ⟨h3,h4⟩:=zfn h1
    have h5:=h4 0 (by rw [he1];exact hpos)
    rw [List.getElem?_eq_getElem (by rw [h3,he1];exact hpos)] at h5
    cases hsp:spot with
    | none=>rfl
    | some s=>
     subst hsp
     exfalso
     simp only [World.cell?,Addr.add] at h5
     split at h5<;>simp_all
   subst hspot
   have hcell:∀(i j:Nat) (c:AV),((l.map E)[i]?).bind (·[j]?)=some c→sfc c=true∧∃v,w.cell? (mkA b (q+i * sz+j))=some v∧VRel (zcO w) zeZ c v:=by
    intro i j c hc
    rw [List.getElem?_map] at hc
    cases hi:l[i]? with
    | none=>rw [hi] at hc;cases hc
    | some a'=>
     rw [hi] at hc
     simp only [Option.map_some,Option.bind_some] at hc
     obtain ⟨-,cs,h1,h2⟩:=hp i a' hi
     obtain ⟨h3,h4⟩:=zfn h1
     obtain ⟨v,hv,hr⟩:=h2.2 j c hc
     refine ⟨(he2 a').2 c (List.mem_of_getElem? hc),v,?_,hr⟩
     have hj:j<P.cellsOf e:=by
      rw [←h3]
      rcases Nat.lt_or_ge j cs.length with hx | hx
      ·exact hx
      ·rw [List.getElem?_eq_none hx] at hv;cases hv
     have:=h4 j hj
     rw [hv,he1] at this
     rw [←this]
     show w.cell? _=w.cell? (((mkA b q).add (i * sz)).add j)
     rw [xy,xy]
   have:=VRel.ro (rd:=zcO w) (φ:=zeZ) sz (l.map E) b q cap (fun i j=>(w.cell? (mkA b (q+i * sz+j))).getD undef) (by simp;omega)
    (fun i j c hc=>(hcell i j c hc).1)
    (fun i j c hc=>by obtain ⟨-,v,hv,-⟩:=hcell i j c hc;simp only [zcO];rw [hv];rfl)
    (fun i j c hc=>by obtain ⟨-,v,hv,hr⟩:=hcell i j c hc;rw [hv];exact hr)
   rw [List.length_map,hll] at this
   exact this
def zhI (P:Program) (fl:List (Nat × Nat)) (o sz:Nat) {α:Type} (E:α→List AV) (Wf:α→Prop):Prop:=
 (∀a,(E a).length=sz∧∀c∈E a,sfc c=true)∧
  ∀(H:Type) (enc:TypeId × Value→H) (w:World) (n:Nat) (cs:List Value) (xs:List (DataW H × List MemPlace)),
   (∀(i:Nat) (f:Nat × Nat),fl[i]?=some f→DataW.trod enc P w 0 (fun _=>true) true n f.1 ((cs.drop f.2).take (P.cellsOf f.1))=xs[i]?)→xs.length=fl.length→cs.length=o+sz→∃a,Wf a∧PW (zcO w) zeZ (E a) (cs.drop o)
theorem zpE {P:Program} {o:Nat}:zhI P [] o 0 (fun _:Unit=>[]) (fun _=>True):=
 ⟨fun a=>⟨rfl,by simp⟩,fun H enc w n cs xs _ _ hl=>⟨(),trivial,by rw [List.drop_eq_nil_of_le (by omega)];exact PW.nil⟩⟩
theorem zob {P:Program} {t:TypeId} {fl:List (Nat × Nat)} {o s1 s2:Nat} {α β:Type} {E1:α→List AV} {W1:α→Prop} {E2:β→List AV} {W2:β→Prop} (h1:OpensC P t s1 E1 W1) (h2:zhI P fl (o+s1) s2 E2 W2):
  zhI P ((t,o)::fl) o (s1+s2) (fun x:α × β=>E1 x.1++E2 x.2) (fun x=>W1 x.1∧W2 x.2):=by
 obtain ⟨a1,a2,a3⟩:=h1
 obtain ⟨b1,b2⟩:=h2
 refine ⟨fun x=>⟨by rw [List.length_append,(a2 x.1).1,(b1 x.2).1],fun c hc=>?_⟩,fun H enc w n cs xs hx hl hcs=>?_⟩
 ·rcases List.mem_append.1 hc with hc | hc
  ·exact (a2 _).2 c hc
  ·exact (b1 _).2 c hc
 ·cases xs with
  | nil=>simp at hl
  | cons x xs=>
   obtain ⟨a,ha,hpa⟩:=a3 H enc w n _ _ (hx 0 (t,o) rfl)
   obtain ⟨b,hb,hpb⟩:=b2 H enc w n cs xs (fun i f hf=>by simpa using hx (i+1) f (by simpa using hf)) (by simpa using hl) (by omega)
   refine ⟨(a,b),⟨ha,hb⟩,?_⟩
   have:=hpa.append hpb
   rw [a1,←List.drop_drop,List.take_append_drop] at this
   exact this
theorem zmZ {P:Program} {t:TypeId} {fs:Array Field} {fl:List (Nat × Nat)} {sz:Nat} {α:Type} {E:α→List AV} {Wf:α→Prop} (ht:P.underlying t=some (.struct fs)) (hs:P.cellsOf t=sz)
  (hf:fs.toList.map (fun f=>(f.type,f.offset))=fl) (h:zhI P fl 0 sz E Wf):OpensC P t sz E Wf:=by
 obtain ⟨b1,b2⟩:=h
 refine ⟨hs,b1,fun H enc w fuel cs x hx=>?_⟩
 obtain ⟨xs,n,rfl,rfl,hl,hn,hi⟩:=DataW.trod_struct ht hx
 subst hf
 have:=b2 H enc w n cs xs (fun i f hf=>by
  rw [List.getElem?_map] at hf
  obtain ⟨f',hf',rfl⟩:=Option.map_eq_some_iff.1 hf
  exact hi i f' (by simpa using hf')) (by simp [hn]) (by omega)
 simpa using this
theorem OpensC.map {P:Program} {t:TypeId} {sz:Nat} {α β:Type} {E:α→List AV} {Wf:α→Prop} (h:OpensC P t sz E Wf) (g:α→β) (F:β→List AV) (Wg:β→Prop) (hF:∀b,(F b).length=sz∧∀c∈F b,sfc c=true)
  (hE:∀a,F (g a)=E a) (hW:∀a,Wf a→Wg (g a)):OpensC P t sz F Wg:=
 ⟨h.1,hF,fun H enc w fuel cs x hx=>by obtain ⟨a,ha,hp⟩:=h.2.2 H enc w fuel cs x hx;exact ⟨g a,hW a ha,by rw [hE];exact hp⟩⟩
theorem open_agg {P:Program} {t:TypeId} {sz:Nat} {α:Type} {E:α→List AV} {Wf:α→Prop} (h:OpensC P t sz E Wf) {H:Type} {enc:TypeId × Value→H} {W:World} {arr:Array Value} {d:DataW H} {ps:List MemPlace}
  (hd:DataW.Trod enc P W 0 (fun _=>true) true t (.agg arr) d ps):∃a,Wf a∧VRel (zcO W) zeZ (.agg (E a)) (.agg arr):=by
 obtain ⟨fuel,hf⟩:=hd
 obtain ⟨a,ha,hp⟩:=h.2.2 _ _ _ _ _ _ hf
 exact ⟨a,ha,PW.agg hp⟩
theorem zbR {P:Program} {t:TypeId} {α:Type} {E:α→AV} {Wf:α→Prop} (h:OpensC P t 1 (fun a=>[E a]) Wf) {H:Type} {enc:TypeId × Value→H} {W:World} {v:Value} (hv:v.cells=#[v]) {d:DataW H} {ps:List MemPlace}
  (hd:DataW.Trod enc P W 0 (fun _=>true) true t v d ps):∃a,Wf a∧VRel (zcO W) zeZ (E a) v:=by
 obtain ⟨fuel,hf⟩:=hd
 rw [hv] at hf
 obtain ⟨a,ha,hp⟩:=h.2.2 _ _ _ _ _ _ hf
 obtain ⟨u,us,e1,e2,-⟩:=hp.uncons
 simp only [List.cons.injEq] at e1
 exact ⟨a,ha,e1.1▸e2⟩
theorem zeh {P:Program} {n:Nat} {args:List AV} {b:Bool} (h:CallR P n args (.sc (.bool b)) []) {W:World} {cargs:Array Value} (hp:PW (zcO W) zeZ args cargs.toList):
  Calls P n cargs W fun e W'=>e=.returned (.bool b)∧Below W.heap.size W W':=by
 refine (h.2 W (zcO W) cargs (fun _ _ _ h=>h) hp).mono ?_
 rintro e W' ⟨v,rd',ψ,rfl,_,hh,hv⟩
 rw [zY hv]
 exact ⟨rfl,hh.os,hh.tape,hh.output,hh.size,fun k hk=>hh.frame k hk (fun h=>h)⟩
theorem zpt {α:Type} (l:List α):Array.mk l=l.toArray:=rfl
theorem zqs {n:Nat} {h:n<2 ^ 8}:UInt8.ofBitVec (BitVec.ofFin ⟨n,h⟩)=UInt8.ofNat n:=by
 apply UInt8.toNat_inj.1
 simp only [UInt8.toNat_ofNat']
 exact (Nat.mod_eq_of_lt h).symm
attribute [go_sem] zpt zqs
attribute [go_sem_proc] Nat.reduceBEq Nat.reduceAdd Nat.reduceSub Nat.reduceMul Nat.reduceMod Nat.reduceDiv Nat.reduceLT Nat.reduceLeDiff Int.reduceEq Int.reduceLT Int.reduceLE Int.reduceToNat Int.reduceBNe Int.reduceBEq Int.reduceOfNat Int.reduceNegSucc UInt8.reduceOfNat reduceCtorEq
end Go.Proofs.YtpjpkmhaffmbmaaGreat.E
end
section
namespace Go.Proofs.YtpjpkmhaffmbmaaGreat.E
open Go Go.RowKit
set_option linter.unusedVariables false
def noOr:DT→Bool
 | .nil=>true
 | .pu _ t=>noOr t
 | .ef _ _ t=>noOr t
 | .or _ _=>false
def smp:SC J→Bool
 | .skip | .ret | .exit _ | .reg _=>true
 | .seq a b=>smp a&&smp b
 | .sq _ a b=>smp a&&smp b
 | .ct a b=>smp a&&smp b
 | .cond _ x y=>smp x&&smp y
 | .block _ c=>smp c
 | .loop c=>smp c
 | .lp _ c=>smp c
 | .dr t _ _ _=>noOr t
 | .rng ..=>false
 | .bad=>false
def At (e:Exit) (s:St):Exit→St→Prop:=fun e1 s1=>e1=e∧s1=s
section
variable {P:Program}
theorem zdR {s:St} {d:Option Nat} {v:AV} {σ:Sig} {b:Bool} {K:St→Prop} (h:put s d v σ b K):∃s',K s'∧put s d v σ b (·=s'):=by
 unfold put at h ⊢
 cases d with
 | none=>exact ⟨_,h,rfl⟩
 | some d=>
  simp only at h ⊢
  split at h
  ·rename_i hb
   exact ⟨_,h,rfl⟩
  ·cases h
theorem zg1 {o:SO} {s:St} {K:St→Prop} (h:zmT P o s K):∃s',K s'∧zmT P o s (·=s'):=by
 obtain ⟨v,σ',b,h1,h2⟩:=h
 obtain ⟨s',k1,k2⟩:=zdR h2
 exact ⟨s',k1,v,σ',b,h1,k2⟩
theorem zc5 {o:SO} {s:St} {K:St→Prop} (h:qX P o s K):∃s',K s'∧qX P o s (·=s'):=by
 unfold qX at h ⊢
 split at h
 ·exact zg1 h
 ·rename_i t w hg
  unfold sG at h ⊢
  split at h
  ·rename_i b hb
   cases b<;>cases w<;>simp only [qW,xG] at h ⊢<;>first | exact zg1 h | exact zdR h
  ·exact zdR h
  ·cases h
theorem zg0:∀{l:List SO} {s:St} {K:St→Prop},zmS P l s K→∃s',K s'∧zmS P l s (·=s')
 | [],s,K,h=>⟨s,h,rfl⟩
 | o::l,s,K,h=>by
  obtain ⟨s1,k1,h1⟩:=zc5 h
  obtain ⟨s2,k2,h2⟩:=zg0 k1
  exact ⟨s2,k2,yu (fun s hs=>by subst hs;exact h2) h1⟩
theorem zjn {o:SO} {s:St} {K:St→Prop} (h:zfZ P o s K):∃s',K s'∧zfZ P o s (·=s'):=by
 obtain ⟨v,h1,h2⟩:=zq h
 obtain ⟨s',k1,k2⟩:=zdR h2
 exact ⟨s',k1,zE h1 k2⟩
theorem zjm {l:List SO}:∀{t:DT} {s:St} {K:St→Prop},noOr t=true→sT P l t s K→∃s',K s'∧sT P l t s (·=s')
 | .nil,s,K,_,h=>⟨s,h,rfl⟩
 | .pu i t,s,K,hn,h=>by
  unfold sT at h ⊢
  split at h
  ·cases h
  ·rename_i o ho
   obtain ⟨s1,k1,h1⟩:=zjn h.2
   obtain ⟨s2,k2,h2⟩:=zjm (t:=t) hn k1
   exact ⟨s2,k2,h.1,jC (fun s hs=>by subst hs;exact h2) h1⟩
 | .ef i rc t,s,K,hn,h=>by
  unfold sT at h ⊢
  split at h
  ·cases h
  ·rename_i o ho
   obtain ⟨s1,k1,h1⟩:=zc5 h
   obtain ⟨s2,k2,h2⟩:=zjm (t:=t) hn k1.2
   exact ⟨s2,k2,yu (fun s hs=>by subst hs;exact ⟨k1.1,h2⟩) h1⟩
 | .or a b,s,K,hn,h=>by cases hn
theorem ye:∀{c:SC SO} {s:St} {Q Q':Exit→St→Prop},(∀e s,Q e s→Q' e s)→sv P c s Q→sv P c s Q'
 | .skip,s,Q,Q',h,hk=>h _ _ hk
 | .ret,s,Q,Q',h,hk=>h _ _ hk
 | .exit id,s,Q,Q',h,hk=>h _ _ hk
 | .seq a b,s,Q,Q',h,hk=>by
  rcases hk with hk | hk
  ·exact .inl (ye (fun e s hs=>by
    cases e with
    | normal=>obtain ⟨s'',hw,hs⟩:=hs;exact ⟨s'',hw,ye h hs⟩
    | _=>exact h _ _ hs) hk)
  ·exact .inr fun c hc=>(hk c hc).mono h
 | .sq ks a b,s,Q,Q',h,hk=>ye (c:=a) (fun e s hs=>by
   cases e with
   | normal=>obtain ⟨s'',hw,hs⟩:=hs;exact ⟨s'',hw,ye h hs⟩
   | _=>exact h _ _ hs) hk
 | .ct a b,s,Q,Q',h,hk=>ye (c:=a) (fun e s hs=>by
   cases e with
   | normal=>obtain ⟨s'',hw,hs⟩:=hs;exact ⟨s'',hw,ye h hs⟩
   | _=>exact h _ _ hs) hk
 | .cond c x y,s,Q,Q',h,hk=>by
  simp only [sv] at hk ⊢
  split at hk
  ·rename_i b hb
   cases b with
   | true=>exact ye h hk
   | false=>exact ye h hk
  ·cases hk
 | .block id c,s,Q,Q',h,hk=>ye (c:=c) (fun e s hs=>by
   cases e with
   | exit id'=>
    simp only [yH] at hs ⊢
    split at hs<;>exact h _ _ hs
   | _=>exact h _ _ hs) hk
 | .loop c,s,Q,Q',h,hk=>by
  obtain ⟨I,n,s1,h1,h2,h3⟩:=hk
  exact ⟨I,n,s1,h1,h2,fun m s2 hI=>ye (c:=c) (fun e s hs=>by
   cases e with
   | normal=>exact hs
   | _=>exact h _ _ hs) (h3 m s2 hI)⟩
 | .lp _ c,s,Q,Q',h,hk=>by
  obtain ⟨I,n,s1,h1,h2,h3⟩:=hk
  exact ⟨I,n,s1,h1,h2,fun m s2 hI=>ye (c:=c) (fun e s hs=>by
   cases e with
   | normal=>exact hs
   | _=>exact h _ _ hs) (h3 m s2 hI)⟩
 | .reg l,s,Q,Q',h,hk=>zbK (fun s hs=>h _ _ hs) hk
 | .dr t anc l af,s,Q,Q',h,hk=>by
  obtain ⟨h1,t',anc',h2,h3⟩:=hk
  exact ⟨h1,t',anc',h2,wh (fun s hs=>h _ _ hs) h3⟩
 | .rng ..,_,_,_,_,hk=>by cases hk
 | .bad,_,_,_,_,hk=>by cases hk
theorem zfW {a b:SC SO} {s:St} {Q:Exit→St→Prop} {e1:Exit} {s1:St} (h1:sv P a s (At e1 s1)) (hq:yI Q (fun s'=>∃s'',Weak s' s''∧∃e s2,Q e s2∧sv P b s'' (At e s2)) e1 s1):
  ∃e s2,Q e s2∧sv P a s (yI (At e s2) fun s'=>∃s'',Weak s' s''∧sv P b s'' (At e s2)):=by
 cases e1 with
 | normal=>
  obtain ⟨s'',hw,e,s2,hQ,h2⟩:=hq
  refine ⟨e,s2,hQ,ye (fun e' s' hs=>?_) h1⟩
  obtain ⟨rfl,rfl⟩:=hs
  exact ⟨s'',hw,h2⟩
 | ret=>exact ⟨_,_,hq,ye (fun e' s' hs=>by obtain ⟨rfl,rfl⟩:=hs;exact ⟨rfl,rfl⟩) h1⟩
 | exit id=>exact ⟨_,_,hq,ye (fun e' s' hs=>by obtain ⟨rfl,rfl⟩:=hs;exact ⟨rfl,rfl⟩) h1⟩
 | _=>exact ⟨_,_,hq,ye (fun e' s' hs=>by obtain ⟨rfl,rfl⟩:=hs;exact ⟨rfl,rfl⟩) h1⟩
theorem zhi {c:SC SO} {Q:Exit→St→Prop} {I:Nat→St→Prop} (h:∀m s2,I m s2→∃e s',yI Q (fun s3=>∃m' s4,m'<m∧Weak s3 s4∧I m' s4) e s'∧sv P c s2 (At e s')):
  ∀m s2,I m s2→∃e s',Q e s'∧∃(J:Nat→St→Prop) (n:Nat),J n s2∧∀k s,J k s→sv P c s (yI (At e s') fun s3=>∃m' s4,m'<k∧Weak s3 s4∧J m' s4):=by
 intro m
 induction m using Nat.strongRecOn with
 | _ m ih=>
  intro s2 hI
  obtain ⟨e1,s1,hq,h1⟩:=h m s2 hI
  have stop:∀{e1:Exit} {s1:St},e1≠.normal→Q e1 s1→sv P c s2 (At e1 s1)→∃e s',Q e s'∧∃(J:Nat→St→Prop) (n:Nat),J n s2∧∀k s,J k s→sv P c s (yI (At e s') fun s3=>∃m' s4,m'<k∧Weak s3 s4∧J m' s4):=by
   intro e1 s1 hne hQ h1
   refine ⟨e1,s1,hQ,fun k s=>s=s2,0,rfl,fun k s hs=>?_⟩
   subst hs
   refine ye (fun e' s' hs=>?_) h1
   obtain ⟨rfl,rfl⟩:=hs
   cases e' with
   | normal=>exact absurd rfl hne
   | _=>exact ⟨rfl,rfl⟩
  cases e1 with
  | normal=>
   obtain ⟨m',s4,hlt,hw,hI4⟩:=hq
   obtain ⟨e,s',hQ,J,n,hJ,hstep⟩:=ih m' hlt s4 hI4
   refine ⟨e,s',hQ,fun k s=>(k=n+1∧s=s2)∨J k s,n+1,.inl ⟨rfl,rfl⟩,fun k s hs=>?_⟩
   rcases hs with ⟨rfl,rfl⟩ | hs
   ·refine ye (fun e' s' hs=>?_) h1
    obtain ⟨rfl,rfl⟩:=hs
    exact ⟨n,s4,by omega,hw,.inr hJ⟩
   ·refine ye (fun e' s' hs=>?_) (hstep k s hs)
    cases e' with
    | normal=>obtain ⟨m',s4,h1,h2,h3⟩:=hs;exact ⟨m',s4,h1,h2,.inr h3⟩
    | _=>exact hs
  | ret=>exact stop (by simp) hq h1
  | exit id=>exact stop (by simp) hq h1
  | _=>exact stop (by simp) hq h1
theorem qY (hf:P.follows .mixedOrders=true):∀(c:SC J) {s:St} {Q:Exit→St→Prop},zef c=true→smp c=true→jv P c s Q→∃e s',Q e s'∧sv P (exC c) s (At e s')
 | .skip,s,Q,_,_,h=>⟨.normal,s,h,rfl,rfl⟩
 | .ret,s,Q,_,_,h=>⟨.ret,s,h,rfl,rfl⟩
 | .exit id,s,Q,_,_,h=>⟨.exit id,s,h,rfl,rfl⟩
 | .seq a b,s,Q,hd,hs,h=>by
  simp only [smp,Bool.and_eq_true] at hs
  obtain ⟨e1,s1,hq,h1⟩:=qY hf a (Bool.and_eq_true_iff.1 hd).1 hs.1 h
  obtain ⟨e,s2,hQ,h2⟩:=zfW (b:=exC b) (Q:=Q) h1 (by
   cases e1 with
   | normal=>exact ⟨s1,.refl s1,qY hf b (Bool.and_eq_true_iff.1 hd).2 hs.2 hq⟩
   | _=>exact hq)
  exact ⟨e,s2,hQ,.inl h2⟩
 | .sq ks a b,s,Q,hd,hs,h=>by
  simp only [smp,Bool.and_eq_true] at hs
  obtain ⟨e1,s1,hq,h1⟩:=qY hf a (Bool.and_eq_true_iff.1 hd).1 hs.1 h
  obtain ⟨e,s2,hQ,h2⟩:=zfW (b:=exC b) (Q:=Q) h1 (by
   cases e1 with
   | normal=>exact ⟨_,.keep ks s1,qY hf b (Bool.and_eq_true_iff.1 hd).2 hs.2 hq⟩
   | _=>exact hq)
  exact ⟨e,s2,hQ,.inl h2⟩
 | .ct a b,s,Q,hd,hs,h=>by
  simp only [smp,Bool.and_eq_true] at hs
  obtain ⟨e1,s1,hq,h1⟩:=qY hf a (Bool.and_eq_true_iff.1 hd).1 hs.1 h
  obtain ⟨e,s2,hQ,h2⟩:=zfW (b:=exC b) (Q:=Q) h1 (by
   cases e1 with
   | normal=>obtain ⟨s'',hw,hb⟩:=hq;exact ⟨s'',hw,qY hf b (Bool.and_eq_true_iff.1 hd).2 hs.2 hb⟩
   | _=>exact hq)
  exact ⟨e,s2,hQ,.inl h2⟩
 | .cond c x y,⟨n,tm,σ,G⟩,Q,hd,hs,h=>by
  simp only [smp,Bool.and_eq_true] at hs
  simp only [jv] at h
  simp only [exC,sv,zfg]
  split at h
  ·rename_i b hb
   cases b with
   | true=>exact qY hf x (Bool.and_eq_true_iff.1 hd).1 hs.1 h
   | false=>exact qY hf y (Bool.and_eq_true_iff.1 hd).2 hs.2 h
  ·cases h
 | .block id c,s,Q,hd,hs,h=>by
  obtain ⟨e1,s1,hq,h1⟩:=qY hf c (Q:=yH id Q) hd hs h
  cases e1 with
  | exit id'=>
   simp only [yH] at hq
   split at hq
   ·rename_i hid
    refine ⟨_,_,hq,ye (c:=exC c) (fun e' s' hs=>?_) h1⟩
    obtain ⟨rfl,rfl⟩:=hs
    simp only [yH]
    rw [hid]
    exact ⟨rfl,rfl⟩
   ·rename_i hid
    refine ⟨_,_,hq,ye (c:=exC c) (fun e' s' hs=>?_) h1⟩
    obtain ⟨rfl,rfl⟩:=hs
    simp only [yH]
    rw [hid]
    exact ⟨rfl,rfl⟩
  | normal=>exact ⟨_,_,hq,ye (c:=exC c) (fun e' s' hs=>by obtain ⟨rfl,rfl⟩:=hs;exact ⟨rfl,rfl⟩) h1⟩
  | ret=>exact ⟨_,_,hq,ye (c:=exC c) (fun e' s' hs=>by obtain ⟨rfl,rfl⟩:=hs;exact ⟨rfl,rfl⟩) h1⟩
  | _=>exact ⟨_,_,hq,ye (c:=exC c) (fun e' s' hs=>by obtain ⟨rfl,rfl⟩:=hs;exact ⟨rfl,rfl⟩) h1⟩
 | .loop c,s,Q,hd,hs,h=>by
  obtain ⟨I,n,s1,h1,h2,h3⟩:=h
  obtain ⟨e,s',hQ,J,k,hJ,hstep⟩:=zhi (fun m s2 hI=>qY hf c hd hs (h3 m s2 hI)) n s1 h2
  exact ⟨e,s',hQ,J,k,s1,h1,hJ,hstep⟩
 | .lp ks c,s,Q,hd,hs,h=>by
  obtain ⟨I,n,s1,h1,h2,h3⟩:=h
  obtain ⟨e,s',hQ,J,k,hJ,hstep⟩:=zhi (fun m s2 hI=>qY hf c hd hs (h3 m s2 hI)) n s1 h2
  exact ⟨e,s',hQ,J,k,s1,h1,hJ,hstep⟩
 | .reg l,s,Q,_,_,h=>by
  obtain ⟨s',k1,k2⟩:=zg0 (jr l s _ h)
  exact ⟨.normal,s',k1,zbK (fun s hs=>⟨rfl,hs⟩) k2⟩
 | .dr t anc l af,s,Q,hd,hs,h=>by
  obtain ⟨s',k1,k2⟩:=zjm hs (ze8 l t s _ h)
  exact ⟨.normal,s',k1,hf,t,anc,hd,wh (fun s hs=>⟨rfl,hs⟩) k2⟩
 | .rng ..,_,_,_,hs,_=>by cases hs
 | .bad,_,_,_,hs,_=>by cases hs
def zpB (P:Program) (rs:List ResultVar) (zao:AV→Sig→Prop):Exit→St→Prop
 | .ret,s=>∃res σout,zao res σout∧zfG P rs s res σout
 | .normal,s=>∃res σout,zao res σout∧zfG P rs s res σout
 | _,_=>False
theorem retX_ret {rs:List ResultVar} {zao:AV→Sig→Prop} {s:St}:zpB P rs zao .ret s=∃res σout,zao res σout∧zfG P rs s res σout:=rfl
theorem zn3 {rs:List ResultVar} {zao:AV→Sig→Prop} {s:St}:zpB P rs zao .normal s=∃res σout,zao res σout∧zfG P rs s res σout:=rfl
theorem zgC {n:Nat} {c:SC J} {N:Nat} {rs:List ResultVar} (hb:zhJ P n c N rs) (hc:smp c=true)
  {σin:Sig} {args:List AV} (zao:AV→Sig→Prop) (hlen:Nat.ble args.length N=true) (hv:jv P c ⟨N,zaf 0 args,σin,1⟩ (zpB P rs zao)):∃res σout,zao res σout∧zW P n σin args res σout:=by
 obtain ⟨fn,hf,hb,hn,rfl,rfl,hfo,hd⟩:=hb
 cases hbody:fn.body with
 | none=>rw [hbody] at hb;cases hb
 | some code=>
  rw [hbody] at hb
  have e:xh code=exC c:=Option.some.inj hb
  obtain ⟨e1,s1,hq,h1⟩:=qY hfo c hd hc hv
  have key:∀{res σout},zfG P fn.results.toList s1 res σout→(e1=.ret∨e1=.normal)→zW P n σin args res σout:=by
   intro res σout hr he
   refine zcw hf hbody hn (Nat.le_of_ble_eq_true hlen) (zcN code (fun _ _ h=>h) (e▸ye (fun e' s' hs=>?_) h1))
   obtain ⟨rfl,rfl⟩:=hs
   rcases he with rfl | rfl<;>exact hr
  cases e1 with
  | ret=>obtain ⟨res,σout,hp,hr⟩:=hq;exact ⟨res,σout,hp,key hr (.inl rfl)⟩
  | normal=>obtain ⟨res,σout,hp,hr⟩:=hq;exact ⟨res,σout,hp,key hr (.inr rfl)⟩
  | _=>cases hq
end
theorem jvX {P:Program} {n:Nat} {c:SC J} (fn:Func) (N:Nat) (rs:List ResultVar) (zao:AV→Sig→Prop) {σin:Sig} {args:List AV}
  (h:(P.funcs[n]?,fn.body.map xh,fn.name== "runtime.NumGoroutine",fn.ntmps,fn.results.toList,P.follows .mixedOrders)=(some fn,some (exC c),false,N,rs,true)) (hd:zef c=true) (hs:smp c=true) (hlen:Nat.ble args.length N=true)
  (hv:jv P c ⟨N,zaf 0 args,σin,1⟩ (zpB P rs zao)):Use c (∃res σout,zao res σout∧zW P n σin args res σout):=zgC (zcz h hd) hs zao hlen hv
def RetAt (P:Program) (rs:List ResultVar) (zao:AV→Sig→Prop) (s:St):Prop:=∃res σout,zao res σout∧zfG P rs s res σout
theorem zjq {P:Program} {rs:List ResultVar} {zao:AV→Sig→Prop} {s:St}:zpB P rs zao .ret s=RetAt P rs zao s:=rfl
theorem zeM {P:Program} {rs:List ResultVar} {zao:AV→Sig→Prop} {s:St}:zpB P rs zao .normal s=RetAt P rs zao s:=rfl
theorem RetAt.intro {P:Program} {rs:List ResultVar} {zao:AV→Sig→Prop} {s:St} (res:AV) (σout:Sig) (h:zao res σout) (k:zfG P rs s res σout):RetAt P rs zao s:=⟨res,σout,h,k⟩
attribute [go_sem] zjq zeM
def MK (ks:List Nat) (us:List (Nat × Nat)) (M:St→Prop) (s:St):Prop:=M (jb ks (nilN us s))
theorem MK_eq {ks:List Nat} {us:List (Nat × Nat)} {M:St→Prop} {n G:Nat} {tm:List (Nat × AV)} {σ:Sig}:MK ks us M ⟨n,tm,σ,G⟩=M (jb ks (nilN us ⟨n,tm,σ,G⟩)):=rfl
theorem zR {P:Program} {a b:SC J} {s:St} {Q:Exit→St→Prop} (ks:List Nat) (us:List (Nat × Nat)) (M:St→Prop) (h1:jv P a s (yI Q (MK ks us M))) (h2:∀s',M s'→jv P b s' Q):jv P (.ct a b) s Q:=
 yx a (fun e s hs=>by
  cases e with
  | normal=>exact ⟨_,(Weak.nilN us s).trans (.head ks _),h2 _ hs⟩
  | _=>exact hs) h1
attribute [go_sem] MK_eq
end Go.Proofs.YtpjpkmhaffmbmaaGreat.E
end
