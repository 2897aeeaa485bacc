/- An evaluator of the model's code, proved sound (E1): A B C S D M Y F G. -/
import Derived.WalkKit
import Derived.Orders
import Derived.Deep.MidRow
import Derived.ChangeKeysEq
import Derived.Laws.StructEq
import Derived.DeepKeys
import Derived.Laws.MakeOwn
import Derived.Laws.Entries
import Derived.Deep.AppendSrc
import Derived.Laws.BytesArg
import Derived.Laws.Tables
namespace Go.Proofs.YtobpfkgabdeefaaGreat.E
section
open Go Go.RowKit
theorem bm {α:Type}{l:List α}{i:Nat}(h:i<l.length):l[i]?=some l[i]:=List.getElem?_eq_getElem h
theorem cG {α β:Type}{f:α->Option β}{o:Option α}{b:β}:o.bind f=some b->∃a,o=some a/\f a=some b:=Option.bind_eq_some_iff.1
theorem cP {α β:Type}{f:α->β}{o:Option α}{b:β}:o.map f=some b->∃a,o=some a/\f a=b:=Option.map_eq_some_iff.1
theorem bp (a b:Nat):a<b\/a>=b:=Nat.lt_or_ge a b
theorem dk {α:Type}{l:List α}{i:Nat}{a:α}:l[i]?=some a->a∈l:=List.mem_of_getElem?
theorem aR (n:Nat):0<=n:=Nat.zero_le n
set_option linter.unusedVariables false
inductive AV where
 | dead
 | sc (v:Value)
 | aG
 | aw (r g:Nat) (p:List Nat) (sz off len:Nat)
 | ptr (r g:Nat) (p:List Nat) (sz i o:Nat)
 | ro (sz:Nat) (es:List (List AV))
 | rp (cs:List AV)
 | agg (cs:List AV)
 | aZ (vs:List AV)
 | it (r:Nat)
 | mr (r g:Nat) (p:List Nat)
 deriving Inhabited
structure Pl where
 ad:Option (Nat × Nat)
 cap:Nat
abbrev cj:=Nat->Nat->List Nat->Option Pl
abbrev RD:=Nat->Nat->Option Value
abbrev cM (b o:Nat):Addr:=⟨b,o,none⟩
theorem qn (b o n:Nat):(cM b o).add n=cM b (o+n):=by
 unfold Addr.add;split<;>simp_all
def isUnit:Value->Bool
 | .agg a=>a.isEmpty
 | _=>false
def tL:Value->Bool
 | .bool _|.int ..|.string _|.nilIface|.nilFunc|.pointer none=>true
 | .func (.func _) first captured=>first.toList.all isUnit&&captured.isEmpty
 | _=>false
theorem Y7 {v:Value}(h:tL v=true):v.oneCell'=true:=by
 cases v<;>simp_all[tL,Value.oneCell']
def kb:AV->Bool
 | .sc _|.aG|.ro _ _=>true
 | _=>false
inductive aL (rd:RD) (φ:cj):AV->Value->Prop
 | dead (v:Value):aL rd φ .dead v
 | sc (v:Value) (h:tL v=true):aL rd φ (.sc v) v
 | aG:aL rd φ .aG (.slice none 0 0)
 | aw (r g:Nat) (p:List Nat) (sz off len:Nat) (pl:Pl) (A:Option Addr) (hφ:φ r g p=some pl)
   (hA:pl.cap - off=0\/A=pl.ad.map fun x=>cM x.1 (x.2+off * sz)) (hl:len<=pl.cap - off):
   aL rd φ (.aw r g p sz off len) (.slice A len (pl.cap - off))
 | ptr (r g:Nat) (p:List Nat) (sz i o:Nat) (pl:Pl) (b q:Nat) (hφ:φ r g p=some pl) (aK:pl.ad=some (b,q)):
   aL rd φ (.ptr r g p sz i o) (.pointer (some (cM b (q+i * sz+o))))
 | iC (sz:Nat) (A:Option Addr) (cap:Nat):aL rd φ (.ro sz []) (.slice A 0 cap)
 | ro (sz:Nat) (es:List (List AV)) (b q cap:Nat) (f:Nat->Nat->Value) (hc:es.length<=cap)
   (hs:∀(i j:Nat) (c:AV),(es[i]?).bind (·[j]?)=some c->kb c=true)
   (hr:∀(i j:Nat) (c:AV),(es[i]?).bind (·[j]?)=some c->rd b (q+i * sz+j)=some (f i j))
   (hv:∀(i j:Nat) (c:AV),(es[i]?).bind (·[j]?)=some c->aL rd φ c (f i j)):
   aL rd φ (.ro sz es) (.slice (some (cM b q)) es.length cap)
 | rp (cs:List AV) (b q:Nat) (f:Nat->Value) (hs:∀(j:Nat) (c:AV),cs[j]?=some c->kb c=true)
   (hr:∀(j:Nat) (c:AV),cs[j]?=some c->rd b (q+j)=some (f j))
   (hv:∀(j:Nat) (c:AV),cs[j]?=some c->aL rd φ c (f j)):
   aL rd φ (.rp cs) (.pointer (some (cM b q)))
 | agg (cs:List AV) (arr:Array Value) (f:Nat->Value) (hs:arr.size=cs.length)
   (hg:∀(j:Nat) (c:AV),cs[j]?=some c->arr[j]?=some (f j))
   (hv:∀(j:Nat) (c:AV),cs[j]?=some c->aL rd φ c (f j)):
   aL rd φ (.agg cs) (.agg arr)
 | aZ (vs:List AV) (arr:Array Value) (f:Nat->Value) (hs:arr.size=vs.length)
   (hg:∀(j:Nat) (c:AV),vs[j]?=some c->arr[j]?=some (f j))
   (hv:∀(j:Nat) (c:AV),vs[j]?=some c->aL rd φ c (f j)):
   aL rd φ (.aZ vs) (.tuple arr)
 | it (r:Nat):aL rd φ (.it r) (.pointer (some ⟨r,0,none⟩))
 | mr (r g:Nat) (p:List Nat) (pl:Pl) (b:Nat) (hφ:φ r g p=some pl) (aK:pl.ad=some (b,0)):aL rd φ (.mr r g p) (.map (some b))
theorem aL.mono {rd rd':RD}{φ φ':cj}(h1:∀b o v,rd b o=some v->rd' b o=some v) (h2:∀r g p pl,φ r g p=some pl->φ' r g p=some pl)
  {a:AV} {v:Value} (h:aL rd φ a v):aL rd' φ' a v:=by
 induction h with
 | dead v=>exact .dead v
 | sc v h=>exact .sc v h
 | aG=>exact .aG
 | aw r g p sz off len pl A hφ hA hl=>exact .aw r g p sz off len pl A (h2 _ _ _ _ hφ) hA hl
 | ptr r g p sz i o pl b q hφ aK=>exact .ptr r g p sz i o pl b q (h2 _ _ _ _ hφ) aK
 | iC sz A cap=>exact .iC sz A cap
 | ro sz es b q cap f hc hs hr hv ih=>exact .ro sz es b q cap f hc hs (fun i j c h=>h1 _ _ _ (hr i j c h)) ih
 | rp cs b q f hs hr hv ih=>exact .rp cs b q f hs (fun j c h=>h1 _ _ _ (hr j c h)) ih
 | agg cs arr f hs hg hv ih=>exact .agg cs arr f hs hg ih
 | aZ cs arr f hs hg hv ih=>exact .aZ cs arr f hs hg ih
 | it r=>exact .it r
 | mr r g p pl b hφ aK=>exact .mr r g p pl b (h2 _ _ _ _ hφ) aK
def sf:AV->Bool
 | .sc _|.aG|.ro _ _|.rp _|.dead=>true
 | .agg cs|.aZ cs=>cs.all fun c=>kb c
 | _=>false
theorem aL.l9 {rd:RD}{φ φ':cj}{a:AV}{v:Value}(h:aL rd φ a v):sf a=true->aL rd φ' a v:=by
 have jd:∀{c:AV},kb c=true->sf c=true:=by intro c hc;cases c<;>first|rfl|cases hc
 induction h with
 | dead v=>intro _;exact .dead v
 | sc v h=>intro _;exact .sc v h
 | aG=>intro _;exact .aG
 | aw=>intro h;cases h
 | ptr=>intro h;cases h
 | iC sz A cap=>intro _;exact .iC sz A cap
 | ro sz es b q cap f hc hs hr hv ih=>intro _;exact .ro sz es b q cap f hc hs hr (fun i j c h=>ih i j c h (jd (hs i j c h)))
 | rp cs b q f hs hr hv ih=>intro _;exact .rp cs b q f hs hr (fun j c h=>ih j c h (jd (hs j c h)))
 | agg cs arr f hz hg hv ih=>intro h;exact .agg cs arr f hz hg (fun j c hc=>ih j c hc (jd (List.all_eq_true.1 h c (dk hc))))
 | aZ cs arr f hz hg hv ih=>intro h;exact .aZ cs arr f hz hg (fun j c hc=>ih j c hc (jd (List.all_eq_true.1 h c (dk hc))))
 | it r=>intro h;cases h
 | mr=>intro h;cases h
def nN:AV->Bool
 | .dead|.agg _|.aZ _|.it _=>false
 | _=>true
theorem aL.one {rd:RD}{φ:cj}{a:AV}{v:Value}(h:aL rd φ a v) (hc:nN a=true):v.oneCell'=true:=by
 cases h<;>first|rfl|(simp[nN]at hc;done)|(rename_i h;exact Y7 h)
def Fm:AV->Bool
 | .sc _|.aG=>true
 | _=>false
theorem YX {c:AV}(h:Fm c=true):kb c=true:=by cases c<;>first|rfl|cases h
structure Row where
 sz:Nat
 es:List (List AV)
 fl:Nat
 ao:Bool
def iM (fl:Nat) (cs:List AV):Prop:=(1<=fl->∀c∈cs,kb c=true)/\(2<=fl->∀c∈cs,Fm c=true)
def iJ (cs:List AV):Nat:=
 match cs.all Fm with
 | true=>2
 | false=>match cs.all kb with
  | true=>1
  | false=>0
theorem LR (cs:List AV):iJ cs<3:=by
 unfold iJ;split
 ·decide
 split<;>decide
theorem iM.BH (cs:List AV):iM (iJ cs) cs:=by
 unfold iJ;split
 ·rename_i h;exact⟨fun _ c hc=>YX (List.all_eq_true.1 h c hc),fun _ c hc=>List.all_eq_true.1 h c hc⟩
 split
 ·rename_i h;exact⟨fun _ c hc=>List.all_eq_true.1 h c hc,fun h=>by omega⟩
 exact⟨fun h=>by omega,fun h=>by omega⟩
theorem iM.min {a b:Nat}{cs ds:List AV}(h:iM a cs) (k:iM b ds) {es:List AV}(he:∀c∈es,c∈cs\/c∈ds):iM (min a b) es:=
 ⟨fun hm c hc=>(he c hc).elim (h.1 (by omega) c) (k.1 (by omega) c),fun hm c hc=>(he c hc).elim (h.2 (by omega) c) (k.2 (by omega) c)⟩
theorem iM.le {a b:Nat}{cs:List AV}(h:iM a cs) (hb:b<=a):iM b cs:=⟨fun hm=>h.1 (by omega),fun hm=>h.2 (by omega)⟩
abbrev d9:=List Nat->Option Row
def bE {α:Type}:List (Nat × α)->Nat->Option α
 | [],_=>none
 | (k,v)::l,n=>match k==n with
  | true=>some v
  | false=>bE l n
def bT {α:Type}:List (Nat × α)->Nat->α->List (Nat × α)
 | [],n,x=>[(n,x)]
 | (k,v)::l,n,x=>match k==n with
  | true=>(k,x)::l
  | false=>(k,v)::bT l n x
theorem gR {α:Type}(k:Nat) (v:α) (l:List (Nat × α)) (n:Nat):bE ((k,v)::l) n=if k=n then some v else bE l n:=by
 simp only[bE];by_cases h:k=n
 ·simp[h]
 have:(k==n)=false:=by simpa using h
 simp[this,h]
theorem Y3 {α:Type}(k:Nat) (v:α) (l:List (Nat × α)) (n:Nat) (x:α):bT ((k,v)::l) n x=if k=n then(k,x)::l else(k,v)::bT l n x:=by
 simp only[bT];by_cases h:k=n
 ·simp[h]
 have:(k==n)=false:=by simpa using h
 simp[this,h]
theorem zB {α:Type}(l:List (Nat × α)) (n m:Nat) (x:α):bE (bT l n x) m=if m=n then some x else bE l m:=by
 induction l with
 | nil=>simp only [bT,gR,bE];by_cases h:m=n
        ·simp[h]
        have h':¬n=m:=fun e=>h e.symm
        simp[h,h']
 | cons y l ih=>
  obtain⟨k,v⟩:=y;rw[Y3];by_cases hk:k=n
  ·subst hk;simp only[if_true,gR];by_cases h:m=k
   ·simp[h]
   have h':¬k=m:=fun e=>h e.symm
   simp[h,h']
  simp only[hk,if_false,gR,ih];by_cases h:k=m
  ·subst h;simp[hk]
  simp[h]
abbrev ak:=List (Nat × (Nat × d9))
def rowAt (σ:ak) (r g:Nat) (p:List Nat):Option Row:=
 match bE σ r with
 | some (g',f)=>if g'=g then f p else none
 | none=>none
def kc:IntKind->Nat
 | .i8=>0|.i16=>1|.i32=>2|.i64=>3|.u8=>4|.u16=>5|.u32=>6|.u64=>7
def sa:Int->Nat
 | .ofNat n=>2 * n
 | .negSucc n=>2 * n+1
theorem acj {a b:IntKind}(h:kc a=kc b):a=b:=by cases a<;>cases b<;>first|rfl|(simp[kc]at h;done)
theorem Kp (a:IntKind):kc a<8:=by cases a<;>decide
theorem Xe {a b:Int}(h:sa a=sa b):a=b:=by
 cases a<;>cases b<;>simp only[sa]at h<;>first|(congr 1;omega)|omega
def pc:Value->Option (List Nat)
 | .int k n=>some [kc k,sa n]
 | .bool b=>some [9,b.toNat]
 | _=>none
def v5:List Value->Option (List Nat)
 | []=>some []
 | v::l=>match pc v,v5 l with
  | some a,some b=>some (a++b)
  | _,_=>none
def Ds:Value->Option (List Nat)
 | .agg arr=>(v5 arr.toList).map (10::·)
 | v=>pc v
def tg:List AV->Option (List Nat)
 | []=>some []
 | .sc v::l=>match pc v,tg l with
  | some a,some b=>some (a++b)
  | _,_=>none
 | _::_=>none
def kN:AV->Option (List Nat)
 | .sc v=>pc v
 | .agg cs=>(tg cs).map (10::·)
 | _=>none
theorem yx {v:Value}{c:List Nat}(h:pc v=some c):∃a b,c=[a,b]/\a<10:=by
 cases v<;>simp only[pc,Option.some.injEq,reduceCtorEq]at h
 ·exact⟨_,_,h.symm,by decide⟩
 exact⟨_,_,h.symm,by have:=Kp ‹_›;omega⟩
theorem UD {u v:Value}{c:List Nat}(h:pc u=some c) (k:pc v=some c):u=v:=by
 cases u<;>cases v<;>simp only[pc,Option.some.injEq,reduceCtorEq]at h k<;>subst h<;>simp only[List.cons.injEq,and_true]at k
 ·rename_i a b;cases a<;>cases b<;>simp_all
 ·have:=Kp ‹_›;omega
 ·have:=Kp ‹_›;omega
 rw[acj k.1,Xe k.2]
abbrev MC:=List (AV × AV)
def uu:MC->List Nat
 | []=>[]
 | e::C=>((kN e.1).getD []).length::((kN e.1).getD []++(((kN e.2).getD []).length::((kN e.2).getD []++uu C)))
def uw:List Nat->Nat
 | []=>0
 | a::l=>2 ^ a * (2 * uw l+1)
theorem Qh:∀{a b x y:Nat},2 ^ a * (2 * x+1)=2 ^ b * (2 * y+1)->a=b/\x=y
 | 0,0,x,y,h=>by simp at h;exact⟨rfl,by omega⟩
 | 0,b+1,x,y,h=>by
  rw[Nat.pow_succ,Nat.mul_comm (2 ^ b) 2,Nat.mul_assoc]at h;omega
 | a+1,0,x,y,h=>by
  rw[Nat.pow_succ,Nat.mul_comm (2 ^ a) 2,Nat.mul_assoc]at h;omega
 | a+1,b+1,x,y,h=>by
  rw[Nat.pow_succ,Nat.pow_succ,Nat.mul_comm (2 ^ a) 2,Nat.mul_comm (2 ^ b) 2,Nat.mul_assoc,Nat.mul_assoc]at h;obtain⟨h1,h2⟩:=Qh (a:=a) (b:=b) (x:=x) (y:=y) (by omega);exact⟨by omega,h2⟩
theorem TY:∀{l m:List Nat},uw l=uw m->l=m
 | [],[],h=>rfl
 | [],b::m,h=>by
  have:=Nat.mul_pos (Nat.pow_pos (n:=b) (show 0<2 by omega)) (show 0<2 * uw m+1 by omega);simp only[uw]at h;omega
 | a::l,[],h=>by
  have:=Nat.mul_pos (Nat.pow_pos (n:=a) (show 0<2 by omega)) (show 0<2 * uw l+1 by omega);simp only[uw]at h;omega
 | a::l,b::m,h=>by
  simp only[uw]at h;obtain⟨h1,h2⟩:=Qh h;rw[h1,TY h2]
def rb (C:MC):Nat:=3+uw (uu C)
theorem abm {C D:MC}(h:rb C=rb D):uu C=uu D:=TY (by unfold rb at h;omega)
theorem JV (C:MC):3<=rb C:=Nat.le_add_right _ _
def wC (v:Value) (a:AV):Prop:=∃c,kN a=some c/\Ds v=some c
inductive MR:List MapEntry->MC->Prop
 | nil:MR [] []
 | cons {e:MapEntry} {x:AV × AV} {l:List MapEntry} {C:MC} (h1:wC e.key x.1) (h2:wC e.val x.2) (t:MR l C):MR (e::l) (x::C)
def wx (w:World) (b:Nat) (C:MC):Prop:=∃es ck,w.heap[b]?=some (.map es ck)/\MR es.toList C
theorem UC {a:AV}{c:List Nat}(h:kN a=some c):c≠[]:=by
 cases a<;>simp only[kN,reduceCtorEq]at h
 ·obtain⟨_,_,rfl,_⟩:=yx h;simp
 obtain⟨_,_,rfl⟩:=cP h;simp
theorem UQ {a b x y:List Nat}(h:a.length::(a++x)=b.length::(b++y)):a=b/\x=y:=by
 simp only[List.cons.injEq]at h;exact List.append_inj h.2 h.1
theorem Th {a:AV}{c:List Nat}(hc:c≠[]) (h:c=(kN a).getD []):kN a=some c:=by
 cases ha:kN a with
 | none=>rw[ha]at h;exact absurd h hc
 | some d=>rw[ha]at h;exact congrArg some h.symm
theorem MR.flat {l:List MapEntry}{C:MC}(h:MR l C):∀{D:MC},uu C=uu D->MR l D:=by
 induction h with
 | nil=>
  intro D hD;cases D with
  | nil=>exact .nil
  | cons y D=>simp[uu]at hD
 | cons h1 h2 _ ih=>
  intro D hD;cases D with
  | nil=>simp[uu]at hD
  | cons y D=>
   obtain⟨c1,a1,b1⟩:=h1;obtain⟨c2,a2,b2⟩:=h2;simp only[uu,a1,a2,Option.getD_some]at hD;obtain⟨e1,hD⟩:=UQ hD;obtain⟨e2,hD⟩:=UQ hD;exact .cons ⟨c1,Th (UC a1) e1,b1⟩ ⟨c2,Th (UC a2) e2,b2⟩ (ih hD)
theorem wx.enc {w:World}{b:Nat}{C D:MC}(h:wx w b C) (e:rb C=rb D):wx w b D:=by
 obtain⟨es,ck,h1,h2⟩:=h;exact⟨es,ck,h1,h2.flat (abm e)⟩
structure mF (rd:RD) (φ:cj) (w:World) (pl:Pl) (row:Row):Prop where
 wide:∀e∈row.es,e.length=row.sz
 len:row.es.length<=pl.cap
 kind:∀e∈row.es,iM row.fl e
 nil:pl.ad=none->pl.cap=0
 room:∀b q,pl.ad=some (b,q)->∀k,k<pl.cap * row.sz->(w.cell? (cM b (q+k))).isSome=true/\w.frozen? (cM b (q+k))=false
 cells:∀b q,pl.ad=some (b,q)->∀i j c,(row.es[i]?).bind (·[j]?)=some c->∃v,w.cell? (cM b (q+i * row.sz+j))=some v/\aL rd φ c v
 iI:row.ao=true->1<=row.fl/\∀b q,pl.ad=some (b,q)->∀k,k<row.es.length * row.sz->rd b (q+k)=w.cell? (cM b (q+k))
 mp:∀C,row.fl=rb C->row.sz=0/\∃b,pl.ad=some (b,0)/\wx w b C
theorem lI {fl:Nat}(h:fl<3) {X:MC->Prop}:∀C,fl=rb C->X C:=fun C e=>by have:=JV C;omega
def Ext (O:Nat->Prop) (w0:World) (rd rd':RD):Prop:=(∀b o v,rd b o=some v->rd' b o=some v)/\∀b o,b<w0.heap.size->¬O b->rd' b o=rd b o
theorem Ext.refl {O:Nat->Prop}{w0:World}{rd:RD}:Ext O w0 rd rd:=⟨fun _ _ _ h=>h,fun _ _ _ _=>rfl⟩
theorem Ext.trans {O:Nat->Prop}{w0:World}{rd rd' P7:RD}(h:Ext O w0 rd rd') (k:Ext O w0 rd' P7):Ext O w0 rd P7:=
 ⟨fun b o v e=>k.1 b o v (h.1 b o v e),fun b o hb hO=>(k.2 b o hb hO).trans (h.2 b o hb hO)⟩
structure bc (rd:RD) (φ:cj) (O:Nat->Prop) (w0:World) (σ:ak) (w:World):Prop where
 rows:∀r g p row,rowAt σ r g p=some row->∃pl,φ r g p=some pl/\mF rd φ w pl row
 sep:∀r g p row r' g' p' cC pl cZ b q q',rowAt σ r g p=some row->rowAt σ r' g' p'=some cC->φ r g p=some pl->φ r' g' p'=some cZ->
  pl.ad=some (b,q)->cZ.ad=some (b,q')->r=r'/\p=p'
 eA:∀b o v,rd b o=some v->w.cell? (cM b o)=some v
 eF:∀r g p row pl b q,rowAt σ r g p=some row->φ r g p=some pl->pl.ad=some (b,q)->∀k,row.ao=false\/q+row.es.length * row.sz<=k->rd b k=none
 own:∀r g p row pl b q,rowAt σ r g p=some row->φ r g p=some pl->pl.ad=some (b,q)->(O b\/w0.heap.size<=b)/\b<w.heap.size
 frame:∀b,b<w0.heap.size->¬O b->w.heap[b]?=w0.heap[b]?
 size:w0.heap.size<=w.heap.size
 os:w.os=w0.os
 tape:w.tape=w0.tape
 output:w.output=w0.output
end
section
open Go Go.RowKit
set_option linter.unusedVariables false
def one (row:Row):d9:=fun p=>match p with
 | []=>some row
 | _=>none
theorem ql {row cC:Row}{p:List Nat}(h:one row p=some cC):p=[]/\cC=row:=by
 unfold one at h;split at h
 ·exact⟨rfl,(Option.some.inj h).symm⟩
 cases h
def dF (f:d9) (p:List Nat) (row:Row):d9:=fun q=>if q=p then some row else f q
theorem To (row cC:Row):dF (one row) [] cC=one cC:=by
 funext q;unfold dF one;cases q<;>simp
def dB (φ:cj) (r g:Nat) (ψ:List Nat->Option Pl):cj:=fun r' g' p=>if r'=r/\g'=g then ψ p else φ r' g' p
theorem Dt (b:Nat):∀(vs:List Value) (o:Nat) (w:World) (b' k:Nat),
  (w.setCells b o vs).cell? (cM b' k)=if b'=b/\o<=k/\k<o+vs.length/\(w.cell? (cM b' k)).isSome=true then vs[k - o]? else w.cell? (cM b' k)
 | [],o,w,b',k=>by
  simp only[World.setCells,List.length_nil,Nat.add_zero];rw[if_neg (by omega)]
 | v::vs,o,w,b',k=>by
  rw[World.setCells,Dt b vs];by_cases h:cM b o=cM b' k
  ·have hb:b'=b:=by injection h with h1;exact h1.symm
   have hk:k=o:=by injection h with _ h2;exact h2.symm
   subst hb;subst hk;rw[if_neg (by omega)];cases hc:w.cell? (cM b' k) with
   | none=>
    rw[if_neg (by simp)];unfold World.cell? at hc ⊢;simp only[World.setCell,Array.getElem?_modify]at hc ⊢;cases hh:w.heap[b']? with
    | none=>simp
    | some x=>cases x<;>simp_all
   | some u=>
    rw[if_pos ⟨rfl,Nat.le_refl _,by simp,by simp⟩];simp[World.cell?_setCell_same _ _ _ hc]
  rw[World.cell?_setCell_other _ _ _ _ h];by_cases hc:b'=b/\o+1<=k/\k<o+1+vs.length/\(w.cell? (cM b' k)).isSome=true
  ·rw[if_pos hc,if_pos ⟨hc.1,by omega,by simp;omega,hc.2.2.2⟩];rw[show k - o=(k - (o+1))+1 by omega,List.getElem?_cons_succ]
  rw[if_neg hc];by_cases ff:b'=b/\o<=k/\k<o+(v::vs).length/\(w.cell? (cM b' k)).isSome=true
  ·exfalso;obtain⟨h1,h2,h3,h4⟩:=ff;simp only[List.length_cons]at h3;have:k≠o:=fun e=>h (by rw[e,h1])
   exact hc ⟨h1,by omega,by omega,h4⟩
  rw[if_neg ff]
theorem LM (b:Nat):∀(vs:List Value) (o:Nat) (w:World) (a:Addr),(w.setCells b o vs).frozen? a=w.frozen? a
 | [],_,_,_=>rfl
 | v::vs,o,w,a=>by rw[World.setCells,LM b vs,World.frozen?_setCell]
theorem Li (b:Nat):∀(vs:List Value) (o:Nat) (w:World) (k:Nat),k≠b->(w.setCells b o vs).heap[k]?=w.heap[k]?
 | [],_,_,_,_=>rfl
 | v::vs,o,w,k,h=>by rw[World.setCells,Li b vs _ _ _ h,Below.heap_setCell _ _ _ _ h]
theorem I1 (b:Nat):∀(vs:List Value) (o:Nat) (w:World),(w.setCells b o vs).heap.size=w.heap.size
 | [],_,_=>rfl
 | v::vs,o,w=>by rw[World.setCells,I1 b vs,World.size_setCell]
theorem EW (b:Nat):∀(vs:List Value) (o:Nat) (w:World),(w.setCells b o vs).os=w.os/\(w.setCells b o vs).tape=w.tape/\(w.setCells b o vs).output=w.output
 | [],_,_=>⟨rfl,rfl,rfl⟩
 | v::vs,o,w=>by rw[World.setCells];exact EW b vs _ _
theorem tj {w:World}{b k:Nat}(h:(w.cell? (cM b k)).isSome=true):b<w.heap.size:=by
 obtain⟨v,hv⟩:=Option.isSome_iff_exists.1 h;exact World.block_lt_of_cell? _ _ hv
theorem mF.of_same {rd:RD}{φ:cj}{w w':World}{pl:Pl}{row:Row}(h:mF rd φ w pl row)
  (hc:∀b q,pl.ad=some (b,q)->∀k,w'.cell? (cM b k)=w.cell? (cM b k)/\w'.frozen? (cM b k)=w.frozen? (cM b k))
  (hm:∀b q,pl.ad=some (b,q)->∀es ck,w.heap[b]?=some (.map es ck)->w'.heap[b]?=some (.map es ck)):mF rd φ w' pl row:=
 ⟨h.wide,h.len,h.kind,h.nil,fun b q aK k hk=>by rw[(hc b q aK _).1,(hc b q aK _).2];exact h.room b q aK k hk,
  fun b q aK i j c aU=>by rw[(hc b q aK _).1];exact h.cells b q aK i j c aU,fun ha=>⟨(h.iI ha).1,fun b q aK k hk=>by rw[(hc b q aK _).1];exact(h.iI ha).2 b q aK k hk⟩,
  fun C e=>by obtain⟨hz,b,aK,es,ck,h1,h2⟩:=h.mp C e;exact⟨hz,b,aK,es,ck,hm _ _ aK _ _ h1,h2⟩⟩
theorem mF.mono {rd rd':RD}{φ φ':cj}{w:World}{pl:Pl}{row:Row}(h:mF rd φ w pl row)
  (h1:∀b o v,rd b o=some v->rd' b o=some v) (h2:∀r g p pl,φ r g p=some pl->φ' r g p=some pl):mF rd' φ' w pl row:=
 ⟨h.wide,h.len,h.kind,h.nil,h.room,fun b q aK i j c aU=>by obtain⟨v,hv,hr⟩:=h.cells b q aK i j c aU;exact⟨v,hv,hr.mono h1 h2⟩,
  fun ha=>⟨(h.iI ha).1,fun b q aK k hk=>by
   have e:=(h.iI ha).2 b q aK k hk;obtain⟨v,hv⟩:=Option.isSome_iff_exists.1 (h.room b q aK k (Nat.lt_of_lt_of_le hk (Nat.mul_le_mul_right _ h.len))).1;rw[hv]at e ⊢;exact h1 _ _ _ e⟩,h.mp⟩
theorem bc.drew {rd:RD}{φ:cj}{O:Nat->Prop}{w0 w:World}{σ:ak}(h:bc rd φ O w0 σ w):bc rd φ O w0 σ w.drew:=
 ⟨fun r g p row hr=>by obtain⟨pl,h1,h2⟩:=h.rows r g p row hr;exact⟨pl,h1,h2.of_same (fun _ _ _ _=>⟨rfl,rfl⟩) fun _ _ _ _ _ e=>e⟩,h.sep,h.eA,h.eF,h.own,h.frame,h.size,h.os,h.tape,h.output⟩
theorem jM (σ:ak) (d G:Nat) (f:d9) (r g:Nat) (p:List Nat):
  rowAt (bT σ d (G,f)) r g p=if r=d then(if G=g then f p else none) else rowAt σ r g p:=by
 unfold rowAt;rw[zB];by_cases h:r=d<;>simp[h]
theorem v7 {w:World}{o:Obj}{b k:Nat}(h:b<w.heap.size):(w.alloc o).cell? (cM b k)=w.cell? (cM b k):=
 World.cell?_alloc_lt _ _ _ h
theorem Hc {w:World}{o:Obj}{b k:Nat}(h:b<w.heap.size):(w.alloc o).frozen? (cM b k)=w.frozen? (cM b k):=
 World.frozen?_alloc_old _ _ _ (by show b≠w.heap.size;omega)
theorem bc.newRow {rd:RD}{φ:cj}{O:Nat->Prop}{w0 w:World}{σ:ak}(h:bc rd φ O w0 σ w) {d G:Nat}(dA:∀p,φ d G p=none)
  (row:Row) (kv:row.ao=false) (ue:row.fl<3) (cap:Nat) (arr:Array Value) (T:TypeId) (fz:Nat × Nat) (iG:arr.size<=fz.1\/fz.2<=fz.1) (vq:∀e∈row.es,e.length=row.sz) (hlen:row.es.length<=cap) (dv:cap * row.sz<=arr.size)
  (CI:∀e∈row.es,iM row.fl e)
  (hc:∀i j c,(row.es[i]?).bind (·[j]?)=some c->∃v,arr[i * row.sz+j]?=some v/\aL rd φ c v):
  bc rd (dB φ d G fun p=>match p with|[]=>some ⟨some (w.heap.size,0),cap⟩|_=>none) O w0 (bT σ d (G,one row)) (w.alloc (.cells arr T fz))/\
  (∀r g p pl,φ r g p=some pl->dB φ d G (fun p=>match p with|[]=>some ⟨some (w.heap.size,0),cap⟩|_=>none) r g p=some pl):=by
 have fT:∀r g p pl,φ r g p=some pl->dB φ d G (fun p=>match p with|[]=>some ⟨some (w.heap.size,0),cap⟩|_=>none) r g p=some pl:=by
  intro r g p pl hp;unfold dB;rw[if_neg (by rintro⟨rfl,rfl⟩;rw[dA]at hp;cases hp)];exact hp
 have ab:∀{r g p row pl b q},rowAt σ r g p=some row->φ r g p=some pl->pl.ad=some (b,q)->b<w.heap.size:=fun h1 h2 h3=>(h.own _ _ _ _ _ _ _ h1 h2 h3).2
 have gD:∀k,(w.alloc (.cells arr T fz)).cell? (cM w.heap.size k)=arr[k]?:=by
  intro k;show(match (w.heap.push _)[w.heap.size]? with|some (.cells c _ _)=>if (cM w.heap.size k).spot.isSome then none else c[k]?|_=>none)=_
  rw[Array.getElem?_push_size];rfl
 have ac8:∀k,k<arr.size->(w.alloc (.cells arr T fz)).frozen? (cM w.heap.size k)=false:=by
  intro k hk;show(match (w.heap.push _)[w.heap.size]? with|some (.cells _ _ (lo,hi))=>lo<=k&&k<hi|_=>false)=false
  rw[Array.getElem?_push_size];simp;omega
 have cA:∀{r g p cC},rowAt (bT σ d (G,one row)) r g p=some cC->(d=r/\G=g/\[]=p/\row=cC)\/(rowAt σ r g p=some cC/\r≠d):=by
  intro r g p cC hr;rw[jM]at hr;by_cases hd:r=d
  ·rw[if_pos hd]at hr;by_cases hg:G=g
   ·rw[if_pos hg]at hr;obtain⟨h1,h2⟩:=ql hr;exact .inl ⟨hd.symm,hg,h1.symm,h2.symm⟩
   rw[if_neg hg]at hr;cases hr
  rw[if_neg hd]at hr;exact .inr ⟨hr,hd⟩
 have lQ:dB φ d G (fun p=>match p with|[]=>some ⟨some (w.heap.size,0),cap⟩|_=>none) d G []=some ⟨some (w.heap.size,0),cap⟩:=by simp[dB]
 have hold:∀{r g p},r≠d->dB φ d G (fun p=>match p with|[]=>some ⟨some (w.heap.size,0),cap⟩|_=>none) r g p=φ r g p:=by
  intro r g p hr;unfold dB;rw[if_neg (fun hh=>hr hh.1)]
 refine⟨⟨?_,?_,?_,?_,?_,?_,?_,h.os,h.tape,h.output⟩,fT⟩
 ·intro r g p cC hr;rcases cA hr with ⟨rfl,rfl,rfl,rfl⟩|⟨hr,hd⟩
  ·refine⟨_,lQ,vq,hlen,CI,by simp,?_,?_,fun ha=>(by rw[kv]at ha;cases ha),lI ue⟩
   ·intro b q hb k hk;simp only[Option.some.injEq,Prod.mk.injEq]at hb;obtain⟨rfl,rfl⟩:=hb;have bV:k<arr.size:=Nat.lt_of_lt_of_le hk dv;rw[gD,Nat.zero_add];exact⟨by simp[bV],ac8 k bV⟩
   intro b q hb i j c aU;simp only[Option.some.injEq,Prod.mk.injEq]at hb;obtain⟨rfl,rfl⟩:=hb;obtain⟨v,hv,fj⟩:=hc i j c aU;rw[gD,Nat.zero_add];exact⟨v,hv,fj.mono (fun _ _ _ h=>h) fT⟩
  obtain⟨pl,h1,h2⟩:=h.rows r g p cC hr;refine⟨pl,by rw[hold hd];exact h1,(h2.of_same (fun b q aK k=>⟨v7 (ab hr h1 aK),Hc (ab hr h1 aK)⟩) fun b q aK es ck e=>by rw[Below.heap_alloc _ _ _ (ab hr h1 aK)];exact e).mono (fun _ _ _ h=>h) fT⟩
 ·intro r g p cC r' g' p' Zc pl cZ b q q' h1 h2 h3 h4 h5 h6;rcases cA h1 with ⟨rfl,rfl,rfl,rfl⟩|⟨h1,hd⟩<;>rcases cA h2 with ⟨rfl,rfl,rfl,rfl⟩|⟨h2,qD⟩
  ·exact⟨rfl,rfl⟩
  ·rw[lQ]at h3;cases h3;cases h5;rw[hold qD]at h4;exact absurd (ab h2 h4 h6) (Nat.lt_irrefl _)
  ·rw[lQ]at h4;cases h4;cases h6;rw[hold hd]at h3;exact absurd (ab h1 h3 h5) (Nat.lt_irrefl _)
  rw[hold hd]at h3;rw[hold qD]at h4;exact h.sep _ _ _ _ _ _ _ _ _ _ _ _ _ h1 h2 h3 h4 h5 h6
 ·intro b o v hv;have:=h.eA b o v hv;rw[v7 (tj (by rw[this];rfl))];exact this
 ·intro r g p cC pl b q h1 h2 h3 k dI;rcases cA h1 with ⟨rfl,rfl,rfl,rfl⟩|⟨h1,hd⟩
  ·rw[lQ]at h2;cases h2;cases h3;cases hk:rd w.heap.size k with
   | none=>rfl
   | some v=>
    have:=tj (w:=w) (b:=w.heap.size) (k:=k) (by rw[h.eA _ _ _ hk];rfl);exact absurd this (Nat.lt_irrefl _)
  rw[hold hd]at h2;exact h.eF _ _ _ _ _ _ _ h1 h2 h3 k dI
 ·intro r g p cC pl b q h1 h2 h3;rw[World.size_alloc];rcases cA h1 with ⟨rfl,rfl,rfl,rfl⟩|⟨h1,hd⟩
  ·rw[lQ]at h2;cases h2;cases h3;exact⟨.inr h.size,Nat.lt_succ_self _⟩
  rw[hold hd]at h2;obtain⟨ha,hb⟩:=h.own _ _ _ _ _ _ _ h1 h2 h3;exact⟨ha,by omega⟩
 ·intro b hb hO;rw[Below.heap_alloc _ _ _ (Nat.lt_of_lt_of_le hb h.size)];exact h.frame b hb hO
 rw[World.size_alloc];exact Nat.le_succ_of_le h.size
theorem bc.store {rd:RD}{φ:cj}{O:Nat->Prop}{w0 w:World}{σ:ak}(h:bc rd φ O w0 σ w) {r g:Nat}{p:List Nat}{f:d9}{row:Row}
  (hl:bE σ r=some (g,f)) (hf:f p=some row) {pl:Pl} {b q:Nat} (hφ:φ r g p=some pl) (aK:pl.ad=some (b,q)) (Gw:row.ao=false) (cC:Row) (ada:cC.ao=false) (ue:cC.fl<3) (hs:cC.sz=row.sz)
  (vq:∀e∈cC.es,e.length=cC.sz) (hlen:cC.es.length<=pl.cap) (CI:∀e∈cC.es,iM cC.fl e) (o:Nat) (vs:List Value)
  (hc:∀i j c,(cC.es[i]?).bind (·[j]?)=some c->(if o<=q+i * row.sz+j/\q+i * row.sz+j<o+vs.length then ∃v,vs[q+i * row.sz+j - o]?=some v/\aL rd φ c v else ∃v,w.cell? (cM b (q+i * row.sz+j))=some v/\aL rd φ c v)):
  bc rd φ O w0 (bT σ r (g,dF f p cC)) (w.setCells b o vs):=by
 have cB:rowAt σ r g p=some row:=by unfold rowAt;rw[hl];simp[hf]
 obtain⟨uZ,vv,aI⟩:=h.rows r g p row cB;rw[hφ]at vv;cases vv;have cA:∀{r2 g2 p2 bt},rowAt (bT σ r (g,dF f p cC)) r2 g2 p2=some bt->(r=r2/\g=g2/\p=p2/\cC=bt)\/(rowAt σ r2 g2 p2=some bt/\¬(r2=r/\p2=p)):=by
  intro r2 g2 p2 bt hr;rw[jM]at hr;by_cases hd:r2=r
  ·rw[if_pos hd]at hr;by_cases hg:g=g2
   ·rw[if_pos hg]at hr;unfold dF at hr;by_cases hp:p2=p
    ·rw[if_pos hp]at hr;exact .inl ⟨hd.symm,hg,hp.symm,Option.some.inj hr⟩
    rw[if_neg hp]at hr;refine .inr ⟨?_,fun hh=>hp hh.2⟩;unfold rowAt;rw[hd,hl];simp[hg,hr]
   rw[if_neg hg]at hr;cases hr
  rw[if_neg hd]at hr;exact .inr ⟨hr,fun hh=>hd hh.1⟩
 have SY:∀{r2 g2 p2 bt de b2 q2},rowAt σ r2 g2 p2=some bt->¬(r2=r/\p2=p)->φ r2 g2 p2=some de->de.ad=some (b2,q2)->b2≠b:=by
  intro r2 g2 p2 bt de b2 q2 h1 h2 h3 h4 e;subst e;exact h2 (h.sep _ _ _ _ _ _ _ _ _ _ _ _ _ h1 cB h3 hφ h4 aK)
 refine⟨?_,?_,?_,?_,?_,?_,?_,?_,?_,?_⟩
 ·intro r2 g2 p2 bt hr;rcases cA hr with ⟨rfl,rfl,rfl,rfl⟩|⟨hr,bJ⟩
  ·refine⟨pl,hφ,vq,hlen,CI,aI.nil,?_,?_,fun ha=>(by rw[ada]at ha;cases ha),lI ue⟩
   ·intro b2 q2 hb k hk;rw[aK]at hb;simp only[Option.some.injEq,Prod.mk.injEq]at hb;obtain⟨rfl,rfl⟩:=hb;rw[hs]at hk;obtain⟨h1,h2⟩:=aI.room _ _ aK k hk;rw[LM];refine⟨?_,h2⟩;rw[Dt];split
    ·rename_i hh;rw[bm (by omega)];rfl
    exact h1
   intro b2 q2 hb i j c aU;rw[aK]at hb;simp only[Option.some.injEq,Prod.mk.injEq]at hb;obtain⟨rfl,rfl⟩:=hb;rw[hs];have hz:=hc i j c aU;rw[Dt];by_cases cq:o<=q+i * row.sz+j/\q+i * row.sz+j<o+vs.length
   ·rw[if_pos cq]at hz;have hi:i<cC.es.length/\j<cC.sz:=by
     cases he:cC.es[i]? with
     | none=>simp[he]at aU
     | some e=>
      have hi:i<cC.es.length:=by
       rcases bp i cC.es.length with hx|hx
       ·exact hx
       rw[List.getElem?_eq_none hx]at he;cases he
      refine⟨hi,?_⟩;have:=vq e (dk he);rw[<-this];simp only[he,Option.bind_some]at aU;rcases bp j e.length with hx|hx
      ·exact hx
      rw[List.getElem?_eq_none hx]at aU;cases aU
    have hk:i * row.sz+j<pl.cap * row.sz:=by
     have h1:(i+1) * row.sz<=pl.cap * row.sz:=Nat.mul_le_mul_right _ (by omega);have h2:(i+1) * row.sz=i * row.sz+row.sz:=Nat.succ_mul _ _;have h3:j<row.sz:=hs▸hi.2;omega
    have h4:=(aI.room _ _ aK _ hk).1;rw[<-Nat.add_assoc]at h4;rw[if_pos ⟨rfl,cq.1,cq.2,h4⟩];exact hz
   rw[if_neg cq]at hz;rw[if_neg (fun hh=>cq ⟨hh.2.1,hh.2.2.1⟩)];exact hz
  obtain⟨de,h1,h2⟩:=h.rows r2 g2 p2 bt hr;refine⟨de,h1,h2.of_same (fun b2 q2 s7 k=>?_) fun b2 q2 s7 es ck e=>by rw[Li _ _ _ _ _ (SY hr bJ h1 s7)];exact e⟩;have hb:=SY hr bJ h1 s7;rw[Dt,LM,if_neg (fun hh=>hb hh.1)];exact⟨rfl,rfl⟩
 ·intro r1 g1 p1 fy r2 g2 p2 bt jm de b1 q1 q2 h1 h2 h3 h4 h5 h6;have e1:∃x,rowAt σ r1 g1 p1=some x:=by
   rcases cA h1 with ⟨rfl,rfl,rfl,rfl⟩|⟨h1,_⟩
   ·exact⟨_,cB⟩
   exact⟨_,h1⟩
  have e2:∃x,rowAt σ r2 g2 p2=some x:=by
   rcases cA h2 with ⟨rfl,rfl,rfl,rfl⟩|⟨h2,_⟩
   ·exact⟨_,cB⟩
   exact⟨_,h2⟩
  obtain⟨x1,e1⟩:=e1;obtain⟨x2,e2⟩:=e2;exact h.sep _ _ _ _ _ _ _ _ _ _ _ _ _ e1 e2 h3 h4 h5 h6
 ·intro b2 o2 v hv;rw[Dt,if_neg]
  ·exact h.eA _ _ _ hv
  rintro⟨rfl,_⟩;have:=h.eF _ _ _ _ _ _ _ cB hφ aK o2 (.inl Gw);rw[this]at hv;cases hv
 ·intro r2 g2 p2 bt de b2 q2 h1 h2 h3 k dI;rcases cA h1 with ⟨rfl,rfl,rfl,rfl⟩|⟨h1,_⟩
  ·exact h.eF _ _ _ _ _ _ _ cB h2 h3 k (.inl Gw)
  exact h.eF _ _ _ _ _ _ _ h1 h2 h3 k dI
 ·intro r2 g2 p2 bt de b2 q2 h1 h2 h3;rw[I1];rcases cA h1 with ⟨rfl,rfl,rfl,rfl⟩|⟨h1,_⟩
  ·exact h.own _ _ _ _ _ _ _ cB h2 h3
  exact h.own _ _ _ _ _ _ _ h1 h2 h3
 ·intro k hk hO;rw[Li]
  ·exact h.frame k hk hO
  rintro rfl;rcases(h.own _ _ _ _ _ _ _ cB hφ aK).1 with hh|hh
  ·exact hO hh
  omega
 ·rw[I1];exact h.size
 ·rw[(EW b vs o w).1];exact h.os
 ·rw[(EW b vs o w).2.1];exact h.tape
 rw[(EW b vs o w).2.2];exact h.output
theorem xc {σ:ak}{r g:Nat}{p:List Nat}{f:d9}{cC:Row}(hl:bE σ r=some (g,f)) {r2 g2:Nat}{p2:List Nat}{bt:Row}
  (hr:rowAt (bT σ r (g,dF f p cC)) r2 g2 p2=some bt):(r=r2/\g=g2/\p=p2/\cC=bt)\/(rowAt σ r2 g2 p2=some bt/\¬(r2=r/\p2=p)):=by
 rw[jM]at hr;by_cases hd:r2=r
 ·rw[if_pos hd]at hr;by_cases hg:g=g2
  ·rw[if_pos hg]at hr;unfold dF at hr;by_cases hp:p2=p
   ·rw[if_pos hp]at hr;exact .inl ⟨hd.symm,hg,hp.symm,Option.some.inj hr⟩
   rw[if_neg hp]at hr;refine .inr ⟨?_,fun hh=>hp hh.2⟩;unfold rowAt;rw[hd,hl];simp[hg,hr]
  rw[if_neg hg]at hr;cases hr
 rw[if_neg hd]at hr;exact .inr ⟨hr,fun hh=>hd hh.1⟩
theorem bc.freeze {rd:RD}{φ:cj}{O:Nat->Prop}{w0 w:World}{σ:ak}(h:bc rd φ O w0 σ w) {r g:Nat}{p:List Nat}{f:d9}{row:Row}
  (hl:bE σ r=some (g,f)) (hf:f p=some row) (fK:1<=row.fl):
  ∃rd',Ext O w0 rd rd'/\bc rd' φ O w0 (bT σ r (g,dF f p ⟨row.sz,row.es,row.fl,true⟩)) w:=by
 have cB:rowAt σ r g p=some row:=by unfold rowAt;rw[hl];simp[hf]
 obtain⟨pl,hφ,aI⟩:=h.rows r g p row cB;have cA:=fun {r2 g2 p2 bt} (hr:rowAt (bT σ r (g,dF f p ⟨row.sz,row.es,row.fl,true⟩)) r2 g2 p2=some bt)=>xc hl hr
 have lP:∀{r2 g2 p2 bt},rowAt (bT σ r (g,dF f p ⟨row.sz,row.es,row.fl,true⟩)) r2 g2 p2=some bt->∃x,rowAt σ r2 g2 p2=some x:=by
  intro r2 g2 p2 bt hr;rcases cA hr with ⟨rfl,rfl,rfl,rfl⟩|⟨h1,_⟩
  ·exact⟨_,cB⟩
  exact⟨_,h1⟩
 have Pm:∀r1 g1 p1 fy r2 g2 p2 bt jm de b q1 q2,rowAt (bT σ r (g,dF f p ⟨row.sz,row.es,row.fl,true⟩)) r1 g1 p1=some fy->
   rowAt (bT σ r (g,dF f p ⟨row.sz,row.es,row.fl,true⟩)) r2 g2 p2=some bt->φ r1 g1 p1=some jm->φ r2 g2 p2=some de->jm.ad=some (b,q1)->de.ad=some (b,q2)->r1=r2/\p1=p2:=by
  intro r1 g1 p1 fy r2 g2 p2 bt jm de b q1 q2 h1 h2 h3 h4 h5 h6;obtain⟨x1,e1⟩:=lP h1;obtain⟨x2,e2⟩:=lP h2;exact h.sep _ _ _ _ _ _ _ _ _ _ _ _ _ e1 e2 h3 h4 h5 h6
 have Qy:∀r1 g1 p1 fy jm b q1,rowAt (bT σ r (g,dF f p ⟨row.sz,row.es,row.fl,true⟩)) r1 g1 p1=some fy->φ r1 g1 p1=some jm->jm.ad=some (b,q1)->(O b\/w0.heap.size<=b)/\b<w.heap.size:=by
  intro r1 g1 p1 fy jm b q1 h1 h2 h3;obtain⟨x1,e1⟩:=lP h1;exact h.own _ _ _ _ _ _ _ e1 h2 h3
 cases aK:pl.ad with
 | none=>
  refine⟨rd,.refl,?_,Pm,h.eA,?_,Qy,h.frame,h.size,h.os,h.tape,h.output⟩
  ·intro r2 g2 p2 bt hr;rcases cA hr with ⟨rfl,rfl,rfl,rfl⟩|⟨hr,bJ⟩
   ·exact⟨pl,hφ,aI.wide,aI.len,aI.kind,aI.nil,aI.room,aI.cells,fun _=>⟨fK,fun b q hb=>by rw[aK]at hb;cases hb⟩,aI.mp⟩
   exact h.rows _ _ _ _ hr
  intro r2 g2 p2 bt de b2 q2 h1 h2 h3 k dI;rcases cA h1 with ⟨rfl,rfl,rfl,rfl⟩|⟨h1,_⟩
  ·rw[hφ]at h2;cases h2;rw[aK]at h3;cases h3
  exact h.eF _ _ _ _ _ _ _ h1 h2 h3 k dI
 | some bq=>
  obtain⟨b,q⟩:=bq;obtain⟨hO,ab⟩:=h.own _ _ _ _ _ _ _ cB hφ aK;have K4:∀b' k v,rd b' k=some v->(if b'=b/\q<=k/\k<q+row.es.length * row.sz then w.cell? (cM b' k) else rd b' k)=some v:=by
   intro b' k v hv;split
   ·exact h.eA _ _ _ hv
   exact hv
  refine⟨fun b' k=>if b'=b/\q<=k/\k<q+row.es.length * row.sz then w.cell? (cM b' k) else rd b' k,⟨K4,?_⟩,?_,Pm,?_,?_,Qy,h.frame,h.size,h.os,h.tape,h.output⟩
  ·intro b' o hb S8;refine if_neg ?_;rintro⟨rfl,_⟩;rcases hO with hh|hh
   ·exact S8 hh
   omega
  ·intro r2 g2 p2 bt hr;rcases cA hr with ⟨rfl,rfl,rfl,rfl⟩|⟨hr,bJ⟩
   ·have hm:=aI.mono (rd':=fun b' k=>if b'=b/\q<=k/\k<q+row.es.length * row.sz then w.cell? (cM b' k) else rd b' k) (φ':=φ) K4 (fun _ _ _ _ h=>h);refine⟨pl,hφ,hm.wide,hm.len,hm.kind,hm.nil,hm.room,hm.cells,fun _=>⟨fK,fun b2 q2 hb k hk=>?_⟩,hm.mp⟩;rw[aK]at hb;simp only[Option.some.injEq,Prod.mk.injEq]at hb;obtain⟨rfl,rfl⟩:=hb;have hk:k<row.es.length * row.sz:=hk;exact if_pos ⟨rfl,by omega,by omega⟩
   obtain⟨de,e1,e2⟩:=h.rows _ _ _ _ hr;exact⟨de,e1,e2.mono K4 (fun _ _ _ _ h=>h)⟩
  ·intro b' k v hv;split at hv
   ·exact hv
   exact h.eA _ _ _ hv
  intro r2 g2 p2 bt de b2 q2 h1 h2 h3 k dI;rcases cA h1 with ⟨rfl,rfl,rfl,rfl⟩|⟨h1,bJ⟩
  ·rw[hφ]at h2;cases h2;rw[aK]at h3;simp only[Option.some.injEq,Prod.mk.injEq]at h3;obtain⟨rfl,rfl⟩:=h3;simp only[false_or,Bool.true_eq_false]at dI;exact(if_neg (by omega)).trans (h.eF _ _ _ _ _ _ _ cB hφ aK k (.inr dI))
  have hb:b2≠b:=by
   rintro rfl;exact bJ (h.sep _ _ _ _ _ _ _ _ _ _ _ _ _ h1 cB h2 hφ h3 aK)
  exact(if_neg (fun hh=>hb hh.1)).trans (h.eF _ _ _ _ _ _ _ h1 h2 h3 k dI)
end
section
open Go Go.RowKit
set_option linter.unusedVariables false
inductive TK where
 | bool|int (k:IntKind)|string|slice|array|struct|pointer|map|other
 deriving DecidableEq
def la:TypeDesc->TK
 | .bool=>.bool
 | .int k=>.int k
 | .string=>.string
 | .slice _=>.slice
 | .array _ _=>.array
 | .struct _=>.struct
 | .pointer _=>.pointer
 | .map _ _=>.map
 | _=>.other
def zD:TypeDesc->Bool
 | .struct _|.array _ _=>true
 | _=>false
def L6:TypeDesc->Nat
 | .slice e|.array _ e|.pointer e=>e
 | _=>0
def Kj:TypeDesc->Nat
 | .array n _=>n
 | _=>0
def lA (v:Value):AV:=
 match v with
 | .slice none 0 0=>.aG
 | v=>match tL v with
  | true=>.sc v
  | false=>.dead
def wu:Value->AV
 | .agg cs=>.agg (cs.toList.map lA)
 | .tuple cs=>.aZ (cs.toList.map lA)
 | v=>lA v
structure TI where
 sz:Nat
 bytes:Nat
 ag:Bool
 zero:Option (List AV)
 Dc:List (Nat × Nat)
 el:Nat
 n:Nat
 k:TK
def ti (P:Program) (t:TypeId):Option TI:=
 match P.info? t,P.underlying t with
 | some i,some d=>some ⟨i.size,i.bytes,zD d,i.zero.map (fun z=>z.cells.toList.map lA),
   (match d with|.struct fs=>fs.toList.map fun f=>(f.offset,P.cellsOf f.type)|_=>[]),L6 d,Kj d,la d⟩
 | _,_=>none
theorem pq {P:Program}{t:TypeId}{x:TI}(h:ti P t=some x):∃i d,P.info? t=some i/\P.underlying t=some d/\x.sz=i.size/\x.bytes=i.bytes/\x.ag=zD d/\
  x.zero=i.zero.map (fun z=>z.cells.toList.map lA)/\x.Dc=(match d with|.struct fs=>fs.toList.map fun f=>(f.offset,P.cellsOf f.type)|_=>[])/\
  x.el=L6 d/\x.n=Kj d/\x.k=la d:=by
 unfold ti at h;split at h
 ·rename_i i d h1 h2;have h:=Option.some.inj h;subst h;exact⟨i,d,h1,h2,rfl,rfl,rfl,rfl,rfl,rfl,rfl,rfl⟩
 simp at h
section
variable {rd:RD}{φ:cj}
theorem WR (v:Value):aL rd φ (lA v) v:=by
 unfold lA;split
 ·exact .aG
 split
 ·exact .sc _ ‹_›
 exact .dead _
def PW (rd:RD) (φ:cj) (cs:List AV) (vs:List Value):Prop:=cs.length=vs.length/\∀(j:Nat) (c:AV),cs[j]?=some c->∃v,vs[j]?=some v/\aL rd φ c v
theorem PW.agg {cs:List AV}{arr:Array Value}(h:PW rd φ cs arr.toList):aL rd φ (.agg cs) (.agg arr):=by
 refine .agg cs arr (fun j=>arr.getD j undef) (by rw[h.1];simp) (fun j c hc=>?_) (fun j c hc=>?_)
 ·obtain⟨v,hv,_⟩:=h.2 j c hc;have oh:arr[j]?=some v:=by simpa using hv
  simp[oh]
 obtain⟨v,hv,hr⟩:=h.2 j c hc;have oh:arr[j]?=some v:=by simpa using hv
 simpa[oh]using hr
theorem PW.aZ {cs:List AV}{arr:Array Value}(h:PW rd φ cs arr.toList):aL rd φ (.aZ cs) (.tuple arr):=by
 refine .aZ cs arr (fun j=>arr.getD j undef) (by rw[h.1];simp) (fun j c hc=>?_) (fun j c hc=>?_)
 ·obtain⟨v,hv,_⟩:=h.2 j c hc;have oh:arr[j]?=some v:=by simpa using hv
  simp[oh]
 obtain⟨v,hv,hr⟩:=h.2 j c hc;have oh:arr[j]?=some v:=by simpa using hv
 simpa[oh]using hr
theorem PW.mM {cs:List AV}{v:Value}(h:aL rd φ (.agg cs) v):∃arr,v=.agg arr/\PW rd φ cs arr.toList:=by
 cases h with
 | agg _ arr f hs hg hv=>exact⟨arr,rfl,by simp[hs],fun j c hc=>⟨f j,by simpa using hg j c hc,hv j c hc⟩⟩
theorem PW.tS {cs:List AV}{v:Value}(h:aL rd φ (.aZ cs) v):∃arr,v=.tuple arr/\PW rd φ cs arr.toList:=by
 cases h with
 | aZ _ arr f hs hg hv=>exact⟨arr,rfl,by simp[hs],fun j c hc=>⟨f j,by simpa using hg j c hc,hv j c hc⟩⟩
theorem PW.lA (vs:List Value):PW rd φ (vs.map lA) vs:=
 ⟨by simp,fun j c hc=>by
  rw[List.getElem?_map]at hc;cases hv:vs[j]? with
  | none=>rw[hv]at hc;cases hc
  | some v=>rw[hv]at hc;cases hc;exact⟨v,rfl,WR v⟩⟩
theorem NA (v:Value):aL rd φ (wu v) v:=by
 unfold wu;split
 ·exact PW.agg (PW.lA _)
 ·exact PW.aZ (PW.lA _)
 exact WR _
def jC:AV->List AV
 | .agg cs=>cs
 | v=>[v]
theorem Hx {a:AV}{v:Value}(h:aL rd φ a v) (hc:(jC a).all nN=true):PW rd φ (jC a) v.cells.toList/\∀x∈v.cells.toList,x.oneCell'=true:=by
 have key:nN a=true->PW rd φ [a] v.cells.toList/\∀x∈v.cells.toList,x.oneCell'=true:=by
  intro hb;have h1:=h.one hb;have jA:v.cells=#[v]:=by cases v<;>first|rfl|(simp[Value.oneCell']at h1;done)
  rw[jA];refine⟨⟨rfl,fun j c hj=>?_⟩,fun x hx=>?_⟩
  ·cases j with
   | zero=>simp at hj;subst hj;exact⟨v,rfl,h⟩
   | succ j=>simp at hj
  simp at hx;subst hx;exact h1
 cases a with
 | agg cs=>
  obtain⟨arr,rfl,hp⟩:=PW.mM h;refine⟨hp,fun x hx=>?_⟩;replace hx:x∈arr.toList:=hx;obtain⟨j,hj⟩:=List.getElem?_of_mem hx;have iV:j<cs.length:=by
   rw[hp.1];rcases bp j arr.toList.length with h'|h'
   ·exact h'
   rw[List.getElem?_eq_none h']at hj;cases hj
  have GO:cs[j]?=some cs[j]:=bm iV;obtain⟨u,hu,hr⟩:=hp.2 j _ GO;rw[hj]at hu;cases hu;exact hr.one (List.all_eq_true.1 hc _ (dk GO))
 | dead=>simp[jC,nN]at hc
 | aZ vs=>simp[jC,nN]at hc
 | it r=>simp[jC,nN]at hc
 | _=>exact key rfl
theorem PW.drop {cs:List AV}{vs:List Value}(h:PW rd φ cs vs) (n:Nat):PW rd φ (cs.drop n) (vs.drop n):=
 ⟨by simp[h.1],fun j c hc=>by rw[List.getElem?_drop]at hc ⊢;exact h.2 _ _ hc⟩
theorem PW.take {cs:List AV}{vs:List Value}(h:PW rd φ cs vs) (n:Nat):PW rd φ (cs.take n) (vs.take n):=
 ⟨by simp[h.1],fun j c hc=>by
  rw[List.getElem?_take]at hc ⊢;split at hc
  ·rw[if_pos ‹_›];exact h.2 _ _ hc
  cases hc⟩
theorem PW.append {cs ds:List AV}{vs us:List Value}(h:PW rd φ cs vs) (k:PW rd φ ds us):PW rd φ (cs++ds) (vs++us):=
 ⟨by simp[h.1,k.1],fun j c hc=>by
  rw[List.getElem?_append]at hc ⊢;rw[<-h.1];split at hc
  ·rw[if_pos ‹_›];exact h.2 _ _ hc
  rw[if_neg ‹_›];exact k.2 _ _ hc⟩
theorem PW.nil:PW rd φ [] []:=⟨rfl,fun j c h=>by simp at h⟩
end
def sJ (i:TI) (cs:List AV) (o:Nat):Option AV:=
 match i.ag with
 | true=>match Nat.ble (o+i.sz) cs.length with
  | true=>some (.agg ((cs.drop o).take i.sz))
  | false=>none
 | false=>cs[o]?
def IW (i:TI) (cs:List AV) (o:Nat) (v:AV):Option (List AV):=
 match (jC v).all nN,Nat.beq (jC v).length i.sz,Nat.ble (o+i.sz) cs.length with
 | true,true,true=>some (cs.take o++jC v++cs.drop (o+i.sz))
 | _,_,_=>none
def D5 (P:Program) (d G:Nat) (σ:ak) (t:Nat):Option (AV × ak):=
 (ti P t).bind fun i=>i.zero.bind fun z=>match Nat.beq z.length i.sz with
  | true=>some (.ptr d G [] i.sz 0 0,bT σ d (G,one ⟨i.sz,[z],0,false⟩))
  | false=>none
def D3 (P:Program) (d G:Nat) (σ:ak) (t:Nat) (v:AV):Option (AV × ak):=
 (ti P t).bind fun i=>match (jC v).all nN,Nat.beq (jC v).length i.sz with
  | true,true=>some (.ptr d G [] i.sz 0 0,bT σ d (G,one ⟨i.sz,[jC v],0,false⟩))
  | _,_=>none
def yH (P:Program) (σ:ak) (t:Nat) (a:AV):Option AV:=
 (ti P t).bind fun i=>match a with
  | .ptr r g p sz k o=>(rowAt σ r g p).bind fun row=>match Nat.beq sz row.sz with
   | true=>(row.es[k]?).bind fun cs=>sJ i cs o
   | false=>none
  | .rp cs=>sJ i cs 0
  | _=>none
def sub (off len:Nat) (es:List (List AV)):List (List AV):=(es.drop off).take len
def od {α:Type} (a b:Nat) (x:Option α):Option α:=match Nat.ble a b with
 | true=>x
 | false=>none
def s9 (σ:ak):AV->Option (ak × AV)
 | .aw r g p sz off len=>(bE σ r).bind fun gf=>match Nat.beq gf.1 g with
  | true=>(gf.2 p).bind fun row=>match Nat.beq sz row.sz,Nat.ble 1 row.fl with
   | true,true=>od (off+len) row.es.length (match row.ao with
    | true=>some (σ,.ro sz (sub off len row.es))
    | false=>some (bT σ r (g,dF gf.2 p ⟨row.sz,row.es,row.fl,true⟩),.ro sz (sub off len row.es)))
   | _,_=>none
  | false=>none
 | .ptr ..|.dead|.agg _|.aZ _|.rp _|.it _|.mr ..=>none
 | v=>some (σ,v)
def C9 (σ:ak):List AV->Option (ak × List AV)
 | []=>some (σ,[])
 | c::cs=>(s9 σ c).bind fun x=>(C9 x.1 cs).map fun y=>(y.1,x.2::y.2)
def iI (σ:ak):AV->Option (ak × AV)
 | .agg cs=>(C9 σ cs).map fun x=>(x.1,.agg x.2)
 | v=>s9 σ v
def o8 (σ:ak):List AV->Option (ak × List AV)
 | []=>some (σ,[])
 | c::cs=>(iI σ c).bind fun x=>(o8 x.1 cs).map fun y=>(y.1,x.2::y.2)
def isVar (σ:ak) (r g:Nat) (p:List Nat):Bool:=match rowAt σ r g p with
 | some row=>Nat.beq row.fl 0
 | none=>true
def Be (i:TI) (σ:ak) (r g:Nat) (p:List Nat) (sz k o:Nat) (v:AV):Option ak:=
 (bE σ r).bind fun gf=>match Nat.beq gf.1 g with
  | true=>(gf.2 p).bind fun row=>match Nat.beq sz row.sz,row.ao with
   | true,false=>(row.es[k]?).bind fun cs=>(IW i cs o v).bind fun bH=>some (bT σ r (g,dF gf.2 p ⟨row.sz,row.es.set k bH,min row.fl (iJ (jC v)),false⟩))
   | _,_=>none
  | false=>none
def AB (P:Program) (σ:ak) (t:Nat) (a v:AV):Option ak:=
 (ti P t).bind fun i=>match a with
  | .ptr r g p sz k o=>match isVar σ r g p with
   | true=>Be i σ r g p sz k o v
   | false=>(iI σ v).bind fun x=>Be i x.1 r g p sz k o x.2
  | _=>none
def DZ (P:Program) (t:Nat) (a:AV) (f:Nat):Option AV:=
 (ti P t).bind fun i=>match i.k with
  | .struct=>(i.Dc[f]?).bind fun of=>match Nat.beq of.2 0 with
   | true=>none
   | false=>match a with
    | .ptr r g p sz k o=>some (.ptr r g p sz k (o+of.1))
    | .rp cs=>some (.rp (cs.drop of.1))
    | _=>none
  | _=>none
section
variable {P:Program}{rd:RD}{φ:cj}{O:Nat->Prop}{w0 w:World}{σ:ak}{d G:Nat}
def tD (rd:RD) (φ:cj) (O:Nat->Prop) (w0:World) (d G:Nat) (σ':ak) (v:AV) (r:Result Value):Prop:=
 ∃cv w' φ',r=.ok cv w'/\bc rd φ' O w0 σ' w'/\aL rd φ' v cv/\(∀r g p pl,φ r g p=some pl->φ' r g p=some pl)/\(∀r g p,φ' r g p≠none->φ r g p≠none\/(r=d/\g=G))
def kR (rd:RD) (φ:cj) (O:Nat->Prop) (w0:World) (σ':ak) (v:AV) (r:Result Value):Prop:=∃cv w',r=.ok cv w'/\bc rd φ O w0 σ' w'/\aL rd φ v cv
theorem kR.same {σ:ak}(h:bc rd φ O w0 σ w) {v:AV}{cv:Value}{r:Result Value}(hr:r=.ok cv w) (hv:aL rd φ v cv):kR rd φ O w0 σ v r:=⟨cv,w,hr,h,hv⟩
theorem su {φ:cj}{d G:Nat}{ψ:List Nat->Option Pl}(r g:Nat) (p:List Nat) (h:dB φ d G ψ r g p≠none):φ r g p≠none\/(r=d/\g=G):=by
 unfold dB at h;split at h
 ·exact .inr ‹_›
 exact .inl h
theorem WA (h:bc rd φ O w0 σ w) (dA:∀p,φ d G p=none) {cs:List AV}{arr:Array Value}(hp:PW rd φ cs arr.toList) (T:TypeId) (sz:Nat) (hs:cs.length=sz):
  tD rd φ O w0 d G (bT σ d (G,one ⟨sz,[cs],0,false⟩)) (.ptr d G [] sz 0 0) (.ok (.pointer (some ⟨w.heap.size,0,none⟩)) (w.alloc (.cells arr T))):=by
 have hn:=h.newRow dA ⟨sz,[cs],0,false⟩ rfl (by show(0:Nat)<3;decide) 1 arr T (0,0) (.inr (Nat.le_refl _)) (by simp[hs]) (by simp) (by have:=hp.1;simp at this;simp;omega)
  (fun e he=>⟨fun h=>absurd h (by simp),fun h=>absurd h (by simp)⟩)
  (fun i j c hc=>by
   cases i with
   | zero=>
    simp only[List.getElem?_cons_zero,Option.bind_some]at hc;obtain⟨v,hv,hr⟩:=hp.2 j c hc;exact⟨v,by simpa using hv,hr⟩
   | succ i=>simp at hc)
 refine⟨_,_,_,rfl,hn.1,?_,hn.2,fun r g p hh=>su r g p hh⟩;have:=aL.ptr (rd:=rd) (φ:=dB φ d G fun p=>match p with|[]=>some ⟨some (w.heap.size,0),1⟩|_=>none) d G [] sz 0 0 ⟨some (w.heap.size,0),1⟩ w.heap.size 0 (by simp[dB]) rfl;simp only[Nat.zero_mul,Nat.add_zero]at this;exact this
theorem ahZ (h:bc rd φ O w0 σ w) (dA:∀p,φ d G p=none) {t:Nat}{v:AV}{σ':ak}(ha:D5 P d G σ t=some (v,σ')) (jn:Value):
  tD rd φ O w0 d G σ' v ((Instr.alloc t true jn).run P w):=by
 unfold D5 at ha;obtain⟨i,hi,ha⟩:=cG ha;obtain⟨z,hz,ha⟩:=cG ha;split at ha
 ·cases ha;obtain⟨inf,dm,h1,h2,h3,h4,h5,h6,-⟩:=pq hi
  rw[h6]at hz;obtain⟨zv,sM,rfl⟩:=cP hz;have hl:=Nat.eq_of_beq_eq_true ‹Nat.beq _ _=true›;have eS:(Instr.alloc t true jn).run P w=.ok (.pointer (some ⟨w.heap.size,0,none⟩)) (w.alloc (.cells zv.cells t)):=by
   simp[Instr.alloc,zeroValue,typeInfo,h1,sM,newVar,newRow]
  rw[eS];exact WA h dA (PW.lA _) t _ hl
 cases ha
theorem ahv (h:bc rd φ O w0 σ w) (dA:∀p,φ d G p=none) {t:Nat}{x v:AV}{cx:Value}(hx:aL rd φ x cx) {σ':ak}(ha:D3 P d G σ t x=some (v,σ')):
  tD rd φ O w0 d G σ' v ((Instr.box t cx).run P w):=by
 unfold D3 at ha;obtain⟨i,hi,ha⟩:=cG ha;split at ha
 ·cases ha;have hl:=Nat.eq_of_beq_eq_true ‹Nat.beq _ _=true›
  have eS:(Instr.box t cx).run P w=.ok (.pointer (some ⟨w.heap.size,0,none⟩)) (w.alloc (.cells cx.cells t)):=by
   simp[Instr.box,newVar,newRow]
  rw[eS];exact WA h dA (Hx hx ‹_›).1 t _ hl
 cases ha
theorem Pz (h:bc rd φ O w0 σ w) {r g:Nat}{p:List Nat}{row:Row}(hr:rowAt σ r g p=some row) {k:Nat}{cs:List AV}(hk:row.es[k]?=some cs):
  ∃pl,φ r g p=some pl/\mF rd φ w pl row/\cs.length=row.sz/\k<pl.cap/\∀b q,pl.ad=some (b,q)->∀j c,cs[j]?=some c->∃v,w.cell? (cM b (q+k * row.sz+j))=some v/\aL rd φ c v:=by
 obtain⟨pl,hp,aI⟩:=h.rows _ _ _ _ hr;have ab:k<row.es.length:=by
  rcases bp k row.es.length with hx|hx
  ·exact hx
  rw[List.getElem?_eq_none hx]at hk;cases hk
 exact⟨pl,hp,aI,aI.wide cs (dk hk),Nat.lt_of_lt_of_le ab aI.len,fun b q aK j c hc=>aI.cells b q aK k j c (by rw[hk];exact hc)⟩
theorem acL (dm:TypeDesc):dm.isRow=zD dm:=by cases dm<;>rfl
theorem Kk {t:Nat}{i:TI}(hi:ti P t=some i) {cs:List AV}{b q:Nat}(hc:∀j c,cs[j]?=some c->∃v,w.cell? (cM b (q+j))=some v/\aL rd φ c v) {o:Nat}{v:AV}(hl:sJ i cs o=some v):
  ∃cv,(Instr.loadAt t (.pointer (some (cM b (q+o))))).run P w=.ok cv w/\aL rd φ v cv:=by
 obtain⟨inf,dm,h1,h2,h3,h4,h5,-⟩:=pq hi;unfold sJ at hl;split at hl
 ·rename_i mz;split at hl
  ·rename_i hle;cases hl;have hle:=Nat.le_of_ble_eq_true hle;have gE:∀j,j<i.sz->∃c v,cs[o+j]?=some c/\w.cell? (cM b (q+o+j))=some v/\aL rd φ c v:=by
    intro j hj;have ab:o+j<cs.length:=by omega
    obtain⟨v,hv,hr⟩:=hc (o+j) _ (bm ab);exact⟨_,v,bm ab,by rw[Nat.add_assoc];exact hv,hr⟩
   let vs:List Value:=(List.range i.sz).map fun j=>(w.cell? (cM b (q+o+j))).getD undef
   have nB:∀j v,vs[j]?=some v->w.cell? ⟨b,q+o+j,none⟩=some v:=by
    intro j v hj;simp only[vs,List.getElem?_map]at hj;obtain⟨j',iV,vE⟩:=cP hj;have GB:j<i.sz/\j'=j:=by
     rcases bp j i.sz with hx|hx
     ·rw[List.getElem?_range hx]at iV;cases iV;exact⟨hx,rfl⟩
     rw[List.getElem?_eq_none (by simpa using hx)]at iV;cases iV
    obtain⟨GA,rfl⟩:=GB;obtain⟨c,u,_,hu,_⟩:=gE j' GA;rw[hu]at vE;simp at vE;rw[<-vE];exact hu
   refine⟨.agg vs.toArray,run_loadAt_mid w b (q+o) t vs dm nB h2 (by rw[acL,<-h5,mz]) (by rw[h1];simp[vs,h3]),PW.agg ⟨?_,?_⟩⟩
   ·simp[vs];omega
   intro j c hj;rw[List.getElem?_take]at hj;split at hj
   ·rename_i GA;rw[List.getElem?_drop]at hj;obtain⟨c',u,sY,hu,hr⟩:=gE j GA;rw[hj]at sY;cases sY;refine⟨u,?_,hr⟩;simp only[vs,List.getElem?_map];rw[List.getElem?_range GA];simp[hu]
   cases hj
  cases hl
 rename_i mz;obtain⟨u,hu,hr⟩:=hc o v hl;refine⟨u,?_,hr⟩;have GS:(isAgg t).run P w=.ok false w:=by
  unfold isAgg;rw[Sem.run_bind,run_underlying h2 w];have:zD dm=false:=by rw[<-h5,mz]
  cases dm<;>simp_all[zD]
 simp[Instr.loadAt,Instr.sureAddr,loadVar,GS,hu]
theorem RU (h:bc rd φ O w0 σ w) {t:Nat}{x v:AV}{cx:Value}(hx:aL rd φ x cx) (ha:yH P σ t x=some v):
  ∃cv,(Instr.loadAt t cx).run P w=.ok cv w/\aL rd φ v cv:=by
 unfold yH at ha;obtain⟨i,hi,cQ⟩:=cG ha;clear ha;cases hx with
 | ptr r g p sz k o pl b q hφ aK=>
  simp only at cQ;obtain⟨row,fF,cN⟩:=cG cQ;clear cQ;split at cN
  ·rename_i dv;obtain⟨cs,iH,gw⟩:=cG cN;have dv:=Nat.eq_of_beq_eq_true dv;subst dv;obtain⟨cZ,jy,aI,hlen,hk,jd⟩:=Pz h fF iH;rw[hφ]at jy;cases jy;obtain⟨cv,h1,h2⟩:=Kk (P:=P) (w:=w) (rd:=rd) (φ:=φ) hi (b:=b) (q:=q+k * row.sz) (jd b q aK) gw;exact⟨cv,h1,h2⟩
  cases cN
 | rp cs b q f hs hr hv=>
  simp only at cQ;obtain⟨cv,h1,h2⟩:=Kk (P:=P) (w:=w) (rd:=rd) (φ:=φ) hi (b:=b) (q:=q) (fun j c hj=>⟨f j,h.eA _ _ _ (hr j c hj),hv j c hj⟩) cQ;exact⟨cv,by simpa using h1,h2⟩
 | _=>simp at cQ
theorem ab1 (h:bc rd φ O w0 σ w) {t:Nat}{x v:AV}{cx:Value}(hx:aL rd φ x cx) (ha:yH P σ t x=some v):
  kR rd φ O w0 σ v ((Instr.loadAt t cx).run P w):=by
 obtain⟨cv,h1,h2⟩:=RU h hx ha;exact .same h h1 h2
theorem OW (h:bc rd φ O w0 σ w) {t:Nat}{i:TI}(hi:ti P t=some i) {r g:Nat}{p:List Nat}{sz k o:Nat}{y:AV}{cx cy:Value}(hx:aL rd φ (.ptr r g p sz k o) cx) (hy:aL rd φ y cy)
  {σ':ak} (cQ:Be i σ r g p sz k o y=some σ'):
  ∃w',(Instr.storeAt t cx cy).run P w=.ok () w'/\bc rd φ O w0 σ' w':=by
 unfold Be at cQ;cases hx with
 | ptr _ _ _ _ _ _ pl b q hφ aK=>
  obtain⟨⟨g',f⟩,hl,cN⟩:=cG cQ;clear cQ;split at cN
  ·rename_i hg;have hg:=Nat.eq_of_beq_eq_true hg;simp only at hg;subst hg;obtain⟨row,fF,gw⟩:=cG cN;clear cN;split at gw
   ·rename_i dv Gw;have dv:=Nat.eq_of_beq_eq_true dv;subst dv;obtain⟨cs,iH,o5⟩:=cG gw;obtain⟨bH,aD,oA⟩:=cG o5;have oA:=Option.some.inj oA;subst oA;clear gw o5;unfold IW at aD;split at aD
    ·rename_i kJ ku ye;cases aD;have ku:=Nat.eq_of_beq_eq_true ku;have ye:=Nat.le_of_ble_eq_true ye;obtain⟨uc,KN⟩:=Hx hy kJ;have Co:f p=some row:=fF;have cB:rowAt σ r g' p=some row:=by unfold rowAt;rw[hl];simp[Co]
     obtain⟨cZ,jy,aI,hlen,hk,jd⟩:=Pz h cB iH;rw[hφ]at jy;cases jy;obtain⟨inf,dm,h1,h2,h3,h4,h5,-⟩:=pq hi;have jA:cy.cells.toList.length=i.sz:=by rw[<-uc.1];exact ku
     have cq:∀j,j<i.sz->k * row.sz+o+j<pl.cap * row.sz:=by
      intro j hj;have e1:(k+1) * row.sz<=pl.cap * row.sz:=Nat.mul_le_mul_right _ hk;have e2:(k+1) * row.sz=k * row.sz+row.sz:=Nat.succ_mul _ _;omega
     have Su:w.there b (q+k * row.sz+o) cy.cells.size:=by
      intro j hj;have iV:j<i.sz:=by rw[<-jA];simpa using hj
      have:=aI.room b q aK _ (cq j iV)
      rwa[show q+(k * row.sz+o+j)=q+k * row.sz+o+j by omega]at this
     have eS:(Instr.storeAt t (.pointer (some (cM b (q+k * row.sz+o)))) cy).run P w=.ok () (w.setCells b (q+k * row.sz+o) cy.cells.toList):=by
      have e:=run_storeCells_cells (P:=P) b (q+k * row.sz+o) cy.cells.toList 0 w (fun j hj=>by simpa using (Su j (by simpa using hj)).1) (fun j hj=>by simpa using (Su j (by simpa using hj)).2) KN;have hs:cy.cells.size=inf.size:=by rw[<-h3,<-jA];simp
      simp only[Nat.add_zero]at e;simp[Instr.storeAt,Instr.sureAddr,storeVar,sizeOf,typeInfo,h1,hs,e]
     refine⟨_,eS,?_⟩;have adk:k<row.es.length:=by
      rcases bp k row.es.length with hx|hx
      ·exact hx
      rw[List.getElem?_eq_none hx]at iH;cases iH
     refine h.store hl fF hφ aK Gw ⟨row.sz,row.es.set k (cs.take o++jC y++cs.drop (o+i.sz)),min row.fl (iJ (jC y)),false⟩ rfl (Nat.lt_of_le_of_lt (Nat.min_le_right _ _) (LR _)) rfl ?_ ?_ ?_ (q+k * row.sz+o) cy.cells.toList ?_
     ·intro e he;rcases List.mem_or_eq_of_mem_set he with he|rfl
      ·exact aI.wide e he
      simp[ku,<-hlen];omega
     ·simpa using aI.len
     ·intro e he;rcases List.mem_or_eq_of_mem_set he with he|rfl
      ·exact(aI.kind e he).le (Nat.min_le_left _ _)
      refine iM.min (aI.kind cs (dk iH)) (iM.BH (jC y)) (fun c hm=>?_);rw[List.mem_append,List.mem_append]at hm;rcases hm with (hm|hm)|hm
      ·exact .inl (List.mem_of_mem_take hm)
      ·exact .inr hm
      exact .inl (List.mem_of_mem_drop hm)
     intro i2 j2 c hc;rw[jA];by_cases K3:k=i2
     ·subst K3;rw[List.getElem?_set_self adk,Option.bind_some]at hc;have vE:j2<row.sz:=by
       have:j2<(cs.take o++jC y++cs.drop (o+i.sz)).length:=by
        rcases bp j2 (cs.take o++jC y++cs.drop (o+i.sz)).length with hx|hx
        ·exact hx
        rw[List.getElem?_eq_none hx]at hc;cases hc
       simp[ku]at this;omega
      by_cases aiU:o<=j2/\j2<o+i.sz
      ·rw[if_pos (by omega)];rw[List.append_assoc,List.getElem?_append_right (by simp;omega),List.getElem?_append_left (by simp[ku];omega)]at hc;obtain⟨v,hv,hr⟩:=uc.2 _ c hc;refine⟨v,?_,hr⟩;rw[<-hv];congr 1;simp;omega
      rw[if_neg (by omega)];have GO:cs[j2]?=some c:=by
       rcases bp j2 o with hx|hx
       ·rw[List.append_assoc,List.getElem?_append_left (by simp;omega),List.getElem?_take,if_pos hx]at hc;exact hc
       rw[List.getElem?_append_right (by simp[ku];omega),List.getElem?_drop]at hc;rw[<-hc];congr 1;simp[ku];omega
      exact jd b q aK j2 c GO
     rw[List.getElem?_set_ne K3]at hc;have kH:j2<row.sz:=by
      cases he:row.es[i2]? with
      | none=>simp[he]at hc
      | some e=>
       simp only[he,Option.bind_some]at hc;rw[<-aI.wide e (dk he)];rcases bp j2 e.length with hx|hx
       ·exact hx
       rw[List.getElem?_eq_none hx]at hc;cases hc
     rw[if_neg]
     ·exact aI.cells b q aK i2 j2 c hc
     rintro⟨e1,e2⟩;rcases Nat.lt_or_gt_of_ne K3 with hx|hx
     ·have:(k+1) * row.sz<=i2 * row.sz:=Nat.mul_le_mul_right _ hx;rw[Nat.succ_mul]at this;omega
     have:(i2+1) * row.sz<=k * row.sz:=Nat.mul_le_mul_right _ hx;rw[Nat.succ_mul]at this;omega
    cases aD
   cases gw
  cases cN
theorem PE {pl:Pl}{row:Row}(aI:mF rd φ w pl row) (nE:∀b o v,rd b o=some v->w.cell? (cM b o)=some v) (kv:row.ao=true) {off len:Nat}{A:Option Addr}
  (hA:pl.cap - off=0\/A=pl.ad.map fun x=>cM x.1 (x.2+off * row.sz)) (hlen:len<=pl.cap - off) (h3:off+len<=row.es.length) (φ':cj):
  aL rd φ' (.ro row.sz (sub off len row.es)) (.slice A len (pl.cap - off)):=by
 have jA:∀(i j:Nat) (c:AV),(((row.es.drop off).take len)[i]?).bind (·[j]?)=some c->i<len/\(row.es[off+i]?).bind (·[j]?)=some c:=by
  intro i j c hc;rw[List.getElem?_take]at hc;split at hc
  ·rw[List.getElem?_drop]at hc;exact⟨‹_›,hc⟩
  cases hc
 have dY:((row.es.drop off).take len).length=len:=by simp;omega
 obtain⟨h2,iG⟩:=aI.iI kv;have xM:∀(i j:Nat) (c:AV),(row.es[i]?).bind (·[j]?)=some c->kb c=true/\i * row.sz+j<row.es.length * row.sz:=by
  intro i j c hc;cases he:row.es[i]? with
  | none=>rw[he]at hc;cases hc
  | some e=>
   rw[he]at hc;have hm:=dk he;refine⟨(aI.kind e hm).1 h2 c (dk hc),?_⟩;have hi:i<row.es.length:=by
    rcases bp i row.es.length with hx|hx
    ·exact hx
    rw[List.getElem?_eq_none hx]at he;cases he
   have hj:j<row.sz:=by
    rw[<-aI.wide e hm];rw[Option.bind_some]at hc;rcases bp j e.length with hx|hx
    ·exact hx
    rw[List.getElem?_eq_none hx]at hc;cases hc
   have e1:(i+1) * row.sz<=row.es.length * row.sz:=Nat.mul_le_mul_right _ hi;have e2:(i+1) * row.sz=i * row.sz+row.sz:=Nat.succ_mul _ _;omega
 unfold sub;by_cases hz:len=0
 ·subst hz;simp only[List.take_zero];exact .iC _ _ _
 have rG:pl.cap - off≠0:=by omega
 rcases hA with hA|hA
 ·exact absurd hA rG
 cases aK:pl.ad with
 | none=>exact absurd (aI.nil aK) (by omega)
 | some bq=>
  obtain⟨b,q⟩:=bq;rw[aK]at hA;simp only[Option.map_some]at hA;subst hA;have:=aL.ro (rd:=rd) (φ:=φ') row.sz ((row.es.drop off).take len) b (q+off * row.sz) (pl.cap - off)
   (fun i j=>(w.cell? (cM b (q+off * row.sz+i * row.sz+j))).getD undef) (by rw[dY];exact hlen)
   (fun i j c hc=>by
    obtain⟨hi,hc⟩:=jA i j c hc;exact(xM _ _ _ hc).1)
   (fun i j c hc=>by
    obtain⟨hi,hc⟩:=jA i j c hc;obtain⟨v,hv,_⟩:=aI.cells b q aK _ _ _ hc;have hf:=iG b q aK _ (xM _ _ _ hc).2;have e:q+(off+i) * row.sz+j=q+off * row.sz+i * row.sz+j:=by rw[Nat.add_mul];omega
    rw[<-Nat.add_assoc,e]at hf;rw[e]at hv;rw[hf,hv];rfl)
   (fun i j c hc=>by
    obtain⟨hi,hc⟩:=jA i j c hc;obtain⟨v,hv,hr⟩:=aI.cells b q aK _ _ _ hc;have e:q+(off+i) * row.sz+j=q+off * row.sz+i * row.sz+j:=by rw[Nat.add_mul];omega
    rw[e]at hv;simp only[hv,Option.getD_some];have hs:=(xM _ _ _ hc).1;exact hr.l9 (by cases c<;>first|rfl|cases hs))
  rw[dY]at this;exact this
def r8 (rd:RD) (φ:cj) (O:Nat->Prop) (w0 w:World) (σ':ak) (R:RD->Prop):Prop:=∃rd',Ext O w0 rd rd'/\bc rd' φ O w0 σ' w/\R rd'
theorem G9 (h:bc rd φ O w0 σ w) {c c':AV}{v:Value}{σ':ak}(hv:aL rd φ c v) (hf:s9 σ c=some (σ',c')):
  r8 rd φ O w0 w σ' fun rd'=>(∀φ',aL rd' φ' c' v)/\kb c'=true:=by
 cases hv with
 | aw r g p sz off len pl A hφ hA hlen=>
  simp only[s9]at hf;obtain⟨⟨g',f⟩,hl,hf⟩:=cG hf;simp only at hf;split at hf
  ·rename_i hg;have hg:=Nat.eq_of_beq_eq_true hg;subst hg;obtain⟨row,fF,hf⟩:=cG hf;split at hf
   ·rename_i h1 h2;have h1:=Nat.eq_of_beq_eq_true h1;have h2:=Nat.le_of_ble_eq_true h2;subst h1;unfold od at hf;split at hf
    ·rename_i h3;have h3:=Nat.le_of_ble_eq_true h3;have cB:rowAt σ r g' p=some row:=by unfold rowAt;rw[hl];simp[fF]
     split at hf
     ·rename_i kv;cases hf;obtain⟨cZ,jy,aI⟩:=h.rows _ _ _ _ cB;rw[hφ]at jy;cases jy;exact⟨rd,.refl,h,fun φ'=>PE aI h.eA kv hA hlen h3 φ',rfl⟩
     cases hf;obtain⟨rd',hx,hh⟩:=h.freeze hl fF h2
     have adG:rowAt (bT σ r (g',dF f p ⟨row.sz,row.es,row.fl,true⟩)) r g' p=some ⟨row.sz,row.es,row.fl,true⟩:=by rw[jM];simp[dF]
     obtain⟨cZ,jy,aI⟩:=hh.rows _ _ _ _ adG;rw[hφ]at jy;cases jy;exact⟨rd',hx,hh,fun φ'=>PE aI hh.eA rfl hA hlen h3 φ',rfl⟩
    cases hf
   cases hf
  cases hf
 | sc v h1=>cases hf;exact⟨rd,.refl,h,fun φ'=>.sc v h1,rfl⟩
 | aG=>cases hf;exact⟨rd,.refl,h,fun φ'=>.aG,rfl⟩
 | iC sz A cap=>cases hf;exact⟨rd,.refl,h,fun φ'=>.iC _ _ _,rfl⟩
 | ro sz es b q cap f hc hs hr hv=>
  cases hf;exact⟨rd,.refl,h,fun φ'=>(aL.ro (φ:=φ) sz es b q cap f hc hs hr hv).l9 rfl,rfl⟩
 | _=>cases hf
theorem PW.cons {c:AV}{v:Value}{cs:List AV}{vs:List Value}(a:aL rd φ c v) (b:PW rd φ cs vs):PW rd φ (c::cs) (v::vs):=
 ⟨by simp[b.1],fun j c hc=>by
  cases j with
  | zero=>cases hc;exact⟨v,rfl,a⟩
  | succ j=>simpa using b.2 j c (by simpa using hc)⟩
theorem PW.kV {c:AV}{cs:List AV}{vs:List Value}(h:PW rd φ (c::cs) vs):∃v us,vs=v::us/\aL rd φ c v/\PW rd φ cs us:=by
 cases vs with
 | nil=>exact absurd h.1 (by simp)
 | cons v us=>
  obtain⟨v',oh,hr⟩:=h.2 0 c rfl;cases oh;exact⟨v,us,rfl,hr,by simpa using h.1,fun j c hc=>by simpa using h.2 (j+1) c (by simpa using hc)⟩
theorem PW.mono {rd':RD}{φ':cj}(h1:∀b o v,rd b o=some v->rd' b o=some v) (h2:∀r g p pl,φ r g p=some pl->φ' r g p=some pl) {cs:List AV}{vs:List Value}(h:PW rd φ cs vs):PW rd' φ' cs vs:=
 ⟨h.1,fun j c hc=>by obtain⟨v,hv,hr⟩:=h.2 j c hc;exact⟨v,hv,hr.mono h1 h2⟩⟩
theorem Tv:∀{cs bH:List AV}{vs:List Value}{rd:RD}{σ σ':ak},bc rd φ O w0 σ w->PW rd φ cs vs->C9 σ cs=some (σ',bH)->
  r8 rd φ O w0 w σ' fun rd'=>(∀φ',PW rd' φ' bH vs)/\∀c∈bH,kb c=true
 | [],bH,vs,rd,σ,σ',h,hp,hf=>by
  cases hf;have:vs=[]:=List.eq_nil_of_length_eq_zero hp.1.symm
  subst this;exact⟨rd,.refl,h,fun _=>PW.nil,fun c hc=>by simp at hc⟩
 | c::cs,bH,vs,rd,σ,σ',h,hp,hf=>by
  obtain⟨v,us,rfl,hr,hp⟩:=hp.kV;simp only[C9]at hf;obtain⟨⟨σ1,c1⟩,h1,hf⟩:=cG hf;obtain⟨⟨σ2,Mm⟩,h2,hf⟩:=cP hf;cases hf;obtain⟨eh,x1,k1,v1,s1⟩:=G9 h hr h1;obtain⟨dV,x2,k2,v2,s2⟩:=Tv k1 (hp.mono x1.1 (fun _ _ _ _ h=>h)) h2;refine⟨dV,x1.trans x2,k2,fun φ'=>PW.cons ((v1 φ').mono x2.1 (fun _ _ _ _ h=>h)) (v2 φ'),fun c hc=>?_⟩;rcases List.mem_cons.1 hc with rfl|hc
  ·exact s1
  exact s2 c hc
theorem C2 (h:bc rd φ O w0 σ w) {c c':AV}{v:Value}{σ':ak}(hv:aL rd φ c v) (hf:iI σ c=some (σ',c')):
  r8 rd φ O w0 w σ' fun rd'=>∀φ',aL rd' φ' c' v:=by
 cases c with
 | agg cs=>
  obtain⟨arr,rfl,hp⟩:=PW.mM hv;obtain⟨⟨σ1,uy⟩,h1,hf⟩:=cP hf;cases hf;obtain⟨eh,x1,k1,v1,_⟩:=Tv h hp h1;exact⟨eh,x1,k1,fun φ'=>PW.agg (v1 φ')⟩
 | _=>
  obtain⟨eh,x1,k1,v1,_⟩:=G9 h hv hf;exact⟨eh,x1,k1,v1⟩
theorem Hb:∀{cs bH:List AV}{vs:List Value}{rd:RD}{σ σ':ak},bc rd φ O w0 σ w->PW rd φ cs vs->o8 σ cs=some (σ',bH)->
  r8 rd φ O w0 w σ' fun rd'=>∀φ',PW rd' φ' bH vs
 | [],bH,vs,rd,σ,σ',h,hp,hf=>by
  cases hf;have:vs=[]:=List.eq_nil_of_length_eq_zero hp.1.symm
  subst this;exact⟨rd,.refl,h,fun _=>PW.nil⟩
 | c::cs,bH,vs,rd,σ,σ',h,hp,hf=>by
  obtain⟨v,us,rfl,hr,hp⟩:=hp.kV;simp only[o8]at hf;obtain⟨⟨σ1,c1⟩,h1,hf⟩:=cG hf;obtain⟨⟨σ2,Mm⟩,h2,hf⟩:=cP hf;cases hf;obtain⟨eh,x1,k1,v1⟩:=C2 h hr h1;obtain⟨dV,x2,k2,v2⟩:=Hb k1 (hp.mono x1.1 (fun _ _ _ _ h=>h)) h2;exact⟨dV,x1.trans x2,k2,fun φ'=>PW.cons ((v1 φ').mono x2.1 (fun _ _ _ _ h=>h)) (v2 φ')⟩
theorem YC (h:bc rd φ O w0 σ w) {t:Nat}{x y:AV}{cx cy:Value}(hx:aL rd φ x cx) (hy:aL rd φ y cy) {σ':ak}(ha:AB P σ t x y=some σ'):
  ∃w' rd',(Instr.storeAt t cx cy).run P w=.ok () w'/\Ext O w0 rd rd'/\bc rd' φ O w0 σ' w':=by
 unfold AB at ha;obtain⟨i,hi,cQ⟩:=cG ha;cases x with
 | ptr r g p sz k o=>
  simp only at cQ;split at cQ
  ·obtain⟨w',h1,h2⟩:=OW h hi hx hy cQ;exact⟨w',rd,h1,.refl,h2⟩
  obtain⟨⟨σ1,y1⟩,hf,cN⟩:=cG cQ;obtain⟨eh,x1,k1,v1⟩:=C2 h hy hf;obtain⟨w',h1,h2⟩:=OW k1 hi (hx.mono x1.1 (fun _ _ _ _ h=>h)) (v1 φ) cN;exact⟨w',eh,h1,x1,h2⟩
 | _=>simp at cQ
theorem aen (h:bc rd φ O w0 σ w) {t:Nat}{x v:AV}{cx:Value}(hx:aL rd φ x cx) {f:Nat}(ha:DZ P t x f=some v):
  kR rd φ O w0 σ v ((Instr.fieldAt t cx f).run P w):=by
 unfold DZ at ha;obtain⟨i,hi,ha⟩:=cG ha;obtain⟨inf,dm,h1,h2,h3,h4,h5,h6,h7,h8,h9,zX⟩:=pq hi;split at ha
 ·rename_i hk;obtain⟨of,Gu,ha⟩:=cG ha;rw[zX]at hk;cases dm with
  | struct fs=>
   rw[h7]at Gu;simp only[List.getElem?_map]at Gu;obtain⟨fl,fK,rfl⟩:=cP Gu;have La:fs[f]?=some fl:=by simpa using fK
   have ac2:∀(a:Addr),P.cellsOf fl.type≠0->(fieldPlace a fl).run P w=.ok (a.add fl.offset) w:=by
    intro a bJ;unfold Program.cellsOf at bJ;cases hq:P.info? fl.type with
    | none=>simp[hq]at bJ
    | some z=>
     have hz:z.size≠0:=by simpa[hq]using bJ
     simp[fieldPlace,sizeOf,typeInfo,hq,hz]
   split at ha
   ·cases ha
   rename_i hz;have bJ:P.cellsOf fl.type≠0:=fun e=>by simp[e]at hz
   have eS:∀a:Addr,(Instr.fieldAt t (.pointer (some a)) f).run P w=.ok (.pointer (some (a.add fl.offset))) w:=by
    intro a;simp[Instr.fieldAt,run_underlying h2 w,La,Instr.sureAddr,ac2 a bJ]
   cases hx with
   | ptr r g p sz k o pl b q hφ aK=>
    have ha:=Option.some.inj ha;subst ha;refine .same h (eS _) ?_;rw[qn];have:=aL.ptr (rd:=rd) (φ:=φ) r g p sz k (o+fl.offset) pl b q hφ aK
    rwa[show q+k * sz+o+fl.offset=q+k * sz+(o+fl.offset) by omega]
   | rp cs b q f' hs hr hv=>
    have ha:=Option.some.inj ha;subst ha;refine .same h (eS _) ?_;rw[qn];exact .rp _ _ _ (fun j=>f' (fl.offset+j)) (fun j c hc=>by rw[List.getElem?_drop]at hc;exact hs _ _ hc) (fun j c hc=>by rw[List.getElem?_drop]at hc;rw[Nat.add_assoc];exact hr _ _ hc)
     (fun j c hc=>by rw[List.getElem?_drop]at hc;exact hv _ _ hc)
   | _=>simp at ha
  | _=>simp[la]at hk
 cases ha
end
end
section
open Go Go.RowKit
set_option linter.unusedVariables false
def Ab (F:TypeId->Option (List TK)) (P:Program) (off:Nat):List Field->Option (List TK)
 | []=>some []
 | f::fs=>match F f.type with
  | some ks=>if f.name≠ "_" /\f.offset=off/\P.cellsOf f.type=ks.length then(Ab F P (off+ks.length) fs).map (ks++·) else none
  | none=>none
def qM (P:Program):Nat->TypeId->Option (List TK)
 | 0,_=>none
 | d+1,t=>match P.underlying t with
  | some .bool=>some [.bool]
  | some (.int k)=>some [.int k]
  | some .string=>some [.string]
  | some (.struct fs)=>if P.stoodInHeld t=false then Ab (qM P d) P 0 fs.toList else none
  | _=>none
def o0:TK->Value->Value->Option Bool
 | .bool,.bool x,.bool y=>some (x==y)
 | .string,.string x,.string y=>some (x.toList==y.toList)
 | .int _,.int k x,.int k' y=>if k=k' then some (x==y) else none
 | _,_,_=>none
def nL:List TK->List Value->List Value->Option Bool
 | [],[],[]=>some true
 | k::ks,x::xs,y::ys=>(o0 k x y).bind fun r=>(nL ks xs ys).map (r&&·)
 | _,_,_=>none
theorem L5:∀{ks F9:List TK}{xs Ei ys Eh:List Value}{a:Bool},xs.length=ks.length->ys.length=ks.length->nL (ks++F9) (xs++Ei) (ys++Eh)=some a->∃b c,nL ks xs ys=some b/\nL F9 Ei Eh=some c/\a=(b&&c)
 | [],F9,[],Ei,[],Eh,a,_,_,h=>⟨true,a,rfl,h,by simp⟩
 | k::ks,F9,x::xs,Ei,y::ys,Eh,a,h1,h2,h=>by
  have h1:xs.length=ks.length:=by simpa using h1
  have h2:ys.length=ks.length:=by simpa using h2
  simp only[List.cons_append,nL]at h ⊢;obtain⟨r,hr,h⟩:=cG h;obtain⟨q,hq,rfl⟩:=cP h;obtain⟨b,c,e1,e2,rfl⟩:=L5 h1 h2 hq;exact⟨r&&b,c,by rw[hr,e1];rfl,e2,by rw[Bool.and_assoc]⟩
 | [],_,_::_,_,_,_,_,h,_,_=>by simp at h
 | [],_,[],_,_::_,_,_,_,h,_=>by simp at h
 | _::_,_,[],_,_,_,_,h,_,_=>by simp at h
 | _::_,_,_::_,_,[],_,_,_,h,_=>by simp at h
theorem Hk:∀{ks:List TK}{xs ys:List Value}{a:Bool},nL ks xs ys=some a->xs.length=ks.length/\ys.length=ks.length
 | [],[],[],_,_=>⟨rfl,rfl⟩
 | k::ks,x::xs,y::ys,a,h=>by
  simp only[nL]at h;obtain⟨r,hr,h⟩:=cG h;obtain⟨q,hq,rfl⟩:=cP h;have:=Hk hq;simp[this.1,this.2]
 | [],_::_,_,_,h=>by cases h
 | [],[],_::_,_,h=>by cases h
 | _::_,[],_,_,h=>by cases h
 | _::_,_::_,[],_,h=>by cases h
theorem L4 {k:TK}{xs ys:List Value}{r:Bool}(h:nL [k] xs ys=some r):∃x y,xs=[x]/\ys=[y]/\o0 k x y=some r:=by
 have hl:=Hk h
 match xs,ys,hl with
 | [x],[y],_=>
  simp only[nL]at h;obtain⟨q,hq,h⟩:=cG h;simp at h;exact⟨x,y,rfl,rfl,by rw[hq,h]⟩
def tT (P:Program) (t:TypeId) (xs:List Value):Value:=match P.underlying t with
 | some (.struct _)=>.agg xs.toArray
 | _=>xs.headD undef
theorem Jw {P:Program}{w:World}{d:Nat}{t:TypeId}{ks:List TK}(h:qM P d t=some ks) (hc:P.cellsOf t=ks.length) {pre xs post:List Value}(hl:xs.length=ks.length):(part t (pre++xs++post).toArray pre.length).run P w=.ok (tT P t xs) w:=by
 cases d with
 | zero=>cases h
 | succ d=>
  unfold qM at h;unfold tT;cases hu:P.underlying t with
  | none=>rw[hu]at h;cases h
  | some dm=>
   rw[hu]at h;have one:ks.length=1->(part t (pre++xs++post).toArray pre.length).run P w=.ok (xs.headD undef) w\/dm.isRow=true:=by
    intro h1;by_cases hr:dm.isRow=true
    ·exact .inr hr
    refine .inl ?_
    match xs,hl.trans h1 with
    | [x],_=>
     cases dm<;>simp_all[part,isAgg,run_underlying hu,TypeDesc.isRow]
   cases dm<;>simp only at h<;>first
    | (cases h;done)
    | (cases h;exact(one rfl).resolve_right (by simp[TypeDesc.isRow]))
    | skip
   obtain⟨i,hi⟩:=info_of_underlying hu;have he:(pre++xs++post).toArray.extract pre.length (pre.length+P.cellsOf t)=xs.toArray:=by
    rw[<-Array.toList_inj,Array.toList_extract,hc,<-hl];simp[List.extract]
   simp[part,isAgg,run_underlying hu,run_sizeOf w hi]
   simpa using he
def W9 (P:Program) (d:Nat) (t:TypeId) (ks:List TK):Prop:=∀(D:Nat),d<=D->∀(w:World) (xs ys:List Value) (r:Bool),nL ks xs ys=some r->(Op.equalIn D t (tT P t xs) (tT P t ys)).run P w=.ok r w
theorem TV {P:Program}{d D:Nat}(IH:∀t ks,qM P d t=some ks->W9 P d t ks) (hd:d<=D):∀(fs:List Field) (off:Nat) (ks:List TK),Ab (qM P d) P off fs=some ks->∀(w:World) (pre zj xs ys:List Value) (r:Bool),pre.length=off->zj.length=off->nL ks xs ys=some r->
  (Op.eqFields D (pre++xs).toArray (zj++ys).toArray fs).run P w=.ok r w
 | [],off,ks,h,w,pre,zj,xs,ys,r,h1,h2,he=>by
  cases h
  match xs,ys,he with
  | [],[],he=>cases he;rfl
 | f::fs,off,ks,h,w,pre,zj,xs,ys,r,h1,h2,he=>by
  simp only[Ab]at h;split at h
  ·rename_i k1 uh;split at h
   ·rename_i hc;obtain⟨hn,ho,iH⟩:=hc;obtain⟨k2,mw,rfl⟩:=cP h;have hlen:=Hk he;rw[List.length_append]at hlen;have ex:xs=xs.take k1.length++xs.drop k1.length:=(List.take_append_drop _ _).symm;have ey:ys=ys.take k1.length++ys.drop k1.length:=(List.take_append_drop _ _).symm;have lx:(xs.take k1.length).length=k1.length:=by rw[List.length_take];omega
    have ly:(ys.take k1.length).length=k1.length:=by rw[List.length_take];omega
    rw[ex,ey]at he;obtain⟨b,c,e1,e2,rfl⟩:=L5 lx ly he;have p1:=Jw (P:=P) (w:=w) uh iH (pre:=pre) (xs:=xs.take k1.length) (post:=xs.drop k1.length) lx;have p2:=Jw (P:=P) (w:=w) uh iH (pre:=zj) (xs:=ys.take k1.length) (post:=ys.drop k1.length) ly;have q:=IH _ _ uh D hd w _ _ b e1;rw[List.append_assoc,<-ex,h1]at p1;rw[List.append_assoc,<-ey,h2]at p2;simp only[Op.eqFields];rw[if_pos hn,ho];simp only[Sem.run_bind,p1,p2,q,Result.andThen_ok];cases b with
    | false=>simp
    | true=>
     have rc:=TV IH hd fs (off+k1.length) k2 mw w (pre++xs.take k1.length) (zj++ys.take k1.length) (xs.drop k1.length) (ys.drop k1.length) c (by rw[List.length_append,h1,lx]) (by rw[List.length_append,h2,ly]) e2;rw[List.append_assoc,<-ex,List.append_assoc,<-ey]at rc
     simpa using rc
   cases h
  cases h
theorem TX {P:Program}:∀(d:Nat) (t:TypeId) (ks:List TK),qM P d t=some ks->W9 P d t ks
 | 0,t,ks,h=>by cases h
 | d+1,t,ks,h=>by
  intro D hD w xs ys r he;obtain⟨D',rfl⟩:∃D',D=D'+1:=⟨D - 1,by omega⟩;unfold qM at h;unfold tT;cases hu:P.underlying t with
  | none=>rw[hu]at h;cases h
  | some dm=>
   rw[hu]at h;cases dm<;>simp only at h<;>first
    | (cases h;done)
    | skip
   case bool=>
    cases h;obtain⟨x,y,rfl,rfl,hh⟩:=L4 he
    cases x<;>(try(simp[o0]at hh;done))<;>cases y<;>(try(simp[o0]at hh;done))
    simp only[o0,Option.some.injEq]at hh;subst hh;simp[run_equalIn_bool' w D' t _ _ hu]
   case int k=>
    cases h;obtain⟨x,y,rfl,rfl,hh⟩:=L4 he
    cases x<;>(try(simp[o0]at hh;done))<;>cases y<;>(try(simp[o0]at hh;done))
    simp only[o0]at hh;split at hh
    ·rename_i hk;subst hk;cases hh;simp[run_equalIn_int w D' t _ k _ _ hu]
    cases hh
   case string=>
    cases h;obtain⟨x,y,rfl,rfl,hh⟩:=L4 he
    cases x<;>(try(simp[o0]at hh;done))<;>cases y<;>(try(simp[o0]at hh;done))
    simp only[o0,Option.some.injEq]at hh;subst hh;simp[run_equalIn_string w D' t _ _ hu]
   case struct fs=>
    split at h
    ·rename_i hp;have hf:P.fieldsOf t=fs:=by simp[Program.fieldsOf,hu]
     have key:=run_equalIn_struct (P:=P) w D' t xs.toArray ys.toArray (by rw[hf];exact hu) hp;simp only;rw[key,hf];exact TV (TX d) (by omega) fs.toList 0 ks h w [] [] xs ys r rfl rfl he
    cases h
def vQ:List TK->List AV->List AV->Option Bool
 | [],[],[]=>some true
 | k::ks,.sc x::xs,.sc y::ys=>(o0 k x y).bind fun r=>(vQ ks xs ys).map (r&&·)
 | _,_,_=>none
theorem Di {rd:RD}{φ:cj}:∀{ks:List TK}{xs ys:List AV}{vx vy:List Value}{r:Bool},PW rd φ xs vx->PW rd φ ys vy->vQ ks xs ys=some r->nL ks vx vy=some r
 | [],[],[],vx,vy,r,hx,hy,h=>by
  have e1:vx=[]:=List.eq_nil_of_length_eq_zero hx.1.symm;have e2:vy=[]:=List.eq_nil_of_length_eq_zero hy.1.symm;subst e1;subst e2;exact h
 | k::ks,.sc x::xs,.sc y::ys,vx,vy,r,hx,hy,h=>by
  obtain⟨v,vs,rfl,h1,sN⟩:=hx.kV;obtain⟨u,us,rfl,h2,zH⟩:=hy.kV;clear hx hy;simp only[vQ]at h;obtain⟨q,hq,h⟩:=cG h;obtain⟨z,hz,rfl⟩:=cP h;cases h1;cases h2;simp only[nL,hq,Option.bind_some,Di sN zH hz,Option.map_some]
def jB (P:Program) (t:TypeId):Option (List TK):=match P.underlying t with
 | some (.struct _)=>if P.eqGuardType P.depth t=false then qM P 8 t else none
 | _=>none
theorem L3 {P:Program}{t:TypeId}{ks:List TK}(h:jB P t=some ks) {xs ys:List Value}{r:Bool}(he:nL ks xs ys=some r) (w:World):(Op.equal t (.agg xs.toArray) (.agg ys.toArray)).run P w=.ok r w/\P.eqGuardType P.depth t=false:=by
 unfold jB at h;split at h
 ·rename_i fs hu;split at h
  ·rename_i hg;refine⟨?_,hg⟩;have key:=TX 8 t ks h 10000 (by omega) w xs ys r he;unfold tT at key;rw[hu]at key;exact key
  cases h
 cases h
end
section
open Go Go.RowKit
set_option linter.unusedVariables false
def tk (P:Program) (t:Nat):Option TK:=(ti P t).map fun i=>i.k
def Ns (k:IntKind) (x y:Int):Int:=k.wrap (BitVec.ofInt k.bits x&&& BitVec.ofInt k.bits y).toNat
def kZ (k:IntKind) (x y:Int):Int:=k.wrap (BitVec.ofInt k.bits x||| BitVec.ofInt k.bits y).toNat
def QQ (k:IntKind) (x:Int):Int:=k.wrap (BitVec.ofInt k.bits (if k.signed then -1 else k.max) ^^^ BitVec.ofInt k.bits x).toNat
def wF (k:IntKind) (x y:Int):Int:=k.wrap (BitVec.ofInt k.bits x ^^^ BitVec.ofInt k.bits y).toNat
def H7 (op:BinOp) (k:IntKind) (x y:Int):Option Value:=
 match op with
 | .add=>some (.int k (k.wrap (x+y)))
 | .sub=>some (.int k (k.wrap (x - y)))
 | .mul=>some (.int k (k.wrap (x * y)))
 | .quo=>match decide (y=0) with|true=>none|false=>some (.int k (k.wrap (x.tdiv y)))
 | .rem=>match decide (y=0) with|true=>none|false=>some (.int k (x.tmod y))
 | .and=>some (.int k (Ns k x y))
 | .or=>some (.int k (kZ k x y))
 | .xor=>some (.int k (wF k x y))
 | .andNot=>some (.int k (k.wrap (BitVec.ofInt k.bits x&&& ~~~BitVec.ofInt k.bits y).toNat))
 | .eql=>some (.bool (x==y))
 | .neq=>some (.bool (x != y))
 | .lss=>some (.bool (decide (x<y)))
 | .leq=>some (.bool (decide (x<=y)))
 | .gtr=>some (.bool (decide (x>y)))
 | .geq=>some (.bool (decide (x>=y)))
 | _=>none
def ND (op:BinOp) (k:IntKind) (x y:Int):Option Value:=
 match decide (y<0),op with
 | false,.shl=>some (.int k (k.wrap (x * 2 ^ (min y.toNat k.bits))))
 | false,.shr=>some (.int k (x.fdiv (2 ^ (min y.toNat k.bits))))
 | _,_=>none
def NB (op:BinOp) (x y:ByteArray):Option Value:=
 match op with
 | .add=>match decide (((x.size+y.size:Nat):Int)>9223372036854775807) with|true=>none|false=>some (.string (x++y))
 | .eql=>some (.bool (x.toList==y.toList))
 | .neq=>some (.bool (!(x.toList==y.toList)))
 | _=>none
def Gf:BinOp->Bool
 | .shl|.shr=>true
 | _=>false
def D4 (P:Program) (op:BinOp) (t:Nat) (a b:AV):Option AV:=
 match a,b with
 | .sc (.int k x),.sc (.int k' y)=>match Gf op with
  | true=>(ND op k x y).map .sc
  | false=>match decide (k=k') with
   | true=>(H7 op k x y).map .sc
   | false=>none
 | .sc (.string x),.sc (.string y)=>(NB op x y).map .sc
 | .sc (.bool x),.sc (.bool y)=>match op,tk P t with
  | .eql,some .bool=>some (.sc (.bool (x==y)))
  | .neq,some .bool=>some (.sc (.bool (!(x==y))))
  | _,_=>none
 | .agg xs,.agg ys=>match op,jB P t with
  | .eql,some ks=>(vQ ks xs ys).map fun r=>.sc (.bool r)
  | .neq,some ks=>(vQ ks xs ys).map fun r=>.sc (.bool (!r))
  | _,_=>none
 | _,_=>none
def DS (op:UnOp) (a:AV):Option AV:=
 match op,a with
 | .not,.sc (.bool b)=>some (.sc (.bool (!b)))
 | .neg,.sc (.int k n)=>some (.sc (.int k (k.wrap (0 - n))))
 | .xor,.sc (.int k n)=>some (.sc (.int k (QQ k n)))
 | _,_=>none
def H9 (P:Program) (src dst:Nat) (a:AV):Option AV:=
 match tk P src,tk P dst,a with
 | some _,some (.int k),.sc (.int _ n)=>some (.sc (.int k (k.wrap n)))
 | some _,some .string,.sc (.string s)=>some (.sc (.string s))
 | _,_,_=>none
def D1 (a:AV) (i:Nat):Option AV:=
 match a with
 | .aZ vs=>vs[i]?
 | _=>none
def H4 (a:AV):Option AV:=
 match a with
 | .ptr r g p sz i o=>some (.ptr r g p sz i o)
 | .rp cs=>some (.rp cs)
 | _=>none
def H3 (c a b:AV):Option AV:=
 match c with
 | .sc (.bool true)=>some a
 | .sc (.bool false)=>some b
 | _=>none
def DV (P:Program) (t:Nat) (a:AV):Option AV:=
 match tk P t,a with
 | some .string,.sc (.string s)=>some (.sc (.int .i64 s.size))
 | some .slice,.aG=>some (.sc (.int .i64 0))
 | some .slice,.aw _ _ _ _ _ len=>some (.sc (.int .i64 len))
 | some .slice,.ro _ es=>some (.sc (.int .i64 es.length))
 | some .array,_=>(ti P t).map fun i=>.sc (.int .i64 i.n)
 | _,_=>none
section
variable {P:Program}{rd:RD}{φ:cj}{O:Nat->Prop}{w0 w:World}{σ:ak}{d G:Nat}
theorem j8 {t:Nat}{k:TK}(h:tk P t=some k):∃i,ti P t=some i/\i.k=k:=by
 unfold tk at h;cases hi:ti P t with
 | none=>rw[hi]at h;cases h
 | some i=>rw[hi]at h;exact⟨i,rfl,Option.some.inj h⟩
theorem nq {t:Nat}{i:TI}(h:ti P t=some i):∃dm,P.underlying t=some dm/\i.k=la dm/\i.el=L6 dm/\i.n=Kj dm:=by
 obtain⟨inf,dm,h1,h2,h3,h4,h5,h6,h7,h8,h9,zX⟩:=pq h;exact⟨dm,h2,zX,h8,h9⟩
theorem fH {v v':Value}(h:aL rd φ (.sc v) v'):v'=v:=by cases h;rfl
theorem aia {op:BinOp}{k:IntKind}{x y:Int}{v:Value}(hs:Gf op=false) (h:H7 op k x y=some v):
  (binOp op 0 (.int k x) (.int k y)).run P w=.ok v w/\tL v=true:=by
 cases op<;>simp only[H7,Gf]at h hs<;>first
  | (cases hs;done)
  | (cases h;done)
  | (cases h;exact⟨by simp only[binOp,ne_eq,not_true_eq_false,if_false];rfl,rfl⟩)
  | (split at h
     ·cases h
     rename_i hy;cases h;have hy:=of_decide_eq_false hy;exact⟨by simp only[binOp,ne_eq,not_true_eq_false,if_false,Op.intDiv,hy];rfl,rfl⟩)
theorem ahL {op:BinOp}{t t':TypeId}{k:IntKind}{x y:Int}:binOp op t (.int k x) (.int k y)=binOp op t' (.int k x) (.int k y):=by
 cases op<;>rfl
theorem ahK (h:bc rd φ O w0 σ w) {op:BinOp}{t:Nat}{x y v:AV}{ox oy:Operand}{cx cy:Value}(hx:aL rd φ x cx) (hy:aL rd φ y cy) (ha:D4 P op t x y=some v):
  kR rd φ O w0 σ v ((do eqGuard op t ox oy cx cy;binOp op t cx cy:Sem Value).run P w):=by
 unfold D4 at ha;split at ha
 ·rename_i k x k' y;cases fH hx;cases fH hy;have hg:(eqGuard op t ox oy (.int k x) (.int k' y)).run P w=.ok () w:=by
   unfold eqGuard;cases op<;>rfl
  split at ha
  ·rename_i hs;obtain⟨u,hu,rfl⟩:=cP ha;unfold ND at hu;split at hu
   ·have hy:=of_decide_eq_false ‹decide _=false›;cases hu;exact .same h (cv:=.int k (k.wrap (x * 2 ^ (min y.toNat k.bits)))) (by rw[Sem.run_bind,hg];simp[binOp,Op.shift,hy]) (.sc _ rfl)
   ·have hy:=of_decide_eq_false ‹decide _=false›;cases hu;exact .same h (cv:=.int k (x.fdiv (2 ^ (min y.toNat k.bits)))) (by rw[Sem.run_bind,hg];simp[binOp,Op.shift,hy]) (.sc _ rfl)
   cases hu
  rename_i hs;split at ha
  ·rename_i hk;have hk:=of_decide_eq_true hk;subst hk;obtain⟨u,hu,rfl⟩:=cP ha;obtain⟨h1,h2⟩:=aia (P:=P) (w:=w) hs hu;refine .same h (cv:=u) ?_ (.sc _ h2);rw[Sem.run_bind,hg,Result.andThen_ok,ahL (t':=0)];exact h1
  cases ha
 ·rename_i x y;cases fH hx;cases fH hy;have hg:(eqGuard op t ox oy (.string x) (.string y)).run P w=.ok () w:=by
   unfold eqGuard;cases op<;>rfl
  obtain⟨u,hu,rfl⟩:=cP ha;have key:(binOp op t (.string x) (.string y)).run P w=.ok u w/\tL u=true:=by
   cases op<;>simp only[NB]at hu<;>first
    | (cases hu;done)
    | (cases hu;exact⟨by simp[binOp,Op.stringOp],rfl⟩)
    | (split at hu
       ·cases hu
       rename_i hy;cases hu;have hy:=of_decide_eq_false hy;have zG:¬((x.size+y.size:Nat):Int)>IntKind.i64.max:=by simpa[IntKind.max,IntKind.bits,IntKind.signed]using hy
       exact⟨by simp only[binOp,Op.stringOp];rw[if_neg zG];rfl,rfl⟩)
  exact .same h (cv:=u) (by rw[Sem.run_bind,hg];exact key.1) (.sc _ key.2)
 ·rename_i x y;cases fH hx;cases fH hy;have hg:(eqGuard op t ox oy (.bool x) (.bool y)).run P w=.ok () w:=by
   unfold eqGuard;cases op<;>rfl
  have eS:∀i,ti P t=some i->i.k=.bool->(Op.equal t (.bool x) (.bool y)).run P w=.ok (x==y) w:=by
   intro i hi hk;obtain⟨dm,h1,h2,-⟩:=nq hi;rw[hk]at h2;cases dm<;>simp[la]at h2;have key:∀n,(Op.equalIn (n+1) t (.bool x) (.bool y)).run P w=.ok (x==y) w:=by
    intro n;simp only[Op.equalIn,Sem.run_bind,run_underlying h1 w,Result.andThen_ok];rfl
   exact key 9999
  split at ha
  ·obtain⟨i,hi,hk⟩:=j8 ‹_›;cases ha;exact .same h (cv:=.bool (x==y)) (by rw[Sem.run_bind,hg];simp[binOp,eS i hi hk]) (.sc _ rfl)
  ·obtain⟨i,hi,hk⟩:=j8 ‹_›;cases ha;exact .same h (cv:=.bool (!(x==y))) (by rw[Sem.run_bind,hg];simp[binOp,eS i hi hk]) (.sc _ rfl)
  cases ha
 ·rename_i xs ys;obtain⟨ax,rfl,px⟩:=PW.mM hx;obtain⟨ay,rfl,py⟩:=PW.mM hy;have hg:P.eqGuardType P.depth t=false->(eqGuard op t ox oy (.agg ax) (.agg ay)).run P w=.ok () w:=by
   intro hq;unfold eqGuard;cases op<;>simp[hq]
  split at ha
  ·rename_i ks Cz;obtain⟨r,hr,rfl⟩:=cP ha;obtain⟨k1,k2⟩:=L3 Cz (Di px py hr) w;exact .same h (cv:=.bool r) (by
    have k3:(Op.equal t (.agg ax) (.agg ay)).run P w=.ok r w:=by simpa using k1
    rw[Sem.run_bind,hg k2];simp[binOp,k3]) (.sc _ rfl)
  ·rename_i ks Cz;obtain⟨r,hr,rfl⟩:=cP ha;obtain⟨k1,k2⟩:=L3 Cz (Di px py hr) w;exact .same h (cv:=.bool (!r)) (by
    have k3:(Op.equal t (.agg ax) (.agg ay)).run P w=.ok r w:=by simpa using k1
    rw[Sem.run_bind,hg k2];simp[binOp,k3]) (.sc _ rfl)
  cases ha
 cases ha
theorem Yb (h:bc rd φ O w0 σ w) {op:UnOp}{x v:AV}{cx:Value}(hx:aL rd φ x cx) (ha:DS op x=some v):
  kR rd φ O w0 σ v ((Op.unary op cx).run P w):=by
 unfold DS at ha;split at ha
 ·cases fH hx
  cases ha;exact .same h (by simp[Op.unary]) (.sc _ rfl)
 ·cases fH hx
  cases ha;exact .same h (by simp only[Op.unary,Op.intArith];rfl) (.sc _ rfl)
 ·cases fH hx
  cases ha;exact .same h (by simp only[Op.unary,Op.intBits];rfl) (.sc _ rfl)
 cases ha
theorem afp (h:bc rd φ O w0 σ w) {src dst:Nat}{x v:AV}{cx:Value}(hx:aL rd φ x cx) (ha:H9 P src dst x=some v):
  kR rd φ O w0 σ v ((convert src dst cx).run P w):=by
 unfold H9 at ha;split at ha
 ·obtain⟨i,hi,hk⟩:=j8 ‹tk P dst=_›;obtain⟨j,hj,-⟩:=j8 ‹tk P src=_›;obtain⟨dm,h1,h2,-⟩:=nq hi;obtain⟨L7,o6,-⟩:=nq hj;rw[hk]at h2;cases dm<;>simp[la]at h2;subst h2;cases fH hx;cases ha;refine .same h (cv:=.int _ _) ?_ (.sc _ rfl);unfold convert;simp only[Sem.run_bind,run_underlying h1 w,run_underlying o6 w,Result.andThen_ok];rfl
 ·obtain⟨i,hi,hk⟩:=j8 ‹tk P dst=_›;obtain⟨j,hj,-⟩:=j8 ‹tk P src=_›;obtain⟨dm,h1,h2,-⟩:=nq hi;obtain⟨L7,o6,-⟩:=nq hj;rw[hk]at h2;cases dm<;>simp[la]at h2;cases fH hx;cases ha;refine .same h (cv:=.string _) ?_ (.sc _ rfl);unfold convert;simp only[Sem.run_bind,run_underlying h1 w,run_underlying o6 w,Result.andThen_ok];cases L7<;>rfl
 cases ha
theorem aeq (h:bc rd φ O w0 σ w) {x v:AV}{cx:Value}(hx:aL rd φ x cx) {i:Nat}(ha:D1 x i=some v):
  kR rd φ O w0 σ v ((Instr.extract cx i).run P w):=by
 unfold D1 at ha;split at ha
 ·obtain⟨arr,rfl,hp⟩:=PW.tS hx;obtain⟨u,hu,hr⟩:=hp.2 _ _ ha;have cU:arr[i]?=some u:=by simpa using hu
  exact .same h (by simp[Instr.extract,cU]) hr
 cases ha
theorem ab2 (h:bc rd φ O w0 σ w) {t:Nat}{x v:AV}{cx:Value}(hx:aL rd φ x cx) (ha:DV P t x=some v) (ts:Array Nat) (ht:ts[0]?=some t) (T:TypeId) (args:Array Value) (fL:args[0]?=some cx):
  kR rd φ O w0 σ v ((Builtin.len_ ts T args).run P w):=by
 unfold DV at ha;split at ha
 ·obtain⟨i,hi,hk⟩:=j8 ‹tk P t=_›;obtain⟨dm,h1,h2,-⟩:=nq hi;rw[hk]at h2;cases dm<;>simp[la]at h2;cases fH hx;cases ha;exact .same h (cv:=.int .i64 _) (by simp only[Builtin.len_,ht,fL,Sem.run_bind,run_underlying h1 w,Result.andThen_ok];rfl) (.sc _ rfl)
 ·obtain⟨i,hi,hk⟩:=j8 ‹tk P t=_›;obtain⟨dm,h1,h2,-⟩:=nq hi;rw[hk]at h2;cases dm<;>simp[la]at h2;cases hx;cases ha;exact .same h (cv:=.int .i64 0) (by simp only[Builtin.len_,ht,fL,Sem.run_bind,run_underlying h1 w,Result.andThen_ok];rfl) (.sc _ rfl)
 ·obtain⟨i,hi,hk⟩:=j8 ‹tk P t=_›;obtain⟨dm,h1,h2,-⟩:=nq hi;rw[hk]at h2;cases dm<;>simp[la]at h2;cases hx;cases ha;exact .same h (cv:=.int .i64 _) (by simp only[Builtin.len_,ht,fL,Sem.run_bind,run_underlying h1 w,Result.andThen_ok];rfl) (.sc _ rfl)
 ·obtain⟨i,hi,hk⟩:=j8 ‹tk P t=_›;obtain⟨dm,h1,h2,-⟩:=nq hi;rw[hk]at h2;cases dm<;>simp[la]at h2;cases ha;cases hx with
  | iC sz A cap=>exact .same h (cv:=.int .i64 0) (by simp only[Builtin.len_,ht,fL,Sem.run_bind,run_underlying h1 w,Result.andThen_ok];rfl) (.sc _ rfl)
  | ro sz es b q cap f hc hs hr hv=>exact .same h (cv:=.int .i64 _) (by simp only[Builtin.len_,ht,fL,Sem.run_bind,run_underlying h1 w,Result.andThen_ok];rfl) (.sc _ rfl)
 ·obtain⟨i,hi,hk⟩:=j8 ‹tk P t=_›;obtain⟨dm,h1,h2,-,h4⟩:=nq hi;rw[hk]at h2;rw[hi]at ha;cases dm<;>simp[la]at h2;cases ha;simp only[h4];exact .same h (cv:=.int .i64 _) (by simp only[Builtin.len_,ht,fL,Sem.run_bind,run_underlying h1 w,Result.andThen_ok];rfl) (.sc _ rfl)
 cases ha
end
end
section
open Go Go.RowKit
set_option linter.unusedVariables false
def oa {α:Type} (p:Prop) [Decidable p] (x:Option α):Option α:=if p then x else none
theorem acR {α:Type}{p:Prop} [Decidable p] {x:Option α}(h:p):oa p x=x:=if_pos h
theorem qw {α:Type}{p:Prop} [Decidable p] {x:Option α}{v:α}(h:oa p x=some v):p/\x=some v:=by
 unfold oa at h;split at h
 ·exact⟨‹_›,h⟩
 cases h
def DX (P:Program) (σ:ak) (t:Nat) (a ix:AV):Option AV:=
 (ti P t).bind fun i=>(ti P i.el).bind fun e=>match ix with
  | .sc (.int _ z)=>match i.k,a with
   | .slice,.ro sz es=>match Nat.beq sz e.sz with
    | true=>oa (0<=z/\z<es.length) ((es[z.toNat]?).map .rp)
    | false=>none
   | .slice,.aw r g p sz off len=>match Nat.beq sz e.sz with
    | true=>(rowAt σ r g p).bind fun _=>oa (0<=z/\z<len) (some (.ptr r g p sz (off+z.toNat) 0))
    | false=>none
   | .array,.ptr r g p sz k o=>oa (0<=z/\z<i.n) (some (.ptr r g p sz k (o+z.toNat * e.sz)))
   | .array,.rp cs=>oa (0<=z/\z<i.n) (some (.rp (cs.drop (z.toNat * e.sz))))
   | _,_=>none
  | _=>none
def DU (P:Program) (d G:Nat) (σ:ak) (t:Nat) (l c:AV):Option (AV × ak):=
 (ti P t).bind fun i=>(ti P i.el).bind fun e=>e.zero.bind fun z=>match i.k,l,c with
  | .slice,.sc (.int _ n),.sc (.int _ m)=>match Nat.beq z.length e.sz,Nat.ble 1 e.sz with
   | true,true=>oa (n=m/\0<=n/\(e.bytes:Int) * n<=281474976710656/\n<=9223372036854775807)
    (some (.aw d G [] e.sz 0 n.toNat,bT σ d (G,one ⟨e.sz,List.replicate n.toNat z,iJ z,false⟩)))
   | _,_=>none
  | _,_,_=>none
section
variable {P:Program}{rd:RD}{φ:cj}{O:Nat->Prop}{w0 w:World}{σ:ak}{d G:Nat}
theorem qX {t:Nat}{i:TI}(hi:ti P t=some i) (hk:i.k=.slice):P.underlying t=some (.slice i.el):=by
 obtain⟨dm,h1,h2,h3,_⟩:=nq hi;rw[hk]at h2;cases dm<;>simp[la]at h2;rw[h1,h3];rfl
theorem OK {t:Nat}{i:TI}(hi:ti P t=some i) (hk:i.k=.array):P.underlying t=some (.array i.n i.el):=by
 obtain⟨dm,h1,h2,h3,h4⟩:=nq hi;rw[hk]at h2;cases dm<;>simp[la]at h2;rw[h1,h3,h4];rfl
theorem qi {e:Nat}{i:TI}(hi:ti P e=some i):(sizeOf e).run P w=.ok i.sz w:=by
 obtain⟨inf,dm,h1,h2,h3,_⟩:=pq hi;simp[sizeOf,typeInfo,h1,h3]
theorem Px {t:Nat}{i e:TI}(hi:ti P t=some i) (hk:i.k=.slice) (he:ti P i.el=some e) {a:Addr}{len cap:Nat}{k:IntKind}{z:Int}(h:0<=z/\z<len):
  (Instr.indexAt t (.slice (some a) len cap) (.int k z)).run P w=.ok (.pointer (some (a.add (z.toNat * e.sz)))) w:=by
 have hu:=qX hi hk;simp[Instr.indexAt,run_underlying hu,asIntOf,h.1,h.2,qi he]
theorem Py {t:Nat}{i e:TI}(hi:ti P t=some i) (hk:i.k=.array) (he:ti P i.el=some e) {a:Addr}{k:IntKind}{z:Int}(h:0<=z/\z<i.n):
  (Instr.indexAt t (.pointer (some a)) (.int k z)).run P w=.ok (.pointer (some (a.add (z.toNat * e.sz)))) w:=by
 have hu:=OK hi hk;simp[Instr.indexAt,run_underlying hu,asIntOf,Instr.sureAddr,h.1,h.2,qi he]
theorem acQ (h:bc rd φ O w0 σ w) {t:Nat}{x y v:AV}{cx cy:Value}(hx:aL rd φ x cx) (hy:aL rd φ y cy) (ha:DX P σ t x y=some v):
  kR rd φ O w0 σ v ((Instr.indexAt t cx cy).run P w):=by
 unfold DX at ha;obtain⟨i,hi,cQ⟩:=cG ha;clear ha;obtain⟨e,he,ha⟩:=cG cQ;clear cQ;cases y with
 | sc yv=>
  cases yv with
  | int ky z=>
   have:=fH hy;subst this;simp only at ha;split at ha
   ·rename_i sz es hk;split at ha
    ·rename_i dv;have dv:=Nat.eq_of_beq_eq_true dv;obtain⟨hz,cN⟩:=qw ha;obtain⟨cs,iH,rfl⟩:=cP cN;cases hx with
     | iC _ A cap=>simp at hz;omega
     | ro _ _ b q cap f hc hs hr hv=>
      refine .same h (Px hi hk he hz) ?_;rw[qn,<-dv];exact .rp cs b _ (fun j=>f z.toNat j) (fun j c hj=>hs z.toNat j c (by rw[iH];exact hj)) (fun j c hj=>hr z.toNat j c (by rw[iH];exact hj)) (fun j c hj=>hv z.toNat j c (by rw[iH];exact hj))
    cases ha
   ·rename_i r g p sz off len hk;split at ha
    ·rename_i dv;have dv:=Nat.eq_of_beq_eq_true dv;obtain⟨row,fF,gw⟩:=cG ha;obtain⟨hz,cN⟩:=qw gw;cases cN;cases hx with
     | aw _ _ _ _ _ _ pl A hφ hA hl=>
      obtain⟨cZ,jy,aI⟩:=h.rows _ _ _ _ fF;rw[hφ]at jy;cases jy;have rG:pl.cap - off≠0:=by omega
      rcases hA with hA|hA
      ·exact absurd hA rG
      cases aK:pl.ad with
      | none=>exact absurd (aI.nil aK) (by omega)
      | some bq=>
       obtain⟨b,q⟩:=bq;rw[aK]at hA;simp only[Option.map_some]at hA;subst hA;refine .same h (Px hi hk he hz) ?_;rw[qn,<-dv];have:=aL.ptr (rd:=rd) (φ:=φ) r g p sz (off+z.toNat) 0 pl b q hφ aK
       rwa[show q+(off+z.toNat) * sz+0=q+off * sz+z.toNat * sz by rw[Nat.add_mul];omega]at this
    cases ha
   ·rename_i r g p sz k o hk;obtain⟨hz,cN⟩:=qw ha;cases cN;cases hx with
    | ptr _ _ _ _ _ _ pl b q hφ aK=>
     refine .same h (Py hi hk he hz) ?_;rw[qn];have:=aL.ptr (rd:=rd) (φ:=φ) r g p sz k (o+z.toNat * e.sz) pl b q hφ aK
     rwa[show q+k * sz+(o+z.toNat * e.sz)=q+k * sz+o+z.toNat * e.sz by omega]at this
   ·rename_i cs hk;obtain⟨hz,cN⟩:=qw ha;cases cN;cases hx with
    | rp _ b q f' hs hr hv=>
     refine .same h (Py hi hk he hz) ?_;rw[qn];exact .rp _ _ _ (fun j=>f' (z.toNat * e.sz+j)) (fun j c hc=>by rw[List.getElem?_drop]at hc;exact hs _ _ hc) (fun j c hc=>by rw[List.getElem?_drop]at hc;rw[Nat.add_assoc];exact hr _ _ hc)
      (fun j c hc=>by rw[List.getElem?_drop]at hc;exact hv _ _ hc)
   cases ha
  | _=>cases ha
 | _=>cases ha
theorem abA (z:Array Value) (n k i j:Nat) (hj:j<z.size) (hi:i<n):(madeCells z (n * z.size))[i * z.size+j]?=z[j]?:=by
 have h1:i * z.size+j<n * z.size:=by
  have e1:(i+1) * z.size<=n * z.size:=Nat.mul_le_mul_right _ hi;rw[Nat.succ_mul]at e1;omega
 have h2:(i * z.size+j)%z.size=j:=by rw[Nat.mul_comm,Nat.mul_add_mod];exact Nat.mod_eq_of_lt hj
 simp[madeCells,h1,h2,hj]
theorem abz (h:bc rd φ O w0 σ w) (dA:∀p,φ d G p=none) {t:Nat}{x y v:AV}{cx cy:Value}(hx:aL rd φ x cx) (hy:aL rd φ y cy) {σ':ak}(ha:DU P d G σ t x y=some (v,σ')):
  tD rd φ O w0 d G σ' v ((Instr.makeSlice t cx cy).run P w):=by
 unfold DU at ha;obtain⟨i,hi,cQ⟩:=cG ha;clear ha;obtain⟨e,he,cN⟩:=cG cQ;clear cQ;obtain⟨z,hz,ha⟩:=cG cN;clear cN;split at ha
 ·rename_i kn n km m hk;have:=fH hx;subst this;have:=fH hy;subst this;split at ha
  ·rename_i kJ ku;have kJ:=Nat.eq_of_beq_eq_true kJ;have ku:=Nat.le_of_ble_eq_true ku;obtain⟨⟨rfl,h0,h1,h2⟩,cN⟩:=qw ha;cases cN;obtain⟨inf,dm,e1,e2,e3,e4,e5,e6,-⟩:=pq he;rw[e6]at hz;obtain⟨zv,sM,rfl⟩:=cP hz;have xE:zv.cells.size=e.sz:=by simpa using kJ
   have eS:=run_make (P:=P) w t i.el inf zv (qX hi hk) e1 sM kn km n n h0 (Int.le_refl _) (by rw[<-e4];exact h1) h2;rw[eS];have hn:=h.newRow dA ⟨e.sz,List.replicate n.toNat (zv.cells.toList.map lA),iJ (zv.cells.toList.map lA),false⟩ rfl (LR _) n.toNat (madeCells zv.cells (n.toNat * inf.size)) i.el (0,0) (.inr (Nat.le_refl _))
    (fun x hx=>by rw[(List.mem_replicate.1 hx).2];simpa using xE) (by simp) (by rw[size_madeCells,<-e3];exact Nat.le_refl _)
    (fun x hx=>by rw[(List.mem_replicate.1 hx).2];exact iM.BH _)
    (fun a b c hc=>by
     rw[List.getElem?_replicate]at hc;split at hc
     ·rename_i ha;simp only[Option.bind_some]at hc;obtain⟨u,hu,hr⟩:=(PW.lA (rd:=rd) (φ:=φ) zv.cells.toList).2 b c hc;have hb:b<zv.cells.size:=by
       rcases bp b zv.cells.size with hx|hx
       ·exact hx
       rw[List.getElem?_eq_none (by simpa using hx)]at hu;cases hu
      refine⟨u,?_,hr⟩;show(madeCells zv.cells (n.toNat * inf.size))[a * e.sz+b]?=some u
      rw[<-e3,<-xE,abA zv.cells n.toNat 0 a b hb ha]
      simpa using hu
     cases hc)
   refine⟨_,_,_,rfl,hn.1,?_,hn.2,fun r g p hh=>su r g p hh⟩;have:=aL.aw (rd:=rd) (φ:=dB φ d G fun p=>match p with|[]=>some ⟨some (w.heap.size,0),n.toNat⟩|_=>none) d G [] e.sz 0 n.toNat ⟨some (w.heap.size,0),n.toNat⟩ (some (cM w.heap.size 0)) (by simp[dB]) (.inr (by simp)) (by simp);exact this
  cases ha
 cases ha
end
end
section
open Go Go.RowKit
set_option linter.unusedVariables false
def dJ:List (List AV)->Nat
 | []=>2
 | e::es=>min (iJ e) (dJ es)
theorem Dd:∀es:List (List AV),dJ es<3
 | []=>by decide
 | e::es=>Nat.lt_of_le_of_lt (Nat.min_le_left _ _) (LR e)
def fN (sz:Nat):List (List AV)->Bool
 | []=>true
 | e::es=>match Nat.beq e.length sz with
  | true=>fN sz es
  | false=>false
def DO:List (List AV)->Bool
 | []=>true
 | e::es=>match e.all nN with
  | true=>DO es
  | false=>false
theorem aek (cs:List AV):iJ cs<=2:=by unfold iJ;split<;>(try split)<;>omega
theorem Hg:∀{es:List (List AV)},∀e∈es,iM (dJ es) e
 | [],e,h=>by simp at h
 | x::es,e,h=>by
  simp only[dJ];rcases List.mem_cons.1 h with rfl|h
  ·exact(iM.BH _).le (Nat.min_le_left _ _)
  exact(Hg e h).le (Nat.min_le_right _ _)
theorem aej {a b:List (List AV)}:dJ (a++b)=min (dJ a) (dJ b):=by
 induction a with
 | nil=>
  have:dJ b<=2:=by
   cases b with
   | nil=>exact Nat.le_refl _
   | cons x b=>exact Nat.le_trans (Nat.min_le_left _ _) (aek x)
  simp only[List.nil_append,dJ];omega
 | cons x a ih=>simp only[List.cons_append,dJ,ih,Nat.min_assoc]
theorem Oe {sz:Nat}:∀{es:List (List AV)},fN sz es=true->∀e∈es,e.length=sz
 | [],_,e,h=>by simp at h
 | x::es,hw,e,h=>by
  simp only[fN]at hw;split at hw
  ·rename_i hx;rcases List.mem_cons.1 h with rfl|h
   ·exact Nat.eq_of_beq_eq_true hx
   exact Oe hw e h
  cases hw
theorem Ww:∀{es:List (List AV)},DO es=true->∀e∈es,∀c∈e,nN c=true
 | [],_,e,h,_,_=>by simp at h
 | x::es,hw,e,h,c,hc=>by
  simp only[DO]at hw;split at hw
  ·rename_i hx;rcases List.mem_cons.1 h with rfl|h
   ·exact List.all_eq_true.1 hx c hc
   exact Ww hw e h c hc
  cases hw
theorem Yu {α:Type}{E:α->List AV}{l:List α}{off len:Nat}:sub off len (l.map E)=((l.drop off).take len).map E:=by
 unfold sub;rw[<-List.map_drop,<-List.map_take]
def cE (b:UInt8):List AV:=[.sc (.int .u8 b.toNat)]
def wR (P:Program) (σ:ak) (tx sz:Nat) (x:AV):Option (List (List AV) × Nat):=match tk P tx,x with
 | some .slice,.aG=>some ([],2)
 | some .slice,.ro s es=>match Nat.beq s sz,fN sz es with
  | true,true=>some (es,dJ es)
  | _,_=>none
 | some .slice,.aw r g p s off len=>(rowAt σ r g p).bind fun row=>match Nat.beq s sz,Nat.beq row.sz sz,(match Nat.ble 1 row.fl with|true=>true|false=>DO (sub off len row.es)) with
  | true,true,true=>od (off+len) row.es.length (some (sub off len row.es,min 2 row.fl))
  | _,_,_=>none
 | some .string,.sc (.string s)=>match Nat.beq sz 1 with
  | true=>some (s.data.toList.map cE,2)
  | false=>none
 | _,_=>none
section
variable {P:Program}{rd:RD}{φ:cj}{O:Nat->Prop}{w0 w:World}{σ:ak}{d G:Nat}
def th (w:World) (b q n:Nat):List Value:=(List.range n).map fun k=>(w.cell? (cM b (q+k))).getD undef
theorem Hw {b q n:Nat}:(th w b q n).length=n:=by simp[th]
theorem UN {b q n k:Nat}(hk:k<n) {v:Value}(hv:w.cell? (cM b (q+k))=some v):(th w b q n)[k]?=some v:=by
 simp only[th,List.getElem?_map,List.getElem?_range hk,Option.map_some,hv,Option.getD_some]
theorem Mp {b q n k:Nat}{v:Value}(h:(th w b q n)[k]?=some v):k<n/\v=(w.cell? (cM b (q+k))).getD undef:=by
 simp only[th,List.getElem?_map]at h;obtain⟨k',bV,rfl⟩:=cP h;rcases bp k n with hx|hx
 ·rw[List.getElem?_range hx]at bV;cases bV;exact⟨hx,rfl⟩
 rw[List.getElem?_eq_none (by simpa using hx)]at bV;cases bV
theorem adQ {es:List (List AV)}{sz:Nat}(hw:∀e∈es,e.length=sz) {k:Nat}(hk:k<es.length * sz):∃c,(es[k/sz]?).bind (·[k%sz]?)=some c:=by
 have dv:0<sz:=by
  rcases Nat.eq_zero_or_pos sz with h|h
  ·subst h;simp at hk
  exact h
 have hi:k/sz<es.length:=(Nat.div_lt_iff_lt_mul dv).2 hk;have hj:k%sz<(es[k/sz]).length:=by rw[hw _ (List.getElem_mem hi)];exact Nat.mod_lt _ dv
 exact⟨_,by rw[bm hi,Option.bind_some,bm hj]⟩
theorem OZ {tx e' sz:Nat}(hk:P.underlying tx=some (.slice e')) {es:List (List AV)}(hw:∀e∈es,e.length=sz) {b q cap:Nat}
  (hc:∀i j c,(es[i]?).bind (·[j]?)=some c->nN c=true/\∃v,w.cell? (cM b (q+i * sz+j))=some v/\aL rd φ c v):
  ∃news,Src P sz tx (.slice (some (cM b q)) es.length cap) es.length news w/\(∀i j c,(es[i]?).bind (·[j]?)=some c->∃v,news[i * sz+j]?=some v/\aL rd φ c v)/\
   ∀n,n<=es.length->(Builtin.firstCells sz n (.slice (some (cM b q)) es.length cap)).run P w=.ok (news.take (n * sz)).toArray w:=by
 have gE:∀k,k<es.length * sz->∃v,w.cell? (cM b (q+k))=some v/\v.oneCell'=true:=by
  intro k hk;obtain⟨c,h1⟩:=adQ hw hk;obtain⟨h2,v,h3,h4⟩:=hc _ _ _ h1;refine⟨v,?_,h4.one h2⟩;have e:k/sz * sz+k%sz=k:=by rw[Nat.mul_comm];exact Nat.div_add_mod k sz
  rwa[Nat.add_assoc,e]at h3
 have rD:∀j u,(th w b q (es.length * sz))[j]?=some u->w.cell? ((cM b q).add j)=some u:=by
  intro j u hu;obtain⟨h1,rfl⟩:=Mp hu;obtain⟨v,h2,_⟩:=gE j h1;rw[qn,h2];rfl
 refine⟨th w b q (es.length * sz),Src.ofSlice w hk _ _ _ _ Hw rD (fun u hu=>?_),fun i j c h=>?_,fun n hn=>run_firstCells_some w sz n _ _ _ _ ?_ fun j u hu=>?_⟩
 ·obtain⟨j,hj⟩:=List.getElem?_of_mem hu;obtain⟨h1,rfl⟩:=Mp hj;obtain⟨v,h2,h3⟩:=gE j h1;rw[h2];exact h3
 ·obtain⟨_,v,h2,h3⟩:=hc _ _ _ h;have ab:i * sz+j<es.length * sz:=by
   cases he:es[i]? with
   | none=>rw[he]at h;cases h
   | some e=>
    rw[he]at h;have hj:j<e.length:=by
     rcases bp j e.length with hx|hx
     ·exact hx
     rw[Option.bind_some,List.getElem?_eq_none hx]at h;cases h
    rw[hw e (dk he)]at hj;have hi:i<es.length:=by
     rcases bp i es.length with hx|hx
     ·exact hx
     rw[List.getElem?_eq_none hx]at he;cases he
    have:=Nat.mul_le_mul_right sz (show i+1<=es.length from hi);rw[Nat.succ_mul]at this;omega
  exact⟨v,UN ab (by rw[<-Nat.add_assoc];exact h2),h3⟩
 ·rw[List.length_take,Hw];exact Nat.min_eq_left (Nat.mul_le_mul_right _ hn)
 rw[List.getElem?_take]at hu;split at hu
 ·exact rD j u hu
 cases hu
theorem IX {tx e' sz:Nat}(hk:P.underlying tx=some (.slice e')) (A:Option Addr) (cap:Nat):Src P sz tx (.slice A 0 cap) 0 [] w:=by
 cases A with
 | none=>exact Src.ofNil w hk cap
 | some a=>exact Src.ofSlice w hk a 0 cap [] (by simp) (by simp) (by simp)
theorem yY {t:Nat}(h:tk P t=some .slice):∃e,P.underlying t=some (.slice e):=by
 obtain⟨i,hi,hk⟩:=j8 h;exact⟨_,qX hi hk⟩
theorem Ba {t:Nat}(h:tk P t=some .string):P.underlying t=some .string:=by
 obtain⟨i,hi,hk⟩:=j8 h;obtain⟨dm,h1,h2,_⟩:=nq hi;rw[hk]at h2;cases dm<;>simp[la]at h2;exact h1
theorem UP {c:AV}(h:kb c=true):nN c=true:=by cases c<;>first|rfl|cases h
theorem IY (h:bc rd φ O w0 σ w) {tx sz:Nat}{x:AV}{cx:Value}(hx:aL rd φ x cx) {s:List (List AV) × Nat}(hs:wR P σ tx sz x=some s):
  ∃news,Src P sz tx cx s.1.length news w/\(∀i j c,(s.1[i]?).bind (·[j]?)=some c->∃v,news[i * sz+j]?=some v/\aL rd φ c v)/\(∀e∈s.1,e.length=sz)/\(∀e∈s.1,iM s.2 e)/\s.2<3/\
   (tk P tx=some .slice->∀n,n<=s.1.length->(Builtin.firstCells sz n cx).run P w=.ok (news.take (n * sz)).toArray w):=by
 have LV:∀(A:Option Addr) (cap n:Nat),n<=0->(Builtin.firstCells sz n (.slice A 0 cap)).run P w=.ok (([]:List Value).take (n * sz)).toArray w:=by
  intro A cap n hn;have:n=0:=by omega
  subst this;cases A<;>simp[Builtin.firstCells,loadCells,loadCellsFrom]
 unfold wR at hs;split at hs
 ·rename_i hk;obtain⟨e',hk⟩:=yY hk;cases hs;cases hx;exact⟨[],IX hk _ _,by simp,by simp,by simp,by first|decide|exact Dd _|exact Nat.lt_of_le_of_lt (Nat.min_le_left _ _) (by decide),fun _=>LV _ _⟩
 ·rename_i s0 es hk;obtain⟨e',hk⟩:=yY hk;split at hs
  ·rename_i h1 h2;have h1:=Nat.eq_of_beq_eq_true h1;subst h1;cases hs;have hw:=Oe h2;cases hx with
   | iC _ A cap=>exact⟨[],IX hk _ _,by simp,by simp,by simp,by first|decide|exact Dd _|exact Nat.lt_of_le_of_lt (Nat.min_le_left _ _) (by decide),fun _=>LV _ _⟩
   | ro _ _ b q cap f hc xM hr hv=>
    obtain⟨news,k1,k2,k3⟩:=OZ (P:=P) (rd:=rd) (φ:=φ) (w:=w) hk hw (b:=b) (q:=q) (cap:=cap) (fun i j c aU=>⟨UP (xM _ _ _ aU),_,h.eA _ _ _ (hr _ _ _ aU),hv _ _ _ aU⟩);exact⟨news,k1,k2,hw,Hg,Dd _,fun _=>k3⟩
  cases hs
 ·rename_i r g p s0 off len hk;obtain⟨e',hk⟩:=yY hk;obtain⟨row,fF,pG⟩:=cG hs;clear hs;split at pG
  ·rename_i h1 h2 h3;have h1:=Nat.eq_of_beq_eq_true h1;have h2:=Nat.eq_of_beq_eq_true h2;subst h1;unfold od at pG;split at pG
   ·rename_i hle;have hle:=Nat.le_of_ble_eq_true hle;cases pG;obtain⟨pl,hp,aI⟩:=h.rows _ _ _ _ fF;have dY:(sub off len row.es).length=len:=by simp[sub];omega
    have oY:∀e∈sub off len row.es,e∈row.es:=fun e he=>List.mem_of_mem_drop (List.mem_of_mem_take he)
    have hw:∀e∈sub off len row.es,e.length=s0:=fun e he=>by rw[aI.wide e (oY e he),h2]
    cases hx with
    | aw _ _ _ _ _ _ cZ A hφ hA hl=>
     rw[hφ]at hp;cases hp;by_cases hz:len=0
     ·subst hz;have:sub off 0 row.es=[]:=by simp[sub]
      rw[this];exact⟨[],IX hk _ _,by simp,by simp,by simp,by first|decide|exact Dd _|exact Nat.lt_of_le_of_lt (Nat.min_le_left _ _) (by decide),fun _=>LV _ _⟩
     rcases hA with hA|hA
     ·omega
     cases aK:pl.ad with
     | none=>exact absurd (aI.nil aK) (by omega)
     | some bq=>
      obtain⟨b,q⟩:=bq;rw[aK]at hA;simp only[Option.map_some]at hA;subst hA;have:=OZ (P:=P) (rd:=rd) (φ:=φ) (w:=w) hk hw (b:=b) (q:=q+off * s0) (cap:=pl.cap - off) (fun i j c aU=>by
       refine⟨?_,?_⟩
       ·cases he:(sub off len row.es)[i]? with
        | none=>rw[he]at aU;cases aU
        | some e=>
         rw[he]at aU;have hc:=dk aU;have he:=dk he;split at h3
         ·rename_i hf;exact UP ((aI.kind e (oY e he)).1 (Nat.le_of_ble_eq_true hf) c hc)
         exact Ww h3 e he c hc
       have sY:(row.es[off+i]?).bind (·[j]?)=some c:=by
        simp only[sub,List.getElem?_take]at aU;split at aU
        ·rwa[List.getElem?_drop]at aU
        cases aU
       obtain⟨v,hv,fj⟩:=aI.cells b q aK _ _ _ sY;refine⟨v,?_,fj⟩;rw[<-hv];congr 2;rw[h2,Nat.add_mul];omega)
      rw[dY]at this;obtain⟨news,k1,k2,k3⟩:=this;exact⟨news,by simpa[dY]using k1,k2,hw,fun e he=>(aI.kind e (oY e he)).le (Nat.min_le_right _ _),Nat.lt_of_le_of_lt (Nat.min_le_left _ _) (by decide),fun _ n hn=>k3 n (by simpa[dY]using hn)⟩
   cases pG
  cases pG
 ·rename_i s0 hk;have hk:=Ba hk;split at hs
  ·rename_i h1;have h1:=Nat.eq_of_beq_eq_true h1;subst h1;cases hs;cases fH hx;refine⟨byteCells s0,?_,?_,?_,?_,by show(2:Nat)<3;decide,?_⟩
   ·have e:(s0.data.toList.map cE).length=s0.size:=by rw[List.length_map,Array.length_toList];rfl
    rw[e];exact Src.ofString (P:=P) w hk s0
   ·intro i j c hc;simp only[List.getElem?_map]at hc;cases hb:s0.data.toList[i]? with
    | none=>rw[hb]at hc;cases hc
    | some b=>
     rw[hb]at hc;cases j with
     | zero=>
      simp only[Option.map_some,Option.bind_some,cE,List.getElem?_cons_zero,Option.some.injEq]at hc;subst hc;exact⟨.int .u8 b.toNat,by simp only[byteCells,Nat.mul_one,Nat.add_zero,List.getElem?_map,hb];rfl,.sc _ rfl⟩
     | succ j=>simp[cE]at hc
   ·intro e he;obtain⟨b,_,rfl⟩:=List.mem_map.1 he;rfl
   ·intro e he;obtain⟨b,_,rfl⟩:=List.mem_map.1 he;exact iM.BH (cE b)
   intro mw;obtain⟨e',mw⟩:=yY mw;rw[hk]at mw;cases mw
  cases hs
 cases hs
end
def BF:Option AV->Option (Option Int)
 | none=>some none
 | some (.sc (.int _ z))=>some (some z)
 | some _=>none
def Dj (P:Program) (t sz:Nat):Bool:=match (ti P t).bind fun i=>ti P i.el with
 | some e=>Nat.beq sz e.sz
 | none=>false
def NC (P:Program) (t:Nat) (x:AV) (l h:Option Int):Option AV:=
 match tk P t,x with
 | some .string,.sc (.string s)=>oa (0<=l.getD 0/\l.getD 0<=h.getD s.size/\h.getD s.size<=s.size) (some (.sc (.string (s.extract (l.getD 0).toNat (h.getD s.size).toNat))))
 | some .slice,.aG=>((ti P t).bind fun i=>ti P i.el).bind fun _=>oa (l.getD 0=0/\h.getD 0=0) (some .aG)
 | some .slice,.ro sz es=>match Dj P t sz with
  | true=>oa (0<=l.getD 0/\l.getD 0<=h.getD es.length/\h.getD es.length<=es.length) (some (.ro sz (sub (l.getD 0).toNat ((h.getD es.length).toNat - (l.getD 0).toNat) es)))
  | false=>none
 | some .slice,.aw r g p sz off len=>match Dj P t sz with
  | true=>oa (0<=l.getD 0/\l.getD 0<=h.getD len/\h.getD len<=len) (some (.aw r g p sz (off+(l.getD 0).toNat) ((h.getD len).toNat - (l.getD 0).toNat)))
  | false=>none
 | _,_=>none
def AD (P:Program) (t:Nat) (x:AV) (lo hi mx:Option AV):Option AV:=
 match mx with
 | none=>(BF lo).bind fun l=>(BF hi).bind fun h=>NC P t x l h
 | some _=>none
def DY (P:Program) (t:Nat) (x ix:AV):Option AV:=
 match tk P t,x,ix with
 | some .string,.sc (.string s),.sc (.int _ z)=>oa (0<=z) ((s.data[z.toNat]?).map fun b=>.sc (.int .u8 b.toNat))
 | some .array,.agg cs,.sc (.int _ z)=>(ti P t).bind fun i=>(ti P i.el).bind fun e=>oa (0<=z/\z<i.n) (sJ e cs (z.toNat * e.sz))
 | _,_,_=>none
def yk (P:Program) (t f:Nat):Option Nat:=match P.underlying t with
 | some (.struct fs)=>(fs[f]?).map fun x=>x.type
 | _=>none
def D0 (P:Program) (t:Nat) (x:AV) (f:Nat):Option AV:=
 (yk P t f).bind fun ft=>(ti P t).bind fun i=>(i.Dc[f]?).bind fun o=>(ti P ft).bind fun e=>match x with
  | .agg cs=>sJ e cs o.1
  | _=>none
def AF (place:Nat->Option (Nat × Nat)):List AV->List (Nat × AV)->Option (List AV)
 | cs,[]=>some cs
 | cs,x::l=>(place x.1).bind fun o=>match (jC x.2).all nN,Nat.beq (jC x.2).length o.2,Nat.ble (o.1+o.2) cs.length with
  | true,true,true=>AF place (cs.take o.1++(jC x.2++cs.drop (o.1+o.2))) l
  | _,_,_=>none
def DN:List (Nat × Nat)->Bool
 | []=>true
 | x::l=>match Nat.beq x.2 0 with
  | true=>false
  | false=>DN l
def AI (P:Program) (t:Nat) (parts:List (Nat × AV)):Option AV:=
 (ti P t).bind fun i=>i.zero.bind fun z=>match i.k with
  | .struct=>match DN i.Dc with
   | true=>(AF (fun k=>i.Dc[k]?) z parts).map .agg
   | false=>none
  | .array=>(ti P i.el).bind fun e=>(AF (fun k=>some (k * e.sz,e.sz)) z parts).map .agg
  | _=>none
def DG (sz:Nat):List (List AV)->List (Nat × AV)->Option (List (List AV))
 | es,[]=>some es
 | es,x::l=>match (jC x.2).all nN,Nat.beq (jC x.2).length sz,Nat.blt x.1 es.length with
  | true,true,true=>DG sz (es.set x.1 (jC x.2)) l
  | _,_,_=>none
def D2 (P:Program) (t len:Nat) (parts:List (Nat × AV)):Option (Nat × List (List AV)):=
 (ti P t).bind fun i=>(ti P i.el).bind fun e=>e.zero.bind fun z=>match i.k,Nat.beq z.length e.sz,Nat.ble 1 e.sz,Nat.ble (len * e.sz) 16777216 with
  | .slice,true,true,true=>(DG e.sz (List.replicate len z) parts).map fun es=>(e.sz,es)
  | _,_,_,_=>none
def AH (P:Program) (t len:Nat) (parts:List (Nat × AV)):Option AV:=
 (D2 P t len parts).bind fun x=>match Nat.ble 1 (dJ x.2) with
  | true=>some (.ro x.1 x.2)
  | false=>none
def bytesOf:List (List AV)->Option (List UInt8)
 | []=>some []
 | [.sc (.int .u8 n)]::l=>(bytesOf l).map fun r=>UInt8.ofNat n.toNat::r
 | _=>none
def Ia (P:Program) (σ:ak) (s:Nat) (x:AV):Option AV:=
 (ti P s).bind fun i=>match tk P i.el with
  | some (.int .u8)=>(wR P σ s 1 x).bind fun es=>(bytesOf es.1).map fun l=>.sc (.string ⟨l.toArray⟩)
  | _=>none
def H8 (P:Program) (σ:ak) (s t:Nat) (x:AV):Option AV:=
 match tk P s,tk P t with
 | some .slice,some .string=>Ia P σ s x
 | _,_=>H9 P s t x
def H5 (a b:AV):Option AV:=match a,b with
 | .sc (.int k x),.sc (.int _ y)=>some (.sc (.int k (min x y)))
 | _,_=>none
def H6 (a b:AV):Option AV:=match a,b with
 | .sc (.int k x),.sc (.int _ y)=>some (.sc (.int k (max x y)))
 | _,_=>none
section
variable {P:Program}{rd:RD}{φ:cj}{O:Nat->Prop}{w0 w:World}{σ:ak}{d G:Nat}
theorem TZ {t sz:Nat}(h:Dj P t sz=true):∃i e,ti P t=some i/\ti P i.el=some e/\sz=e.sz:=by
 unfold Dj at h;split at h
 ·rename_i e he;obtain⟨i,hi,he⟩:=cG he;exact⟨i,e,hi,he,Nat.eq_of_beq_eq_true h⟩
 cases h
theorem QE {lo:Option AV}{qQ:Option Value}(h:∀a,lo=some a->∃c,qQ=some c/\aL rd φ a c) (hn:lo=none->qQ=none) {l:Option Int}(hl:BF lo=some l):
  (l=none/\qQ=none)\/∃k z,l=some z/\qQ=some (.int k z):=by
 unfold BF at hl;split at hl
 ·cases hl;exact .inl ⟨rfl,hn rfl⟩
 ·rename_i k z;cases hl;obtain⟨c,e,hr⟩:=h _ rfl;rw[fH hr]at e;exact .inr ⟨_,_,rfl,e⟩
 cases hl
theorem Bj (is:Bool) (len cap:Nat) (hlc:len<=cap) {qQ yy:Option Value}{l h:Option Int}(h1:(l=none/\qQ=none)\/∃k z,l=some z/\qQ=some (.int k z)) (h2:(h=none/\yy=none)\/∃k z,h=some z/\yy=some (.int k z))
  (hb:0<=l.getD 0/\l.getD 0<=h.getD len/\h.getD len<=len):(Instr.sliceBounds is len cap qQ yy none).run P w=.ok ((l.getD 0).toNat,(h.getD len).toNat,cap) w:=by
 rcases h1 with ⟨rfl,rfl⟩|⟨k1,z1,rfl,rfl⟩<;>rcases h2 with ⟨rfl,rfl⟩|⟨k2,z2,rfl,rfl⟩<;>simp only[Option.getD_none,Option.getD_some]at hb ⊢
 ·simp[Instr.sliceBounds]
 ·have e1:0<=z2/\z2<=(cap:Int):=by omega
  simp[Instr.sliceBounds,Instr.sliceBound,asIntOf,e1]
 ·have e1:0<=z1/\z1<=(len:Int):=by omega
  simp[Instr.sliceBounds,Instr.sliceBound,asIntOf,e1]
 have e1:0<=z2/\z2<=(cap:Int):=by omega
 have e2:0<=z1/\z1<=((z2.toNat:Nat):Int):=by omega
 simp only[Instr.sliceBounds,Instr.sliceBound,asIntOf,Sem.run_bind,Sem.run_pure,Result.andThen_ok,if_pos e1,if_pos e2,Option.isSome_none,Bool.false_eq_true,if_false]
theorem YR (hh:bc rd φ O w0 σ w) {t:Nat}{x v:AV}{lo hi mx:Option AV}{cx:Value}{qQ yy UE:Option Value}(hx:aL rd φ x cx)
  (h1:∀a,lo=some a->∃c,qQ=some c/\aL rd φ a c) (h1n:lo=none->qQ=none) (h2:∀a,hi=some a->∃c,yy=some c/\aL rd φ a c) (h2n:hi=none->yy=none) (h3:mx=none->UE=none)
  (ha:AD P t x lo hi mx=some v):kR rd φ O w0 σ v ((Instr.sliceAt t cx qQ yy UE).run P w):=by
 unfold AD at ha;split at ha
 ·have e3:=h3 rfl;subst e3;obtain⟨l,hl,cQ⟩:=cG ha;obtain⟨h,hhh,cN⟩:=cG cQ;have b1:=QE h1 h1n hl;have b2:=QE h2 h2n hhh;clear ha cQ;unfold NC at cN;split at cN
  ·rename_i s hk;have hk:=Ba hk;cases fH hx;obtain⟨hb,cN⟩:=qw cN;cases cN;have qF:=Bj (P:=P) (w:=w) false s.size s.size (Nat.le_refl _) b1 b2 hb;exact .same hh (cv:=.string _) (by simp[Instr.sliceAt,Instr.slice,run_underlying hk w,qF]) (.sc _ rfl)
  ·rename_i hk;obtain⟨e,he,cN⟩:=cG cN;obtain⟨i,hi,he⟩:=cG he;have hu:P.underlying t=some (.slice i.el):=by
    obtain⟨i',fS,bV⟩:=j8 hk;rw[hi]at fS;cases fS;exact qX hi bV
   obtain⟨hb,cN⟩:=qw cN;cases cN;cases hx;have qF:=Bj (P:=P) (w:=w) true 0 0 (Nat.le_refl _) b1 b2 (by rcases b1 with ⟨rfl,_⟩|⟨_,_,rfl,_⟩<;>rcases b2 with ⟨rfl,_⟩|⟨_,_,rfl,_⟩<;>simp at hb ⊢<;>omega);have e1:(l.getD 0).toNat=0:=by rw[hb.1];rfl
   have e2:(h.getD ((0:Nat):Int)).toNat=0:=by
    rw[show h.getD ((0:Nat):Int)=h.getD 0 from rfl,hb.2];rfl
   rw[e1,e2]at qF;refine .same hh (cv:=.slice none 0 0) ?_ .aG;simp only[Instr.sliceAt,Instr.slice,Sem.run_bind,run_underlying hu w,Result.andThen_ok,qF,qi he];rfl
  ·rename_i sz es hk;obtain⟨e0,mV⟩:=yY hk;split at cN
   ·rename_i sW;obtain⟨i,e,hi,he,rfl⟩:=TZ sW;have hu:P.underlying t=some (.slice i.el):=by
     obtain⟨i',fS,bV⟩:=j8 hk;rw[hi]at fS;cases fS;exact qX hi bV
    obtain⟨hb,cN⟩:=qw cN;cases cN;cases hx with
    | iC _ A cap=>
     have qF:=Bj (P:=P) (w:=w) true 0 cap (aR _) b1 b2 hb;have e0:(h.getD ((0:Nat):Int)).toNat - (l.getD 0).toNat=0:=by
      have:=hb.2.2;simp only[List.length_nil]at this hb;omega
     refine .same hh (cv:=.slice _ _ _) (by simp only[Instr.sliceAt,Instr.slice,Sem.run_bind,run_underlying hu w,Result.andThen_ok,qF,qi he];rfl) ?_;simp only[List.length_nil,sub,List.drop_nil,List.take_nil,e0];exact .iC _ _ _
    | ro _ _ b q cap f hc hs hr hv=>
     have qF:=Bj (P:=P) (w:=w) true es.length cap hc b1 b2 hb;refine .same hh (cv:=.slice _ _ _) (by simp only[Instr.sliceAt,Instr.slice,Sem.run_bind,run_underlying hu w,Result.andThen_ok,qF,qi he];rfl) ?_;by_cases hz:(h.getD (es.length:Int)).toNat - (l.getD 0).toNat=0
     ·rw[hz];have:sub (l.getD 0).toNat 0 es=[]:=by simp[sub]
      rw[this];exact .iC _ _ _
     have bJ:¬cap=(l.getD 0).toNat:=by omega
     rw[if_neg bJ];have jd:∀(a j:Nat) (c:AV),((sub (l.getD 0).toNat ((h.getD (es.length:Int)).toNat - (l.getD 0).toNat) es)[a]?).bind (·[j]?)=some c->(es[(l.getD 0).toNat+a]?).bind (·[j]?)=some c:=by
      intro a j c aU;simp only[sub,List.getElem?_take]at aU;split at aU
      ·rwa[List.getElem?_drop]at aU
      cases aU
     have hlen:(sub (l.getD 0).toNat ((h.getD (es.length:Int)).toNat - (l.getD 0).toNat) es).length=(h.getD (es.length:Int)).toNat - (l.getD 0).toNat:=by simp[sub];omega
     have:=aL.ro (rd:=rd) (φ:=φ) e.sz (sub (l.getD 0).toNat ((h.getD (es.length:Int)).toNat - (l.getD 0).toNat) es) b (q+(l.getD 0).toNat * e.sz) (cap - (l.getD 0).toNat) (fun a j=>f ((l.getD 0).toNat+a) j)
      (by rw[hlen];omega) (fun a j c aU=>hs _ _ _ (jd a j c aU))
      (fun a j c aU=>by
       have:=hr _ _ _ (jd a j c aU)
       rwa[show q+(l.getD 0).toNat * e.sz+a * e.sz+j=q+((l.getD 0).toNat+a) * e.sz+j by rw[Nat.add_mul];omega])
      (fun a j c aU=>hv _ _ _ (jd a j c aU))
     rw[hlen]at this;simp only[Option.map_some,qn];exact this
   cases cN
  ·rename_i r g p sz off len hk;obtain⟨e0,mV⟩:=yY hk;split at cN
   ·rename_i sW;obtain⟨i,e,hi,he,rfl⟩:=TZ sW;have hu:P.underlying t=some (.slice i.el):=by
     obtain⟨i',fS,bV⟩:=j8 hk;rw[hi]at fS;cases fS;exact qX hi bV
    obtain⟨hb,cN⟩:=qw cN;cases cN;cases hx with
    | aw _ _ _ _ _ _ pl A hφ hA hl=>
     have qF:=Bj (P:=P) (w:=w) true len (pl.cap - off) hl b1 b2 hb;refine .same hh (cv:=.slice _ _ _) (by simp only[Instr.sliceAt,Instr.slice,Sem.run_bind,run_underlying hu w,Result.andThen_ok,qF,qi he];rfl) ?_;have e1:pl.cap - off - (l.getD 0).toNat=pl.cap - (off+(l.getD 0).toNat):=by omega
     rw[e1];refine .aw r g p e.sz _ _ pl _ hφ ?_ (by omega);split
     ·left;omega
     rename_i bJ;rcases hA with hA|hA
     ·left;omega
     right;subst hA;cases pl.ad with
     | none=>rfl
     | some x=>
      simp only[Option.map_some,qn];congr 2;rw[Nat.add_mul];omega
   cases cN
  cases cN
 cases ha
theorem R5 {t:Nat}{i:TI}(hi:ti P t=some i) {cs:List AV}{arr:Array Value}(hp:PW rd φ cs arr.toList) {o:Nat}{v:AV}(hl:sJ i cs o=some v):∃cv,(part t arr o).run P w=.ok cv w/\aL rd φ v cv:=by
 obtain⟨inf,dm,h1,h2,h3,h4,h5,-⟩:=pq hi;have GS:(isAgg t).run P w=.ok i.ag w:=by
  unfold isAgg;rw[Sem.run_bind,run_underlying h2 w,h5];cases dm<;>simp[zD]
 unfold sJ at hl;split at hl
 ·rename_i mz;split at hl
  ·rename_i hle;cases hl;have hle:=Nat.le_of_ble_eq_true hle;refine⟨.agg (arr.extract o (o+i.sz)),?_,PW.agg ?_⟩
   ·unfold part;rw[Sem.run_bind,GS,Result.andThen_ok];simp[mz,qi hi]
   rw[Array.toList_extract];have:=(hp.drop o).take i.sz
   simpa[List.extract]using this
  cases hl
 rename_i mz;obtain⟨cv,h6,h7⟩:=hp.2 _ _ hl;have uq:arr[o]?=some cv:=by simpa using h6
 refine⟨cv,?_,h7⟩;unfold part;rw[Sem.run_bind,GS,Result.andThen_ok];simp[mz,uq]
theorem acP (hh:bc rd φ O w0 σ w) {t:Nat}{x y v:AV}{cx cy:Value}(hx:aL rd φ x cx) (hy:aL rd φ y cy) (ha:DY P t x y=some v):
  kR rd φ O w0 σ v ((Instr.index t cx cy).run P w):=by
 unfold DY at ha;split at ha
 ·rename_i s k z hk;have hk:=Ba hk;cases fH hx;cases fH hy;obtain⟨hz,ha⟩:=qw ha;obtain⟨b,hb,rfl⟩:=cP ha;have qG:s[z.toNat]?=some b:=by
   obtain⟨h1,h2⟩:=Array.getElem?_eq_some_iff.1 hb;have h3:z.toNat<s.size:=h1;rw[getElem?_pos s z.toNat h3];exact congrArg some h2
  exact .same hh (cv:=.int .u8 b.toNat) (by simp only[Instr.index,asIntOf,Sem.run_bind,Sem.run_pure,Result.andThen_ok,run_underlying hk w,if_pos hz,qG]) (.sc _ rfl)
 ·rename_i cs k z hk;obtain⟨i0,SL,mV⟩:=j8 hk;obtain⟨i,hi,cQ⟩:=cG ha;obtain⟨e,he,cN⟩:=cG cQ;rw[hi]at SL;cases SL;obtain⟨hz,gw⟩:=qw cN;obtain⟨arr,rfl,hp⟩:=PW.mM hx;cases fH hy;obtain⟨cv,h1,h2⟩:=R5 (P:=P) (w:=w) he hp gw;exact .same hh (by simp only[Instr.index,asIntOf,Sem.run_bind,Sem.run_pure,Result.andThen_ok,run_underlying (OK hi mV) w,if_pos hz,qi he,h1]) h2
 cases ha
theorem aem (hh:bc rd φ O w0 σ w) {t f:Nat}{x v:AV}{cx:Value}(hx:aL rd φ x cx) (ha:D0 P t x f=some v):
  kR rd φ O w0 σ v ((Instr.field t cx f).run P w):=by
 unfold D0 at ha;obtain⟨ft,lU,cQ⟩:=cG ha;obtain⟨i,hi,cN⟩:=cG cQ;obtain⟨o,ho,gw⟩:=cG cN;obtain⟨e,he,o5⟩:=cG gw;clear ha cQ cN gw;obtain⟨inf,dm,h1,h2,h3,h4,h5,h6,h7,-⟩:=pq hi;unfold yk at lU;rw[h2]at lU;cases dm with
 | struct fs=>
  simp only at lU h7;obtain⟨fl,fK,rfl⟩:=cP lU;rw[h7,List.getElem?_map]at ho;obtain⟨rN,La,rfl⟩:=cP ho;have:fs[f]?=some rN:=by simpa using La
  rw[this]at fK;cases fK;split at o5
  ·obtain⟨arr,rfl,hp⟩:=PW.mM hx;obtain⟨cv,k1,k2⟩:=R5 (P:=P) (w:=w) he hp o5;exact .same hh (by simp only[Instr.field,Sem.run_bind,run_underlying h2 w,Result.andThen_ok,this,asAgg,Sem.run_pure,k1]) k2
  cases o5
 | _=>simp at lU
end
section
variable {P:Program}{rd:RD}{φ:cj}{O:Nat->Prop}{w0 w:World}{σ:ak}{d G:Nat}
theorem LO (off:Nat):∀(vs:List Value) (k:Nat) (cells:Array Value),off+k+vs.length<=cells.size->
  ((vs.zipIdx k).foldl (fun cs (x:Value × Nat)=>cs.setIfInBounds (off+x.2) x.1) cells).toList=cells.toList.take (off+k)++(vs++cells.toList.drop (off+k+vs.length))
 | [],k,cells,h=>by simp
 | c::r,k,cells,h=>by
  simp only[List.zipIdx_cons,List.foldl_cons];rw[LO off r (k+1) _ (by simp only[Array.size_setIfInBounds];simp only[List.length_cons]at h;omega)];simp only[Array.toList_setIfInBounds,List.length_cons]at h ⊢;have e1:(cells.toList.set (off+k) c).take (off+(k+1))=cells.toList.take (off+k)++[c]:=by
   rw[<-Nat.add_assoc,List.take_add_one,List.take_set_of_le (Nat.le_refl _),List.getElem?_set_self (by simp;omega)];rfl
  have e2:(cells.toList.set (off+k) c).drop (off+(k+1)+r.length)=cells.toList.drop (off+k+(r.length+1)):=by
   rw[List.drop_set_of_lt (by omega)];congr 1;omega
  rw[e1,e2,List.append_assoc];rfl
theorem LX {place cplace:Nat->Option (Nat × Nat)}(hp:∀k o,place k=some o->cplace k=some o) {ev:Operand->AV}{ρ:Operand->Value}(cY:∀x,aL rd φ (ev x) (ρ x)):∀(ps:List (Nat × Operand)) {cs bH:List AV}{arr:Array Value},PW rd φ cs arr.toList->
  AF place cs (ps.map fun x=>(x.1,ev x.2))=some bH->∃r6,Instr.fill cplace arr (ps.map fun x=>(x.1,ρ x.2))=some r6/\PW rd φ bH r6.toList
 | [],cs,bH,arr,h,hf=>by cases hf;exact⟨arr,rfl,h⟩
 | x::ps,cs,bH,arr,h,hf=>by
  simp only[List.map_cons,AF]at hf;obtain⟨o,ho,jY⟩:=cG hf;clear hf;split at jY
  ·rename_i h1 h2 h3;have h2:=Nat.eq_of_beq_eq_true h2;have h3:=Nat.le_of_ble_eq_true h3;obtain⟨hc,h1c⟩:=Hx (cY x.2) h1;have hs:(ρ x.2).cells.size=o.2:=by rw[<-h2,hc.1];simp
   have hz:o.1+o.2<=arr.size:=by have:=h.1;simp at this;omega
   have K9:=LO o.1 (ρ x.2).cells.toList 0 arr (by simp;omega);have GG:Instr.fill cplace arr ((x.1,ρ x.2)::ps.map fun x=>(x.1,ρ x.2))=Instr.fill cplace ((ρ x.2).cells.zipIdx.foldl (fun cs (x:Value × Nat)=>cs.setIfInBounds (o.1+x.2) x.1) arr) (ps.map fun x=>(x.1,ρ x.2)):=by
    rw[Instr.fill,hp _ _ ho];have e:((ρ x.2).cells.size≠o.2||o.1+(ρ x.2).cells.size>arr.size)=false:=by simp[hs];omega
    simp only[e];rfl
   have e2:((ρ x.2).cells.zipIdx.foldl (fun cs (x:Value × Nat)=>cs.setIfInBounds (o.1+x.2) x.1) arr).toList=arr.toList.take o.1++((ρ x.2).cells.toList++arr.toList.drop (o.1+o.2)):=by
    rw[<-Array.foldl_toList,Array.toList_zipIdx,K9];simp[hs]
   simp only[List.map_cons];rw[GG];refine LX hp cY ps ?_ jY;rw[e2];exact(h.take _).append (hc.append (h.drop _))
  cases jY
theorem Wv:∀{l:List (Nat × Nat)},DN l=true->∀x∈l,x.2≠0
 | [],_,x,hx=>by simp at hx
 | y::l,h,x,hx=>by
  simp only[DN]at h;split at h
  ·cases h
  rename_i hb;rcases List.mem_cons.1 hx with rfl|hx
  ·intro e;rw[e]at hb;cases hb
  exact Wv h x hx
theorem aau {fs:List Field}(h:∀f∈fs,P.cellsOf f.type≠0):fs.mapM (fun f=>(P.info? f.type).map fun i=>(f.offset,i.size))=some (fs.map fun f=>(f.offset,P.cellsOf f.type)):=by
 induction fs with
 | nil=>rfl
 | cons f fs ih=>
  have hf:=h f (by simp);cases hi:P.info? f.type with
  | none=>simp[Program.cellsOf,hi]at hf
  | some i=>
   have hc:P.cellsOf f.type=i.size:=by simp[Program.cellsOf,hi]
   simp[List.mapM_cons,hi,hc,ih (fun f hf=>h f (by simp[hf]))]
theorem ahs (hh:bc rd φ O w0 σ w) {t:Nat}{v:AV}{ev:Operand->AV}{ρ:Operand->Value}(cY:∀x,aL rd φ (ev x) (ρ x)) {parts:Array (Nat × Operand)}
  (ha:AI P t (parts.toList.map fun x=>(x.1,ev x.2))=some v):kR rd φ O w0 σ v ((Instr.build t (parts.map fun(i,x)=>(i,ρ x))).run P w):=by
 unfold AI at ha;obtain⟨i,hi,cQ⟩:=cG ha;obtain⟨z,hz,cN⟩:=cG cQ;clear ha cQ;obtain⟨inf,dm,h1,h2,h3,h4,h5,h6,h7,h8,h9,zX⟩:=pq hi;rw[h6]at hz;obtain⟨zv,sM,rfl⟩:=cP hz;have e0:(parts.map fun(x:Nat × Operand)=>(x.1,ρ x.2)).toList=parts.toList.map fun x=>(x.1,ρ x.2):=by simp
 split at cN
 ·rename_i hk;rw[zX]at hk;cases dm with
  | struct fs=>
   split at cN
   ·rename_i jU;obtain⟨bH,hf,rfl⟩:=cP cN;rw[h7]at hf jU;have gU:=aau (P:=P) (fs:=fs.toList) (fun f hf=>Wv jU (f.offset,P.cellsOf f.type) (List.mem_map.2 ⟨f,hf,rfl⟩));obtain⟨r6,k1,k2⟩:=LX (rd:=rd) (φ:=φ) (cplace:=fun k=>(fs.toList.map fun f=>(f.offset,P.cellsOf f.type)).toArray[k]?) (fun k o h=>by simpa using h) cY parts.toList (PW.lA zv.cells.toList) hf;have hb:P.built t (parts.map fun(x:Nat × Operand)=>(x.1,ρ x.2)).toList=some r6:=by
     unfold Program.built;rw[h1,h2];simp only[sM,gU,e0];exact k1
    exact .same hh (run_build w t _ r6 hb) (PW.agg k2)
   cases cN
  | _=>simp[la]at hk
 ·rename_i hk;rw[zX]at hk;cases dm with
  | array n el=>
   obtain⟨e,he,gw⟩:=cG cN;obtain⟨bH,hf,rfl⟩:=cP gw;obtain⟨Sj,L7,k1,k2,k3,_⟩:=pq he;have uo:i.el=el:=h8;rw[uo]at k1;obtain⟨r6,m1,m2⟩:=LX (rd:=rd) (φ:=φ) (cplace:=fun k=>some (k * Sj.size,Sj.size)) (fun k o h=>by rw[<-h,k3]) cY parts.toList (PW.lA zv.cells.toList) hf;have hb:P.built t (parts.map fun(x:Nat × Operand)=>(x.1,ρ x.2)).toList=some r6:=by
    unfold Program.built;rw[h1,h2];simp only[sM,k1,e0];exact m1
   exact .same hh (run_build w t _ r6 hb) (PW.agg m2)
  | _=>simp[la]at hk
 cases cN
def Flat (rd:RD) (φ:cj) (sz:Nat) (es:List (List AV)) (arr:Array Value):Prop:=
 arr.size=es.length * sz/\(∀e∈es,e.length=sz)/\∀i j c,(es[i]?).bind (·[j]?)=some c->∃v,arr[i * sz+j]?=some v/\aL rd φ c v
theorem V9 {sz:Nat}{ev:Operand->AV}{ρ:Operand->Value}(cY:∀x,aL rd φ (ev x) (ρ x)):∀(ps:List (Nat × Operand)) {es iw:List (List AV)}{arr:Array Value},Flat rd φ sz es arr->
  DG sz es (ps.map fun x=>(x.1,ev x.2))=some iw->iw.length=es.length/\∃r6,Instr.fill (fun i=>some (i * sz,sz)) arr (ps.map fun x=>(x.1,ρ x.2))=some r6/\Flat rd φ sz iw r6
 | [],es,iw,arr,h,hf=>by cases hf;exact⟨rfl,arr,rfl,h⟩
 | x::ps,es,iw,arr,h,hf=>by
  simp only[List.map_cons,DG]at hf;split at hf
  ·rename_i h1 h2 h3;have h2:=Nat.eq_of_beq_eq_true h2;have h3:x.1<es.length:=Nat.le_of_ble_eq_true h3;obtain⟨hc,h1c⟩:=Hx (cY x.2) h1;have hs:(ρ x.2).cells.size=sz:=by rw[<-h2,hc.1];simp
   have hz:x.1 * sz+sz<=arr.size:=by
    rw[h.1];have:=Nat.mul_le_mul_right sz (show x.1+1<=es.length from h3)
    rwa[Nat.succ_mul]at this
   have K9:=LO (x.1 * sz) (ρ x.2).cells.toList 0 arr (by simp;omega);have GG:Instr.fill (fun i=>some (i * sz,sz)) arr ((x.1,ρ x.2)::ps.map fun x=>(x.1,ρ x.2))=Instr.fill (fun i=>some (i * sz,sz)) ((ρ x.2).cells.zipIdx.foldl (fun cs (y:Value × Nat)=>cs.setIfInBounds (x.1 * sz+y.2) y.1) arr) (ps.map fun x=>(x.1,ρ x.2)):=by
    rw[Instr.fill];have e:((ρ x.2).cells.size≠sz||x.1 * sz+(ρ x.2).cells.size>arr.size)=false:=by simp[hs];omega
    simp only[e];rfl
   have e2:((ρ x.2).cells.zipIdx.foldl (fun cs (y:Value × Nat)=>cs.setIfInBounds (x.1 * sz+y.2) y.1) arr).toList=arr.toList.take (x.1 * sz)++((ρ x.2).cells.toList++arr.toList.drop (x.1 * sz+sz)):=by
    rw[<-Array.foldl_toList,Array.toList_zipIdx,K9];simp[hs]
   generalize (ρ x.2).cells.zipIdx.foldl (fun cs (y:Value × Nat)=>cs.setIfInBounds (x.1 * sz+y.2) y.1) arr=HX at GG e2;have CI:Flat rd φ sz (es.set x.1 (jC (ev x.2))) HX:=by
    have KE:HX.size=arr.size:=by
     have:=congrArg List.length e2;simp only[Array.length_toList,List.length_append,List.length_take,List.length_drop]at this;omega
    refine⟨by rw[KE,h.1];simp,fun e he=>?_,fun i j c aU=>?_⟩
    ·rcases List.mem_or_eq_of_mem_set he with he|rfl
     ·exact h.2.1 e he
     exact h2
    have nI:∀k:Nat,HX[k]?=HX.toList[k]?:=fun k=>(Array.getElem?_toList ..).symm
    rw[nI,e2];by_cases hi:x.1=i
    ·subst hi;rw[List.getElem?_set_self h3,Option.bind_some]at aU;obtain⟨v,hv,hr⟩:=hc.2 j c aU;refine⟨v,?_,hr⟩;have hj:j<(ρ x.2).cells.toList.length:=by
      rcases bp j (ρ x.2).cells.toList.length with hx|hx
      ·exact hx
      rw[List.getElem?_eq_none hx]at hv;cases hv
     rw[List.getElem?_append_right (by simp;omega),List.getElem?_append_left (by simp at hj ⊢;omega)];rw[<-hv];congr 1;simp;omega
    rw[List.getElem?_set_ne hi]at aU;obtain⟨v,hv,hr⟩:=h.2.2 i j c aU;refine⟨v,?_,hr⟩;have hj:j<sz:=by
     cases he:es[i]? with
     | none=>rw[he]at aU;cases aU
     | some e=>
      rw[he]at aU;rw[<-h.2.1 e (dk he)];rcases bp j e.length with hx|hx
      ·exact hx
      rw[Option.bind_some,List.getElem?_eq_none hx]at aU;cases aU
    rcases Nat.lt_or_gt_of_ne hi with hx|hx
    ·have hm:=Nat.mul_le_mul_right sz (show x.1+1<=i from hx);rw[Nat.succ_mul]at hm;rw[List.getElem?_append_right (by simp;omega),List.getElem?_append_right (by simp;omega),List.getElem?_drop,<-hv];have:arr[i * sz+j]?=arr.toList[i * sz+j]?:=by simp
     rw[this];congr 1;simp;omega
    have hm:=Nat.mul_le_mul_right sz (show i+1<=x.1 from hx);rw[Nat.succ_mul]at hm;rw[List.getElem?_append_left (by simp;omega),List.getElem?_take,if_pos (by omega),<-hv];simp
   simp only[List.map_cons];rw[GG];obtain⟨l1,l2⟩:=V9 cY ps CI hf;exact⟨by simpa using l1,l2⟩
  cases hf
theorem V8 {t len:Nat}{ev:Operand->AV}{ρ:Operand->Value}(cY:∀x,aL rd φ (ev x) (ρ x)) {parts:Array (Nat × Operand)}{x:Nat × List (List AV)}
  (ha:D2 P t len (parts.toList.map fun x=>(x.1,ev x.2))=some x):∃(arr:Array Value) (T:TypeId),x.2.length=len/\Flat rd φ x.1 x.2 arr/\1<=x.1/\
   (Instr.buildSlice t len (parts.map fun(i,x)=>(i,ρ x))).run P w=.ok (.slice (some ⟨w.heap.size,0,none⟩) len len) (w.alloc (.cells arr T)):=by
 unfold D2 at ha;obtain⟨i,hi,cQ⟩:=cG ha;obtain⟨e,he,cN⟩:=cG cQ;obtain⟨z,hz,gw⟩:=cG cN;clear ha cQ cN;split at gw
 ·rename_i hk kJ ku ye;obtain⟨es,hf,rfl⟩:=cP gw;have kJ:=Nat.eq_of_beq_eq_true kJ;have ku:=Nat.le_of_ble_eq_true ku;have ye:=Nat.le_of_ble_eq_true ye;have hu:=qX hi hk;obtain⟨inf,dm,e1,e2,e3,e4,e5,e6,-⟩:=pq he;rw[e6]at hz;obtain⟨zv,sM,rfl⟩:=cP hz;have xE:zv.cells.size=e.sz:=by simpa using kJ
  have e0:(parts.map fun(x:Nat × Operand)=>(x.1,ρ x.2)).toList=parts.toList.map fun x=>(x.1,ρ x.2):=by simp
  have adq:Flat rd φ e.sz (List.replicate len (zv.cells.toList.map lA)) ((Array.range (len * e.sz)).map (zv.cells[·%zv.cells.size]!)):=by
   refine⟨by simp,fun x hx=>by rw[(List.mem_replicate.1 hx).2];simpa using xE,fun a b c hc=>?_⟩;rw[List.getElem?_replicate]at hc;split at hc
   ·rename_i ab;simp only[Option.bind_some]at hc;obtain⟨u,hu,hr⟩:=(PW.lA (rd:=rd) (φ:=φ) zv.cells.toList).2 b c hc;have hb:b<zv.cells.size:=by
     rcases bp b zv.cells.size with hx|hx
     ·exact hx
     rw[List.getElem?_eq_none (by simpa using hx)]at hu;cases hu
    refine⟨u,?_,hr⟩;have h1:a * e.sz+b<len * e.sz:=by
     have:=Nat.mul_le_mul_right e.sz (show a+1<=len from ab);rw[Nat.succ_mul]at this;omega
    have h2:(a * e.sz+b)%zv.cells.size=b:=by rw[xE,Nat.mul_comm,Nat.mul_add_mod];exact Nat.mod_eq_of_lt (by omega)
    have cU:zv.cells[b]?=some u:=by simpa using hu
    simp only[Array.getElem?_map,Array.getElem?_range,if_pos h1,Option.map_some,h2];rw[getElem!_pos zv.cells b hb];rw[Array.getElem?_eq_getElem hb]at cU;exact cU
   cases hc
  obtain⟨l1,arr,l2,l3⟩:=V9 cY parts.toList adq hf;refine⟨arr,i.el,by simpa using l1,l3,ku,?_⟩;have aiT:¬len * e.sz>2 ^ 24:=by omega
  by_cases t7:len * e.sz=0
  ·have:len=0:=by
    rcases Nat.mul_eq_zero.1 t7 with h|h
    ·exact h
    omega
   subst this;have zO:Array.range 0=#[]:=rfl;rw[Nat.zero_mul,zO]at l2;have B9:Instr.fill (fun i=>some (i * e.sz,e.sz)) #[] (parts.toList.map fun x=>(x.1,ρ x.2))=some arr:=by simpa using l2
   simp[Instr.buildSlice,run_underlying hu,qi he,newRow,zO,B9]
  have B9:Instr.fill (fun i=>some (i * e.sz,e.sz)) ((Array.range (len * e.sz)).map (zv.cells[·%zv.cells.size]!)) (parts.toList.map fun x=>(x.1,ρ x.2))=some arr:=l2;have aiS:¬16777216<len * e.sz:=by omega
  have hz1:¬(len=0\/e.sz=0):=fun hh=>t7 (Nat.mul_eq_zero.2 hh)
  have zF:(zeroValue i.el).run P w=.ok zv w:=by simp[zeroValue,typeInfo,e1,sM]
  simp only[Instr.buildSlice,Sem.run_bind,run_underlying hu,qi he,Result.andThen_ok];rw[if_neg (show ¬len * e.sz>2 ^ 24 by omega),if_neg t7];simp only[Sem.run_bind,zF,Result.andThen_ok,Sem.run_pure,e0,B9];simp[newRow]
 cases gw
theorem bc.abb (h:bc rd φ O w0 σ w) (arr:Array Value) (T:TypeId):∃rd',Ext O w0 rd rd'/\bc rd' φ O w0 σ (w.alloc (.cells arr T))/\(∀o,rd' w.heap.size o=arr[o]?):=by
 have ab:∀{r g p row pl b q},rowAt σ r g p=some row->φ r g p=some pl->pl.ad=some (b,q)->b<w.heap.size:=fun h1 h2 h3=>(h.own _ _ _ _ _ _ _ h1 h2 h3).2
 have gD:∀k,(w.alloc (.cells arr T)).cell? (cM w.heap.size k)=arr[k]?:=by
  intro k;show(match (w.heap.push _)[w.heap.size]? with|some (.cells c _ _)=>if (cM w.heap.size k).spot.isSome then none else c[k]?|_=>none)=_
  rw[Array.getElem?_push_size];rfl
 have eU:∀o,rd w.heap.size o=none:=fun o=>by
  cases hr:rd w.heap.size o with
  | none=>rfl
  | some v=>exact absurd (tj (w:=w) (b:=w.heap.size) (k:=o) (by rw[h.eA _ _ _ hr];rfl)) (Nat.lt_irrefl _)
 refine⟨fun b o=>if b=w.heap.size then arr[o]? else rd b o,⟨fun b o v e=>?_,fun b o hb S8=>?_⟩,⟨?_,h.sep,?_,?_,?_,?_,?_,h.os,h.tape,h.output⟩,fun o=>if_pos rfl⟩
 ·show(if b=w.heap.size then arr[o]? else rd b o)=some v
  split
  ·rename_i hb;subst hb;rw[eU]at e;cases e
  exact e
 ·refine if_neg ?_;have:=h.size;omega
 ·intro r g p row hr;obtain⟨pl,h1,h2⟩:=h.rows _ _ _ _ hr;refine⟨pl,h1,?_⟩;have hm:=h2.of_same (w':=w.alloc (.cells arr T)) (fun b q aK k=>⟨v7 (ab hr h1 aK),Hc (ab hr h1 aK)⟩) fun b q aK es ck e=>by rw[Below.heap_alloc _ _ _ (ab hr h1 aK)];exact e
  exact hm.mono (fun b o v e=>by
   show(if b=w.heap.size then arr[o]? else rd b o)=some v
   split
   ·rename_i hb;subst hb;rw[eU]at e;cases e
   exact e) (fun _ _ _ _ h=>h)
 ·intro b o v e;replace e:(if b=w.heap.size then arr[o]? else rd b o)=some v:=e;split at e
  ·rename_i hb;subst hb;rw[gD];exact e
  have:=h.eA b o v e;rw[v7 (tj (by rw[this];rfl))];exact this
 ·intro r g p row pl b q h1 h2 h3 k dI;refine(if_neg (by have:=ab h1 h2 h3;omega)).trans ?_;exact h.eF _ _ _ _ _ _ _ h1 h2 h3 k dI
 ·intro r g p row pl b q h1 h2 h3;rw[World.size_alloc];obtain⟨ha,hb⟩:=h.own _ _ _ _ _ _ _ h1 h2 h3;exact⟨ha,by omega⟩
 ·intro b hb hO;rw[Below.heap_alloc _ _ _ (Nat.lt_of_lt_of_le hb h.size)];exact h.frame b hb hO
 rw[World.size_alloc];exact Nat.le_succ_of_le h.size
end
section
variable {P:Program}{rd:RD}{φ:cj}{O:Nat->Prop}{w0 w:World}{σ:ak}{d G:Nat}
theorem aht (h:bc rd φ O w0 σ w) {t len:Nat}{v:AV}{ev:Operand->AV}{ρ:Operand->Value}(cY:∀x,aL rd φ (ev x) (ρ x)) {parts:Array (Nat × Operand)}
  (ha:AH P t len (parts.toList.map fun x=>(x.1,ev x.2))=some v):∃cv w' rd',(Instr.buildSlice t len (parts.map fun(i,x)=>(i,ρ x))).run P w=.ok cv w'/\Ext O w0 rd rd'/\bc rd' φ O w0 σ w'/\aL rd' φ v cv:=by
 unfold AH at ha;obtain⟨x,hx,cQ⟩:=cG ha;split at cQ
 ·rename_i fK;have fK:=Nat.le_of_ble_eq_true fK;cases cQ;obtain⟨arr,T,h1,h2,h3,h4⟩:=V8 (P:=P) (w:=w) cY hx;obtain⟨rd',k1,k2,k3⟩:=h.abb arr T;refine⟨_,_,rd',h4,k1,k2,?_⟩;have jd:∀i j c,(x.2[i]?).bind (·[j]?)=some c->kb c=true/\∃v,arr[i * x.1+j]?=some v/\aL rd φ c v:=by
   intro i j c hc;refine⟨?_,h2.2.2 i j c hc⟩;cases he:x.2[i]? with
   | none=>rw[he]at hc;cases hc
   | some e=>rw[he]at hc;exact(Hg e (dk he)).1 fK c (dk hc)
  have:=aL.ro (rd:=rd') (φ:=φ) x.1 x.2 w.heap.size 0 len (fun i j=>(arr[i * x.1+j]?).getD undef) (by omega) (fun i j c hc=>(jd i j c hc).1)
   (fun i j c hc=>by obtain⟨_,v,hv,_⟩:=jd i j c hc;rw[k3,Nat.zero_add,hv];rfl)
   (fun i j c hc=>by obtain⟨_,v,hv,hr⟩:=jd i j c hc;rw[hv];exact hr.mono k1.1 (fun _ _ _ _ h=>h))
  rw[h1]at this;exact this
 cases cQ
theorem VZ:∀{es:List (List AV)}{l:List UInt8}{news:List Value},bytesOf es=some l->news.length=es.length->(∀i j c,(es[i]?).bind (·[j]?)=some c->∃v,news[i * 1+j]?=some v/\aL rd φ c v)->
  ∃ns:List Int,news=ns.map (Value.int .u8)/\l=ns.map fun n=>UInt8.ofNat n.toNat
 | [],l,news,hb,hl,h=>by cases hb;exact⟨[],by simpa using List.eq_nil_of_length_eq_zero hl,rfl⟩
 | e::es,l,news,hb,hl,h=>by
  unfold bytesOf at hb;split at hb
  ·rename_i heq;cases heq
  ·rename_i n iw heq;cases heq;obtain⟨l',qG,rfl⟩:=cP hb;cases news with
   | nil=>simp at hl
   | cons v news=>
    obtain⟨u,hu,hr⟩:=h 0 0 _ rfl;simp only[Nat.zero_mul,Nat.add_zero,List.getElem?_cons_zero,Option.some.injEq]at hu;subst hu;have hv:=fH hr;obtain⟨ns,h1,h2⟩:=VZ (news:=news) qG (by simpa using hl) (fun i j c hc=>by
     have:=h (i+1) j c (by simpa using hc)
     rwa[show(i+1) * 1+j=(i * 1+j)+1 by omega,List.getElem?_cons_succ]at this)
    exact⟨n::ns,by rw[List.map_cons,hv,h1],by rw[List.map_cons,h2]⟩
  cases hb
theorem ahR (h:bc rd φ O w0 σ w) {s dst:Nat}(hd:tk P dst=some .string) {x v:AV}{cx:Value}(hs:tk P s=some .slice) (hx:aL rd φ x cx) (ha:Ia P σ s x=some v):kR rd φ O w0 σ v ((convert s dst cx).run P w):=by
 unfold Ia at ha;obtain⟨i,hi,cQ⟩:=cG ha;split at cQ
 ·rename_i sW;obtain⟨es,pQ,cN⟩:=cG cQ;obtain⟨l,hl,rfl⟩:=cP cN;have hu:P.underlying s=some (.slice i.el):=by
   obtain⟨i',fS,bV⟩:=j8 hs;rw[hi]at fS;cases fS;exact qX hi bV
  have he:P.underlying i.el=some (.int .u8):=by
   obtain⟨e,he,hk⟩:=j8 sW;obtain⟨dm,h1,h2,_⟩:=nq he;rw[hk]at h2;cases dm<;>simp[la]at h2;rw[h1,h2]
  have GK:=Ba hd;obtain⟨news,k1,k2,k3,k4,k6,k5⟩:=IY h hx pQ;obtain⟨ns,m1,m2⟩:=VZ hl (by rw[k1.newsLen,Nat.mul_one]) k2;have adp:∃A n cap,cx=.slice A n cap:=by
   unfold wR at pQ;split at pQ
   ·cases hx;exact⟨_,_,_,rfl⟩
   ·cases hx<;>exact⟨_,_,_,rfl⟩
   ·cases hx;exact⟨_,_,_,rfl⟩
   ·rename_i hk;rw[hs]at hk;cases hk
   cases pQ
  obtain⟨A,n,cap,rfl⟩:=adp;have hn:=k1.len w;simp only[Builtin.lenOf,Sem.run_pure,Result.ok.injEq,and_true]at hn;subst hn;cases A with
  | none=>
   have hc:=k1.cells;simp only[Builtin.firstCells,Sem.run_pure,Result.ok.injEq,and_true]at hc;have bJ:news=[]:=by simpa using hc.symm
   have hns:ns=[]:=by rw[m1]at bJ;simpa using bJ
   subst hns;refine .same h (cv:=.string ByteArray.empty) (run_convert_bytes_nil w s i.el hu he _ _ dst GK) ?_;rw[m2];exact .sc _ rfl
  | some a=>
   have hc:=k1.cells;simp only[Builtin.firstCells,Nat.mul_one]at hc;rw[m1]at hc;have:=run_bytesToString (P:=P) w a _ cap ns hc;refine .same h (cv:=.string _) (by rw[run_convert_bytes_string w s dst i.el _ _ cap hu he GK];exact this) ?_;rw[foldl_push_bytes,m2];have e:(⟨ByteArray.empty.data++(ns.map fun n=>UInt8.ofNat n.toNat).toArray⟩:ByteArray)=⟨(ns.map fun n=>UInt8.ofNat n.toNat).toArray⟩:=by
    congr 1;show #[]++_=_
    simp
   rw[e];exact .sc _ rfl
 cases cQ
end
end
section
open Go Go.RowKit
set_option linter.unusedVariables false
def kO (P:Program) (d G:Nat) (ev:Operand->AV) (σ:ak):Op->Option (AV × ak)
 | .move x=>some (ev x,σ)
 | .assign x=>some (ev x,σ)
 | .pick c a b=>(H3 (ev c) (ev a) (ev b)).map fun v=>(v,σ)
 | .alloc t=>D5 P d G σ t
 | .box t x=>D3 P d G σ t (ev x)
 | .load t a=>(yH P σ t (ev a)).map fun v=>(v,σ)
 | .store t a x=>(AB P σ t (ev a) (ev x)).map fun σ'=>(.dead,σ')
 | .fieldAddr t x f=>(DZ P t (ev x) f).map fun v=>(v,σ)
 | .extract x i=>(D1 (ev x) i).map fun v=>(v,σ)
 | .nilCheck x=>(H4 (ev x)).map fun v=>(v,σ)
 | .binOp op t x y _=>(D4 P op t (ev x) (ev y)).map fun v=>(v,σ)
 | .unOp op _ x=>(DS op (ev x)).map fun v=>(v,σ)
 | .convert s t x=>(H8 P σ s t (ev x)).map fun v=>(v,σ)
 | .slice t x lo hi mx=>(AD P t (ev x) (lo.map ev) (hi.map ev) (mx.map ev)).map fun v=>(v,σ)
 | .index t x y=>(DY P t (ev x) (ev y)).map fun v=>(v,σ)
 | .field t x f=>(D0 P t (ev x) f).map fun v=>(v,σ)
 | .build t parts=>(AI P t (parts.toList.map fun x=>(x.1,ev x.2))).map fun v=>(v,σ)
 | .buildSlice t len parts=>(AH P t len (parts.toList.map fun x=>(x.1,ev x.2))).map fun v=>(v,σ)
 | .indexAddr t x y=>(DX P σ t (ev x) (ev y)).map fun v=>(v,σ)
 | .makeSlice t l c=>DU P d G σ t (ev l) (ev c)
 | .call c=>match c.callee,c.args.toList,c.argTypes.toList with
  | .builtin .len,[x],[t]=>(DV P t (ev x)).map fun v=>(v,σ)
  | .builtin .min,[x,y],_=>(H5 (ev x) (ev y)).map fun v=>(v,σ)
  | .builtin .max,[x,y],_=>(H6 (ev x) (ev y)).map fun v=>(v,σ)
  | _,_,_=>none
 | _=>none
section
variable {P:Program}{rd:RD}{φ:cj}{O:Nat->Prop}{w0 w:World}{σ:ak}{d G:Nat}
def yD:Op->Bool
 | .alloc _|.box ..|.makeSlice ..=>true
 | _=>false
def yL (rd:RD) (φ:cj) (O:Nat->Prop) (w0:World) (d G:Nat) (b:Bool) (σ':ak) (v:AV) (r:Result Next):Prop:=
 ∃nx cv w' rd' φ',r=.ok nx w'/\(nx=.value cv\/(nx=.skip/\cv=undef))/\Ext O w0 rd rd'/\bc rd' φ' O w0 σ' w'/\aL rd' φ' v cv/\(∀r g p pl,φ r g p=some pl->φ' r g p=some pl)/\(∀r g p,φ' r g p≠none->φ r g p≠none\/(b=true/\r=d/\g=G))
theorem tD.next {σ':ak}{v:AV}{s:Sem Value}(h:tD rd φ O w0 d G σ' v (s.run P w)):yL rd φ O w0 d G true σ' v ((do pure (.value (<-s)):Sem Next).run P w):=by
 obtain⟨cv,w',φ',h1,h2,h3,h4,h5⟩:=h;exact⟨.value cv,cv,w',rd,φ',by rw[Sem.run_bind,h1];rfl,.inl rfl,.refl,h2,h3,h4,fun r g p hp=>(h5 r g p hp).imp id fun h=>⟨rfl,h⟩⟩
theorem kR.next {σ':ak}{v:AV}{b:Bool}{s:Sem Value}(h:kR rd φ O w0 σ' v (s.run P w)):yL rd φ O w0 d G b σ' v ((do pure (.value (<-s)):Sem Next).run P w):=by
 obtain⟨cv,w',h1,h2,h3⟩:=h;exact⟨.value cv,cv,w',rd,φ,by rw[Sem.run_bind,h1];rfl,.inl rfl,.refl,h2,h3,fun _ _ _ _ h=>h,fun _ _ _ h=>.inl h⟩
theorem ah7 (h:bc rd φ O w0 σ w) (dA:∀p,φ d G p=none) {ev:Operand->AV}{ρ:Operand->Value}(cY:∀x,aL rd φ (ev x) (ρ x)) {o:Oper}{v:AV}{σ':ak}
  (ha:kO P d G ev σ o.op=some (v,σ')):yL rd φ O w0 d G (yD o.op) σ' v ((execOp ρ o).run P w):=by
 have hN:∀{a b:AV × ak},some a=some b->a=b:=fun e=>Option.some.inj e
 unfold execOp;cases dE:o.op with
 | move x=>
  rw[dE]at ha;cases ha;exact⟨_,_,w,rd,φ,rfl,.inl rfl,.refl,h,cY x,fun _ _ _ _ h=>h,fun _ _ _ h=>.inl h⟩
 | assign x=>
  rw[dE]at ha;cases ha;exact⟨_,_,w,rd,φ,rfl,.inl rfl,.refl,h,cY x,fun _ _ _ _ h=>h,fun _ _ _ h=>.inl h⟩
 | pick c a b=>
  rw[dE]at ha;simp only[kO]at ha;obtain⟨u,hu,e⟩:=cP ha;cases e;unfold H3 at hu;have hc:=cY c;split at hu
  ·rename_i heq;rw[heq]at hc;cases hu;exact⟨_,_,w,rd,φ,by simp[fH hc,asBool],.inl rfl,.refl,h,cY a,fun _ _ _ _ h=>h,fun _ _ _ h=>.inl h⟩
  ·rename_i heq;rw[heq]at hc;cases hu;exact⟨_,_,w,rd,φ,by simp[fH hc,asBool],.inl rfl,.refl,h,cY b,fun _ _ _ _ h=>h,fun _ _ _ h=>.inl h⟩
  cases hu
 | alloc t=>
  rw[dE]at ha;exact(ahZ h dA ha _).next
 | box t x=>
  rw[dE]at ha;exact(ahv h dA (cY x) ha).next
 | load t a=>
  rw[dE]at ha;obtain⟨u,hu,e⟩:=cP ha;cases e;exact(ab1 h (cY a) hu).next
 | store t a x=>
  rw[dE]at ha;obtain⟨u,hu,e⟩:=cP ha;cases e;obtain⟨w',rd',h1,hx,h2⟩:=YC h (cY a) (cY x) hu;exact⟨.skip,undef,w',rd',φ,by simp only[Sem.run_bind,h1];rfl,.inr ⟨rfl,rfl⟩,hx,h2,.dead _,fun _ _ _ _ h=>h,fun _ _ _ h=>.inl h⟩
 | fieldAddr t x f=>
  rw[dE]at ha;obtain⟨u,hu,e⟩:=cP ha;cases e;exact(aen h (cY x) hu).next
 | extract x i=>
  rw[dE]at ha;obtain⟨u,hu,e⟩:=cP ha;cases e;exact(aeq h (cY x) hu).next
 | nilCheck x=>
  rw[dE]at ha;obtain⟨u,hu,e⟩:=cP ha;cases e;have hx:=cY x;unfold H4 at hu;split at hu
  ·rename_i heq;rw[heq]at hx;cases hu;cases hc:ρ x with
   | pointer A=>
    cases A with
    | none=>rw[hc]at hx;cases hx
    | some A=>rw[hc]at hx;exact⟨_,_,w,rd,φ,by simp only[hc];rfl,.inl rfl,.refl,h,hx,fun _ _ _ _ h=>h,fun _ _ _ h=>.inl h⟩
   | _=>rw[hc]at hx;cases hx
  ·rename_i heq;rw[heq]at hx;cases hu;cases hc:ρ x with
   | pointer A=>
    cases A with
    | none=>rw[hc]at hx;cases hx
    | some A=>rw[hc]at hx;exact⟨_,_,w,rd,φ,by simp only[hc];rfl,.inl rfl,.refl,h,hx,fun _ _ _ _ h=>h,fun _ _ _ h=>.inl h⟩
   | _=>rw[hc]at hx;cases hx
  cases hu
 | binOp op t x y yt=>
  rw[dE]at ha;obtain⟨u,hu,e⟩:=cP ha;cases e;exact(ahK h (cY x) (cY y) hu).next
 | unOp op t x=>
  rw[dE]at ha;obtain⟨u,hu,e⟩:=cP ha;cases e;exact(Yb h (cY x) hu).next
 | convert s t x=>
  rw[dE]at ha;obtain⟨u,hu,e⟩:=cP ha;cases e;unfold H8 at hu;split at hu
  ·rename_i h1 h2;exact(ahR h h2 h1 (cY x) hu).next
  exact(afp h (cY x) hu).next
 | slice t x lo hi mx=>
  rw[dE]at ha;obtain⟨u,hu,e⟩:=cP ha;cases e;have aux:∀(o:Option Operand) (a:AV),o.map ev=some a->∃c,o.map ρ=some c/\aL rd φ a c:=by
   intro o a h;cases o with
   | none=>cases h
   | some x=>cases h;exact⟨_,rfl,cY x⟩
  have Nn:∀(o:Option Operand),o.map ev=none->o.map ρ=none:=by
   intro o h;cases o with
   | none=>rfl
   | some x=>cases h
  exact(YR h (cY x) (aux lo) (Nn lo) (aux hi) (Nn hi) (Nn mx) hu).next
 | index t x y=>
  rw[dE]at ha;obtain⟨u,hu,e⟩:=cP ha;cases e;exact(acP h (cY x) (cY y) hu).next
 | field t x f=>
  rw[dE]at ha;obtain⟨u,hu,e⟩:=cP ha;cases e;exact(aem h (cY x) hu).next
 | build t parts=>
  rw[dE]at ha;obtain⟨u,hu,e⟩:=cP ha;cases e;exact(ahs h cY hu).next
 | buildSlice t len parts=>
  rw[dE]at ha;obtain⟨u,hu,e⟩:=cP ha;cases e;obtain⟨cv,w',rd',h1,h2,h3,h4⟩:=aht h cY hu;exact⟨.value cv,cv,w',rd',φ,by simp only[Sem.run_bind,h1,Result.andThen_ok,Sem.run_pure],.inl rfl,h2,h3,h4,fun _ _ _ _ h=>h,fun _ _ _ h=>.inl h⟩
 | indexAddr t x y=>
  rw[dE]at ha;obtain⟨u,hu,e⟩:=cP ha;cases e;exact(acQ h (cY x) (cY y) hu).next
 | makeSlice t l c=>
  rw[dE]at ha;exact(abz h dA (cY l) (cY c) ha).next
 | call c=>
  rw[dE]at ha;simp only[kO]at ha;split at ha
  ·rename_i x t kt fL oi;obtain⟨u,hu,e⟩:=cP ha;cases e;have h1:c.args=#[x]:=by rw[<-Array.toList_inj,fL]
   have h2:c.argTypes=#[t]:=by rw[<-Array.toList_inj,oi]
   have key:=(ab2 h (cY x) hu c.argTypes (by rw[h2];rfl) o.type (c.args.map ρ) (by rw[h1];simp)).next (d:=d) (G:=G) (b:=yD (.call c))
   simp only[resolve,kt];exact key
  ·rename_i x y kt fL;obtain⟨u,hu,e⟩:=cP ha;cases e;have h1:c.args=#[x,y]:=by rw[<-Array.toList_inj,fL]
   unfold H5 at hu;split at hu
   ·rename_i k a k' b CS qG;have e1:=cY x;have e2:=cY y;rw[CS]at e1;rw[qG]at e2;cases hu;have c1:=fH e1;have c2:=fH e2;refine⟨.value (.int k (min a b)),.int k (min a b),w,rd,φ,?_,.inl rfl,.refl,h,.sc _ rfl,fun _ _ _ _ h=>h,fun _ _ _ h=>.inl h⟩;have e3:(min a b:Int)=if b<a then b else a:=by omega
    simp[resolve,kt,h1,invoke,builtin,Builtin.min_,c1,c2,Builtin.min2,e3]
   cases hu
  ·rename_i x y kt fL;obtain⟨u,hu,e⟩:=cP ha;cases e;have h1:c.args=#[x,y]:=by rw[<-Array.toList_inj,fL]
   unfold H6 at hu;split at hu
   ·rename_i k a k' b CS qG;have e1:=cY x;have e2:=cY y;rw[CS]at e1;rw[qG]at e2;cases hu;have c1:=fH e1;have c2:=fH e2;refine⟨.value (.int k (max a b)),.int k (max a b),w,rd,φ,?_,.inl rfl,.refl,h,.sc _ rfl,fun _ _ _ _ h=>h,fun _ _ _ h=>.inl h⟩;have e3:(max a b:Int)=if b>a then b else a:=by omega
    simp[resolve,kt,h1,invoke,builtin,Builtin.max_,c1,c2,Builtin.max2,e3]
   cases hu
  cases ha
 | _=>rw[dE]at ha;cases ha
end
structure St where
 n:Nat
 tm:List (Nat × AV)
 σ:ak
 G:Nat
def ev (s:St):Operand->AV
 | .tmp t=>match bE s.tm t with
  | some v=>v
  | none=>.dead
 | .const v=>wu v
 | .func f=>.sc (.func (.func f) #[] #[])
 | .global _=>.dead
structure Rel (rd:RD) (φ:cj) (O:Nat->Prop) (w0:World) (s:St) (a:Act) (w:World):Prop where
 heap:bc rd φ O w0 s.σ w
 tm:∀t v,bE s.tm t=some v->aL rd φ v (a.tmps.getD t undef)
 size:a.tmps.size=s.n
 defers:a.defers=[]
 gen:∀r g p,φ r g p≠none->g<s.G
abbrev kQ:=RD × cj
def nj (O:Nat->Prop) (w0:World) (E:kQ) (rd:RD) (φ:cj):Prop:=Ext O w0 E.1 rd/\∀r p pl,E.2 r 0 p=some pl->1000000<=r->φ r 0 p=some pl
theorem nj.refl {O:Nat->Prop}{w0:World}{rd:RD}{φ:cj}:nj O w0 (rd,φ) rd φ:=⟨.refl,fun _ _ _ h _=>h⟩
theorem nj.step {O:Nat->Prop}{w0:World}{E:kQ}{rd rd':RD}{φ φ':cj}(h:nj O w0 E rd φ) (hx:Ext O w0 rd rd') (hφ:∀r g p pl,φ r g p=some pl->φ' r g p=some pl):nj O w0 E rd' φ':=
 ⟨h.1.trans hx,fun r p pl e hr=>hφ _ _ _ _ (h.2 r p pl e hr)⟩
def iz (E:kQ) (O:Nat->Prop) (w0:World) (s:St) (a:Act) (w:World):Prop:=∃rd' φ,nj O w0 E rd' φ/\Rel rd' φ O w0 s a w
def tr:Bool->Nat->Nat
 | true,G=>G+1
 | false,G=>G
def put (s:St) (dst:Option Nat) (v:AV) (σ:ak) (b:Bool) (K:St->Prop):Prop:=
 match dst with
 | none=>K ⟨s.n,s.tm,σ,tr b s.G⟩
 | some d=>match Nat.blt d s.n with
  | true=>K ⟨s.n,(d,v)::s.tm,σ,tr b s.G⟩
  | false=>False
section
variable {P:Program}{rd:RD}{φ:cj}{O:Nat->Prop}{w0 w:World}{s:St}{a:Act}
theorem Rel.ev (h:Rel rd φ O w0 s a w) (x:Operand):aL rd φ (ev s x) (a.eval x):=by
 cases x with
 | tmp t=>
  simp only[E.ev,Act.eval];cases hl:bE s.tm t with
  | none=>exact .dead _
  | some v=>exact h.tm t v hl
 | const v=>exact NA v
 | func f=>exact .sc _ rfl
 | global g=>exact .dead _
theorem GZ (a:Act) (d t:Nat) (v:Value) (hd:d<a.tmps.size):(a.put (some d) v).tmps.getD t undef=if t=d then v else a.tmps.getD t undef:=by
 simp only[Act.put,Array.getD_eq_getD_getElem?,Array.getElem?_setIfInBounds];by_cases h:t=d
 ·subst h;simp[hd]
 have h':¬d=t:=fun e=>h e.symm
 simp[h,h']
theorem Rel.put (h:Rel rd φ O w0 s a w) {dst:Option Nat}{v:AV}{σ:ak}{b:Bool}{K:St->Prop}(hk:E.put s dst v σ b K) {rd':RD}(hx:∀b o v,rd b o=some v->rd' b o=some v) {φ':cj}{w':World}{cv:Value}(hh:bc rd' φ' O w0 σ w')
  (hv:aL rd' φ' v cv) (h4:∀r g p pl,φ r g p=some pl->φ' r g p=some pl) (h5:∀r g p,φ' r g p≠none->φ r g p≠none\/(b=true/\r=dst.getD 0/\g=s.G)):
  ∃s',K s'/\Rel rd' φ' O w0 s' (a.put dst cv) w':=by
 have hg:∀r g p,φ' r g p≠none->g<tr b s.G:=fun r g p hp=>(h5 r g p hp).elim (fun h'=>by have:=h.gen r g p h';cases b<;>simp only[tr]<;>omega) (fun⟨hb,_,h'⟩=>by subst hb;simp only[tr];omega)
 unfold E.put at hk;cases dst with
 | none=>exact⟨_,hk,hh,fun t v hl=>(h.tm t v hl).mono hx h4,h.size,h.defers,hg⟩
 | some d=>
  simp only at hk;split at hk
  ·rename_i hd;have hd:d<s.n:=Nat.le_of_ble_eq_true hd;refine⟨_,hk,hh,fun t u hl=>?_,by simp[Act.put,h.size],h.defers,hg⟩;rw[GZ _ _ _ _ (by rw[h.size];exact hd)];simp only[gR]at hl;by_cases ht:d=t
   ·rw[if_pos ht]at hl;rw[if_pos ht.symm];cases hl;exact hv
   rw[if_neg ht]at hl;rw[if_neg (fun e=>ht e.symm)];exact(h.tm t u hl).mono hx h4
  exact hk.elim
end
def mQ:List (List Nat × Row)->d9
 | [],_=>none
 | (q,row)::l,p=>if p=q then some row else mQ l p
def l5:List (List Nat × Row)->ak
 | []=>[]
 | l=>[(0,(0,mQ l))]
def kg (ψ:List Nat->Option Pl):cj:=fun r g p=>match r,g with
 | 0,0=>ψ p
 | _,_=>none
def tB (P:Program) (n:Nat):Prop:=∃fn,P.funcs[n]?=some fn/\(fn.name== "runtime.NumGoroutine")=false/\fn.body.isNone=false
def ba (P:Program) (n:Nat) (args:List AV) (res:AV) (rf:List (List Nat × Row)):Prop:=
 tB P n/\∀(w:World) (rd:RD) (ew:Array Value),(∀b o v,rd b o=some v->w.cell? (cM b o)=some v)->PW rd (fun _ _ _=>none) args ew.toList->
  Calls P n ew w fun e w'=>∃v rd' ψ,e=.returned v/\Ext (fun _=>False) w rd rd'/\bc rd' (kg ψ) (fun _=>False) w (l5 rf) w'/\aL rd' (kg ψ) res v
def FB (d G:Nat):AV->AV
 | .aw _ _ p sz off len=>.aw d G p sz off len
 | .ptr _ _ p sz i o=>.ptr d G p sz i o
 | .mr _ _ p=>.mr d G p
 | .agg _|.aZ _=>.dead
 | v=>v
def FC (d G:Nat):AV->AV
 | .agg cs=>.agg (cs.map (FB d G))
 | v=>FB d G v
def nm (d G:Nat):AV->AV
 | .aZ vs=>.aZ (vs.map (FC d G))
 | v=>FC d G v
def Bs (rf:List (List Nat × Row)):Bool:=rf.all fun x=>Nat.ble 1 x.2.fl
def nP (σ:ak) (d G:Nat) (rf:List (List Nat × Row)):ak:=
 match rf with
 | []=>σ
 | rf=>bT σ d (G,mQ rf)
def Br (b:Bool) (X Y:Prop):Prop:=match b with
 | true=>X
 | false=>Y
theorem uG {X Y:Prop}:Br true X Y=X:=rfl
theorem uH {X Y:Prop}:Br false X Y=Y:=rfl
theorem aiy {b:Bool}{X Y:Prop}(h:b=true->X) (k:b=false->Y):Br b X Y:=by
 cases b with
 | true=>exact h rfl
 | false=>exact k rfl
def dj {α:Type} (x:Option α) (K:α->Prop):Prop:=match x with
 | some v=>K v
 | none=>False
theorem aaG {α:Type}{v:α}{K:α->Prop}:dj (some v) K=K v:=rfl
theorem gp {α:Type}{x:Option α}{K:α->Prop}(h:dj x K):∃v,x=some v/\K v:=by
 cases x with
 | none=>cases h
 | some v=>exact⟨v,rfl,h⟩
theorem l7 {α:Type}{x:Option α}{K:α->Prop}{v:α}(e:x=some v) (h:K v):dj x K:=by rw[e];exact h
def aq (P:Program) (n:Nat) (args:List AV) (K:AV->List (List Nat × Row)->Prop):Prop:=∃res rf,ba P n args res rf/\K res rf
theorem aq.intro {P:Program}{n:Nat}{args:List AV}{K:AV->List (List Nat × Row)->Prop}{res:AV}{rf:List (List Nat × Row)}(h:ba P n args res rf) (k:K res rf):aq P n args K:=⟨res,rf,h,k⟩
def r7 (s:St) (dst:Option Nat) (b:Bool) (K:St->Prop) (x:AV × ak):Prop:=put s dst x.1 x.2 b K
def Eb (s:St) (d:Option Nat) (K:St->Prop) (σ:ak) (res:AV) (rf:List (List Nat × Row)):Prop:=
 Bs rf=true/\put s d (nm (d.getD 0) s.G res) (nP σ (d.getD 0) s.G rf) true K
def aib (P:Program) (s:St) (d:Option Nat) (n:Nat) (K:St->Prop) (x:ak × List AV):Prop:=aq P n x.2 (Eb s d K x.1)
def Ov (P:Program) (s:St) (o:Oper) (n:Nat) (args:List AV) (K:St->Prop):Prop:=
 dj (o8 s.σ args) (aib P s o.dst n K)
def nr (ops:Array Oper) (j:Nat):Option Nat:=match ops[j]? with
 | some o=>o.dst
 | none=>none
section
variable {P:Program}{rd:RD}{φ:cj}{O:Nat->Prop}{w0 w:World}{s:St}{a:Act}
theorem QV {ψ:List Nat->Option Pl}{d G:Nat}{c:AV}{v:Value}(h:aL rd (kg ψ) c v):aL rd (dB φ d G ψ) (FB d G c) v:=by
 have h0:∀{r g:Nat} {p:List Nat} {pl:Pl},kg ψ r g p=some pl->dB φ d G ψ d G p=some pl:=by
  intro r g p pl hp;unfold kg at hp;split at hp
  ·simp[dB,hp]
  cases hp
 cases h with
 | aw r g p sz off len pl A hφ hA hl=>exact .aw d G p sz off len pl A (h0 hφ) hA hl
 | ptr r g p sz i o pl b q hφ aK=>exact .ptr d G p sz i o pl b q (h0 hφ) aK
 | dead v=>exact .dead v
 | sc v h=>exact .sc v h
 | aG=>exact .aG
 | iC sz A cap=>exact .iC sz A cap
 | ro sz es b q cap f hc hs hr hv=>exact(aL.ro sz es b q cap f hc hs hr hv).l9 rfl
 | rp cs b q f hs hr hv=>exact(aL.rp cs b q f hs hr hv).l9 rfl
 | agg=>exact .dead _
 | aZ=>exact .dead _
 | it r=>exact .it r
 | mr r g p pl b hφ aK=>exact .mr d G p pl b (h0 hφ) aK
theorem PW.map {φ':cj}{g:AV->AV}(hg:∀{c v},aL rd φ c v->aL rd φ' (g c) v) {cs:List AV}{vs:List Value}(h:PW rd φ cs vs):PW rd φ' (cs.map g) vs:=
 ⟨by simp[h.1],fun j c hc=>by
  rw[List.getElem?_map]at hc;obtain⟨c',sY,rfl⟩:=cP hc;obtain⟨v,hv,hr⟩:=h.2 j c' sY;exact⟨v,hv,hg hr⟩⟩
theorem QW {ψ:List Nat->Option Pl}{d G:Nat}{c:AV}{v:Value}(h:aL rd (kg ψ) c v):aL rd (dB φ d G ψ) (FC d G c) v:=by
 cases c with
 | agg cs=>
  obtain⟨arr,rfl,hp⟩:=PW.mM h;exact PW.agg (hp.map QV)
 | _=>exact QV h
theorem QU {ψ:List Nat->Option Pl}{d G:Nat}{c:AV}{v:Value}(h:aL rd (kg ψ) c v):aL rd (dB φ d G ψ) (nm d G c) v:=by
 cases c with
 | aZ cs=>
  obtain⟨arr,rfl,hp⟩:=PW.tS h;exact PW.aZ (hp.map QW)
 | _=>exact QW h
end
end
section
open Go Go.RowKit
set_option linter.unusedVariables false
section
variable {P:Program}{rd:RD}{φ:cj}{O:Nat->Prop}{w0 w:World}{s:St}{a:Act}
theorem Kg {l:List (List Nat × Row)}{p:List Nat}{row:Row}(h:mQ l p=some row):∃q,(q,row)∈l:=by
 induction l with
 | nil=>cases h
 | cons x l ih=>
  obtain⟨q,r⟩:=x;simp only[mQ]at h;split at h
  ·cases h;exact⟨q,by simp⟩
  obtain⟨q',hq⟩:=ih h;exact⟨q',by simp[hq]⟩
theorem bc.join {rd':RD}{σ:ak}{w':World}{d G:Nat}{ψ:List Nat->Option Pl}{rf:List (List Nat × Row)}(h:bc rd φ O w0 σ w) (dA:∀p,φ d G p=none)
  (hx:Ext (fun _=>False) w rd rd') (k:bc rd' (kg ψ) (fun _=>False) w (l5 rf) w')
  (fF:∀p row,mQ rf p=some row->1<=row.fl):
  bc rd' (dB φ d G ψ) O w0 (nP σ d G rf) w'/\(∀r g p pl,φ r g p=some pl->dB φ d G ψ r g p=some pl):=by
 have fT:∀r g p pl,φ r g p=some pl->dB φ d G ψ r g p=some pl:=by
  intro r g p pl hp;unfold dB;rw[if_neg (by rintro⟨rfl,rfl⟩;rw[dA]at hp;cases hp)];exact hp
 have hold:∀b,b<w.heap.size->w'.heap[b]?=w.heap[b]?:=fun b hb=>k.frame b hb (fun h=>h)
 have jd:∀b q,b<w.heap.size->w'.cell? (cM b q)=w.cell? (cM b q):=fun b q hb=>World.cell?_of_block (hold b hb)
 have ado:∀b q,b<w.heap.size->w'.frozen? (cM b q)=w.frozen? (cM b q):=fun b q hb=>World.frozen?_of_block (hold b hb)
 have cB:∀p row,mQ rf p=some row->rowAt (l5 rf) 0 0 p=some row:=by
  intro p row hp;cases rf with
  | nil=>cases hp
  | cons x l=>simp[rowAt,l5,bE,hp]
 have cA:∀{r g p row},rowAt (nP σ d G rf) r g p=some row->(d=r/\G=g/\mQ rf p=some row)\/(rowAt σ r g p=some row/\(rf=[]\/r≠d)):=by
  intro r g p row hr;cases rf with
  | nil=>exact .inr ⟨hr,.inl rfl⟩
  | cons x l=>
   simp only[nP,jM]at hr;by_cases hd:r=d
   ·rw[if_pos hd]at hr;by_cases hg:G=g
    ·rw[if_pos hg]at hr;exact .inl ⟨hd.symm,hg,hr⟩
    rw[if_neg hg]at hr;cases hr
   rw[if_neg hd]at hr;exact .inr ⟨hr,.inr hd⟩
 have lQ:∀p,dB φ d G ψ d G p=ψ p:=fun p=>by simp[dB]
 have zP:∀{r g p row},rowAt σ r g p=some row->dB φ d G ψ r g p=φ r g p:=by
  intro r g p row hr;obtain⟨pl,hp,_⟩:=h.rows _ _ _ _ hr;rw[fT _ _ _ _ hp,hp]
 have ab:∀{r g p row pl b q},rowAt σ r g p=some row->φ r g p=some pl->pl.ad=some (b,q)->b<w.heap.size:=fun h1 h2 h3=>(h.own _ _ _ _ _ _ _ h1 h2 h3).2
 have gD:∀{p row pl b q},mQ rf p=some row->ψ p=some pl->pl.ad=some (b,q)->w.heap.size<=b/\b<w'.heap.size:=by
  intro p row pl b q h1 h2 h3;obtain⟨h4,h5⟩:=k.own 0 0 p row pl b q (cB _ _ h1) (by simpa[kg]using h2) h3;exact⟨h4.elim (fun h=>h.elim) id,h5⟩
 refine⟨⟨?_,?_,?_,?_,?_,?_,?_,k.os.trans h.os,k.tape.trans h.tape,k.output.trans h.output⟩,fT⟩
 ·intro r g p row hr;rcases cA hr with ⟨rfl,rfl,hp⟩|⟨jJ,_⟩
  ·obtain⟨pl,h1,h2⟩:=k.rows _ _ _ _ (cB _ _ hp);refine⟨pl,by rw[lQ];simpa[kg]using h1,h2.wide,h2.len,h2.kind,h2.nil,h2.room,fun b q aK i j c hc=>?_,h2.iI,h2.mp⟩;obtain⟨v,hv,fj⟩:=h2.cells b q aK i j c hc;refine⟨v,hv,?_⟩;have jY:=fF p row hp;have hm:∃e∈row.es,c∈e:=by
    cases he:row.es[i]? with
    | none=>rw[he]at hc;cases hc
    | some e=>rw[he]at hc;exact⟨e,dk he,dk hc⟩
   obtain⟨e,he,Lr⟩:=hm;have hs:=(h2.kind e he).1 jY c Lr;have xM:sf c=true:=by cases c<;>first|rfl|cases hs
   exact fj.l9 xM
  obtain⟨pl,h1,h2⟩:=h.rows _ _ _ _ jJ;refine⟨pl,fT _ _ _ _ h1,(h2.of_same (fun b q aK k=>⟨jd b k (ab jJ h1 aK),ado b k (ab jJ h1 aK)⟩) fun b q aK es ck e=>by rw[k.frame b (ab jJ h1 aK) (fun h=>h)];exact e).mono hx.1 fT⟩
 ·intro r g p row r' g' p' cC pl cZ b q q' h1 h2 h3 h4 h5 h6;rcases cA h1 with ⟨e3,e4,k1⟩|⟨k1,hd⟩<;>rcases cA h2 with ⟨e1,e2,k2⟩|⟨k2,qD⟩
  ·subst e1;subst e2;subst e3;rw[<-e4,lQ]at h3;rw[lQ]at h4;exact⟨rfl,(k.sep 0 0 p row 0 0 p' cC pl cZ b q q' (cB _ _ k1) (cB _ _ k2) (by simpa[kg]using h3) (by simpa[kg]using h4) h5 h6).2⟩
  ·subst e3;subst e4;rw[lQ]at h3;rw[zP k2]at h4;have:=(gD k1 h3 h5).1;have:=ab k2 h4 h6;omega
  ·subst e1;subst e2;rw[lQ]at h4;rw[zP k1]at h3;have:=(gD k2 h4 h6).1;have:=ab k1 h3 h5;omega
  rw[zP k1]at h3;rw[zP k2]at h4;exact h.sep _ _ _ _ _ _ _ _ _ _ _ _ _ k1 k2 h3 h4 h5 h6
 ·exact k.eA
 ·intro r g p row pl b q h1 h2 h3 i dI;rcases cA h1 with ⟨rfl,rfl,k1⟩|⟨k1,hd⟩
  ·rw[lQ]at h2;exact k.eF 0 0 p row pl b q (cB _ _ k1) (by simpa[kg]using h2) h3 i dI
  rw[zP k1]at h2;rw[hx.2 b i (ab k1 h2 h3) (fun h=>h)];exact h.eF _ _ _ _ _ _ _ k1 h2 h3 i dI
 ·intro r g p row pl b q h1 h2 h3;rcases cA h1 with ⟨rfl,rfl,k1⟩|⟨k1,hd⟩
  ·rw[lQ]at h2;obtain⟨ha,hb⟩:=gD k1 h2 h3;exact⟨.inr (Nat.le_trans h.size ha),hb⟩
  rw[zP k1]at h2;obtain⟨ha,hb⟩:=h.own _ _ _ _ _ _ _ k1 h2 h3;exact⟨ha,Nat.lt_of_lt_of_le hb k.size⟩
 ·intro b hb hO;rw[hold b (Nat.lt_of_lt_of_le hb h.size)];exact h.frame b hb hO
 exact Nat.le_trans h.size k.size
theorem XS {lF:kQ}(iq:nj O w0 lF rd φ) {o:Oper}{n:Nat}{args:List AV}{K:St->Prop}(h:Rel rd φ O w0 s a w) {ew:Array Value}(fL:PW rd φ args ew.toList) (hv:Ov P s o n args K):
  tB P n/\Calls P n ew w fun e w'=>∃v s',e=.returned v/\K s'/\iz lF O w0 s' (a.put o.dst v) w':=by
 unfold Ov at hv;obtain⟨⟨σ1,qT⟩,hl,hv⟩:=gp hv;obtain⟨res,rf,⟨ov,hc⟩,aI,hk⟩:=hv;refine⟨ov,?_⟩;obtain⟨eh,x1,h1,l1⟩:=Hb h.heap fL hl;have dA:∀p,φ (o.dst.getD 0) s.G p=none:=fun p=>by
  cases hp:φ (o.dst.getD 0) s.G p with
  | none=>rfl
  | some x=>exact absurd (h.gen _ s.G p (by rw[hp];simp)) (Nat.lt_irrefl _)
 refine(hc w eh ew h1.eA (l1 _)).mono ?_;rintro e w' ⟨v,rd',ψ,rfl,x2,h2,h4⟩;obtain⟨j1,j2⟩:=h1.join dA x2 h2 (fun p row hp=>by
  obtain⟨q,hq⟩:=Kg hp;exact Nat.le_of_ble_eq_true (List.all_eq_true.1 aI _ hq))
 have hr:=QU (φ:=φ) (d:=o.dst.getD 0) (G:=s.G) h4;have x3:Ext O w0 eh rd':=⟨x2.1,fun b k hb hO=>x2.2 b k (Nat.lt_of_lt_of_le hb h1.size) (fun h=>h)⟩;obtain⟨s',hs,fj⟩:=h.put hk (x1.trans x3).1 j1 hr j2 (fun r g p hp=>(su r g p hp).imp id fun h=>⟨rfl,h⟩);exact⟨v,s',rfl,hs,rd',_,iq.step (x1.trans x3) j2,fj⟩
abbrev j6 (rd:kQ) (O:Nat->Prop) (w0:World) (Q:Exit->St->Prop):Exit->Act->World->Prop:=fun e a w=>∃s,Q e s/\iz rd O w0 s a w
theorem Rel.known (h:Rel rd φ O w0 s a w) {t:Nat}{b:Bool}(hl:bE s.tm t=some (.sc (.bool b))):
  a.tmps[t]?=some (.bool b)/\Rel rd φ O w0 ⟨s.n,(t,.sc (.bool b))::s.tm,s.σ,s.G⟩ a w:=by
 have hv:=fH (h.tm t _ hl);have ab:t<a.tmps.size:=by
  rcases bp t a.tmps.size with hx|hx
  ·exact hx
  simp[Array.getElem?_eq_none hx,undef]at hv
 refine⟨?_,h.heap,fun t' v mq=>?_,h.size,h.defers,h.gen⟩
 ·have:a.tmps.getD t undef=a.tmps[t]:=by simp[ab]
  rw[this]at hv;rw[Array.getElem?_eq_getElem ab,hv]
 simp only[gR]at mq;split at mq
 ·rename_i e;subst e;cases mq;exact h.tm _ _ hl
 exact h.tm _ _ mq
end
end
end Go.Proofs.YtobpfkgabdeefaaGreat.E
