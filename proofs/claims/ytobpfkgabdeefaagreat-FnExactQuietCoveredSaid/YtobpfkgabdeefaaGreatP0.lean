/- An evaluator of the model's code, proved sound (E1): A B C S D M Y F G. -/
import Derived.WalkKit
import Derived.Orders
import Derived.Deep.MidRow
import Derived.ChangeKeysEq
import Derived.Laws.StructEq
import Derived.DeepKeys
import Derived.Laws.MakeOwn
import Derived.Laws.Entries
import Derived.Deep.AppendSrc
import Derived.Laws.BytesArg
import Derived.Laws.Tables
namespace Go.Proofs.YtobpfkgabdeefaaGreat.E
section
open Go Go.RowKit
theorem bz {α:Type}{l:List α}{i:Nat}(h:i<l.length):l[i]?=some l[i]:=List.getElem?_eq_getElem h
theorem cw {α β:Type}{f:α→Option β}{o:Option α}{b:β}:o.bind f=some b→∃a,o=some a∧f a=some b:=Option.bind_eq_some_iff.1
theorem cJ {α β:Type}{f:α→β}{o:Option α}{b:β}:o.map f=some b→∃a,o=some a∧f a=b:=Option.map_eq_some_iff.1
theorem bm (a b:Nat):a<b∨a≥b:=Nat.lt_or_ge a b
theorem dh {α:Type}{l:List α}{i:Nat}{a:α}:l[i]?=some a→a∈l:=List.mem_of_getElem?
theorem aQ (n:Nat):0≤n:=Nat.zero_le n
set_option linter.unusedVariables false
inductive AV where
 | dead
 | sc (v:Value)
 | aG
 | au (r g:Nat) (p:List Nat) (sz off len:Nat)
 | ptr (r g:Nat) (p:List Nat) (sz i o:Nat)
 | ro (sz:Nat) (es:List (List AV))
 | rp (cs:List AV)
 | agg (cs:List AV)
 | ba (vs:List AV)
 | it (r:Nat)
 | mr (r g:Nat) (p:List Nat)
 deriving Inhabited
structure Pl where
 ad:Option (Nat × Nat)
 cap:Nat
abbrev b9:=Nat→Nat→List Nat→Option Pl
abbrev RD:=Nat→Nat→Option Value
abbrev cI (b o:Nat):Addr:=⟨b,o,none⟩
theorem p7 (b o n:Nat):(cI b o).add n=cI b (o+n):=by
 unfold Addr.add;split<;>simp_all
def isUnit:Value→Bool
 | .agg a=>a.isEmpty
 | _=>false
def tu:Value→Bool
 | .bool _|.int ..|.string _|.nilIface|.nilFunc|.pointer none=>true
 | .func (.func _) first captured=>first.toList.all isUnit&&captured.isEmpty
 | _=>false
theorem YV {v:Value}(h:tu v=true):v.oneCell'=true:=by
 cases v<;>simp_all[tu,Value.oneCell']
def gE:AV→Bool
 | .sc _|.aG|.ro _ _=>true
 | _=>false
inductive aL (rd:RD) (φ:b9):AV→Value→Prop
 | dead (v:Value):aL rd φ .dead v
 | sc (v:Value) (h:tu v=true):aL rd φ (.sc v) v
 | aG:aL rd φ .aG (.slice none 0 0)
 | au (r g:Nat) (p:List Nat) (sz off len:Nat) (pl:Pl) (A:Option Addr) (hφ:φ r g p=some pl)
   (hA:pl.cap - off=0∨A=pl.ad.map fun x=>cI x.1 (x.2+off * sz)) (hl:len≤pl.cap - off):
   aL rd φ (.au r g p sz off len) (.slice A len (pl.cap - off))
 | ptr (r g:Nat) (p:List Nat) (sz i o:Nat) (pl:Pl) (b q:Nat) (hφ:φ r g p=some pl) (aK:pl.ad=some (b,q)):
   aL rd φ (.ptr r g p sz i o) (.pointer (some (cI b (q+i * sz+o))))
 | ir (sz:Nat) (A:Option Addr) (cap:Nat):aL rd φ (.ro sz []) (.slice A 0 cap)
 | ro (sz:Nat) (es:List (List AV)) (b q cap:Nat) (f:Nat→Nat→Value) (hc:es.length≤cap)
   (hs:∀(i j:Nat) (c:AV),(es[i]?).bind (·[j]?)=some c→gE c=true)
   (hr:∀(i j:Nat) (c:AV),(es[i]?).bind (·[j]?)=some c→rd b (q+i * sz+j)=some (f i j))
   (hv:∀(i j:Nat) (c:AV),(es[i]?).bind (·[j]?)=some c→aL rd φ c (f i j)):
   aL rd φ (.ro sz es) (.slice (some (cI b q)) es.length cap)
 | rp (cs:List AV) (b q:Nat) (f:Nat→Value) (hs:∀(j:Nat) (c:AV),cs[j]?=some c→gE c=true)
   (hr:∀(j:Nat) (c:AV),cs[j]?=some c→rd b (q+j)=some (f j))
   (hv:∀(j:Nat) (c:AV),cs[j]?=some c→aL rd φ c (f j)):
   aL rd φ (.rp cs) (.pointer (some (cI b q)))
 | agg (cs:List AV) (arr:Array Value) (f:Nat→Value) (hs:arr.size=cs.length)
   (hg:∀(j:Nat) (c:AV),cs[j]?=some c→arr[j]?=some (f j))
   (hv:∀(j:Nat) (c:AV),cs[j]?=some c→aL rd φ c (f j)):
   aL rd φ (.agg cs) (.agg arr)
 | ba (vs:List AV) (arr:Array Value) (f:Nat→Value) (hs:arr.size=vs.length)
   (hg:∀(j:Nat) (c:AV),vs[j]?=some c→arr[j]?=some (f j))
   (hv:∀(j:Nat) (c:AV),vs[j]?=some c→aL rd φ c (f j)):
   aL rd φ (.ba vs) (.tuple arr)
 | it (r:Nat):aL rd φ (.it r) (.pointer (some ⟨r,0,none⟩))
 | mr (r g:Nat) (p:List Nat) (pl:Pl) (b:Nat) (hφ:φ r g p=some pl) (aK:pl.ad=some (b,0)):aL rd φ (.mr r g p) (.map (some b))
theorem aL.mono {rd rd':RD}{φ φ':b9}(h1:∀b o v,rd b o=some v→rd' b o=some v) (h2:∀r g p pl,φ r g p=some pl→φ' r g p=some pl)
  {a:AV} {v:Value} (h:aL rd φ a v):aL rd' φ' a v:=by
 induction h with
 | dead v=>exact .dead v
 | sc v h=>exact .sc v h
 | aG=>exact .aG
 | au r g p sz off len pl A hφ hA hl=>exact .au r g p sz off len pl A (h2 _ _ _ _ hφ) hA hl
 | ptr r g p sz i o pl b q hφ aK=>exact .ptr r g p sz i o pl b q (h2 _ _ _ _ hφ) aK
 | ir sz A cap=>exact .ir sz A cap
 | ro sz es b q cap f hc hs hr hv ih=>exact .ro sz es b q cap f hc hs (fun i j c h=>h1 _ _ _ (hr i j c h)) ih
 | rp cs b q f hs hr hv ih=>exact .rp cs b q f hs (fun j c h=>h1 _ _ _ (hr j c h)) ih
 | agg cs arr f hs hg hv ih=>exact .agg cs arr f hs hg ih
 | ba cs arr f hs hg hv ih=>exact .ba cs arr f hs hg ih
 | it r=>exact .it r
 | mr r g p pl b hφ aK=>exact .mr r g p pl b (h2 _ _ _ _ hφ) aK
def sf:AV→Bool
 | .sc _|.aG|.ro _ _|.rp _|.dead=>true
 | .agg cs|.ba cs=>cs.all fun c=>gE c
 | _=>false
theorem aL.lT {rd:RD}{φ φ':b9}{a:AV}{v:Value}(h:aL rd φ a v):sf a=true→aL rd φ' a v:=by
 have iR:∀{c:AV},gE c=true→sf c=true:=by intro c hc;cases c<;>first|rfl|cases hc
 induction h with
 | dead v=>intro _;exact .dead v
 | sc v h=>intro _;exact .sc v h
 | aG=>intro _;exact .aG
 | au=>intro h;cases h
 | ptr=>intro h;cases h
 | ir sz A cap=>intro _;exact .ir sz A cap
 | ro sz es b q cap f hc hs hr hv ih=>intro _;exact .ro sz es b q cap f hc hs hr (fun i j c h=>ih i j c h (iR (hs i j c h)))
 | rp cs b q f hs hr hv ih=>intro _;exact .rp cs b q f hs hr (fun j c h=>ih j c h (iR (hs j c h)))
 | agg cs arr f hz hg hv ih=>intro h;exact .agg cs arr f hz hg (fun j c hc=>ih j c hc (iR (List.all_eq_true.1 h c (dh hc))))
 | ba cs arr f hz hg hv ih=>intro h;exact .ba cs arr f hz hg (fun j c hc=>ih j c hc (iR (List.all_eq_true.1 h c (dh hc))))
 | it r=>intro h;cases h
 | mr=>intro h;cases h
def nk:AV→Bool
 | .dead|.agg _|.ba _|.it _=>false
 | _=>true
theorem aL.one {rd:RD}{φ:b9}{a:AV}{v:Value}(h:aL rd φ a v) (hc:nk a=true):v.oneCell'=true:=by
 cases h<;>first|rfl|(simp[nk]at hc;done)|(rename_i h;exact YV h)
def Fi:AV→Bool
 | .sc _|.aG=>true
 | _=>false
theorem YO {c:AV}(h:Fi c=true):gE c=true:=by cases c<;>first|rfl|cases h
structure Row where
 sz:Nat
 es:List (List AV)
 fl:Nat
 ao:Bool
def iB (fl:Nat) (cs:List AV):Prop:=(1≤fl→∀c∈cs,gE c=true)∧(2≤fl→∀c∈cs,Fi c=true)
def iz (cs:List AV):Nat:=
 match cs.all Fi with
 | true=>2
 | false=>match cs.all gE with
  | true=>1
  | false=>0
theorem L1 (cs:List AV):iz cs<3:=by
 unfold iz;split
 ·decide
 split<;>decide
theorem iB.BO (cs:List AV):iB (iz cs) cs:=by
 unfold iz;split
 ·rename_i h;exact⟨fun _ c hc=>YO (List.all_eq_true.1 h c hc),fun _ c hc=>List.all_eq_true.1 h c hc⟩
 split
 ·rename_i h;exact⟨fun _ c hc=>List.all_eq_true.1 h c hc,fun h=>by omega⟩
 exact⟨fun h=>by omega,fun h=>by omega⟩
theorem iB.min {a b:Nat}{cs ds:List AV}(h:iB a cs) (k:iB b ds) {es:List AV}(he:∀c∈es,c∈cs∨c∈ds):iB (min a b) es:=
 ⟨fun hm c hc=>(he c hc).elim (h.1 (by omega) c) (k.1 (by omega) c),fun hm c hc=>(he c hc).elim (h.2 (by omega) c) (k.2 (by omega) c)⟩
theorem iB.le {a b:Nat}{cs:List AV}(h:iB a cs) (hb:b≤a):iB b cs:=⟨fun hm=>h.1 (by omega),fun hm=>h.2 (by omega)⟩
abbrev dZ:=List Nat→Option Row
def bI {α:Type}:List (Nat × α)→Nat→Option α
 | [],_=>none
 | (k,v)::l,n=>match k==n with
  | true=>some v
  | false=>bI l n
def bQ {α:Type}:List (Nat × α)→Nat→α→List (Nat × α)
 | [],n,x=>[(n,x)]
 | (k,v)::l,n,x=>match k==n with
  | true=>(k,x)::l
  | false=>(k,v)::bQ l n x
theorem gx {α:Type}(k:Nat) (v:α) (l:List (Nat × α)) (n:Nat):bI ((k,v)::l) n=if k=n then some v else bI l n:=by
 simp only[bI];by_cases h:k=n
 ·simp[h]
 have:(k==n)=false:=by simpa using h
 simp[this,h]
theorem YR {α:Type}(k:Nat) (v:α) (l:List (Nat × α)) (n:Nat) (x:α):bQ ((k,v)::l) n x=if k=n then(k,x)::l else(k,v)::bQ l n x:=by
 simp only[bQ];by_cases h:k=n
 ·simp[h]
 have:(k==n)=false:=by simpa using h
 simp[this,h]
theorem zK {α:Type}(l:List (Nat × α)) (n m:Nat) (x:α):bI (bQ l n x) m=if m=n then some x else bI l m:=by
 induction l with
 | nil=>simp only [bQ,gx,bI];by_cases h:m=n
        ·simp[h]
        have h':¬n=m:=fun e=>h e.symm
        simp[h,h']
 | cons y l ih=>
  obtain⟨k,v⟩:=y;rw[YR];by_cases hk:k=n
  ·subst hk;simp only[if_true,gx];by_cases h:m=k
   ·simp[h]
   have h':¬k=m:=fun e=>h e.symm
   simp[h,h']
  simp only[hk,if_false,gx,ih];by_cases h:k=m
  ·subst h;simp[hk]
  simp[h]
abbrev aj:=List (Nat × (Nat × dZ))
def rowAt (σ:aj) (r g:Nat) (p:List Nat):Option Row:=
 match bI σ r with
 | some (g',f)=>if g'=g then f p else none
 | none=>none
def kc:IntKind→Nat
 | .i8=>0|.i16=>1|.i32=>2|.i64=>3|.u8=>4|.u16=>5|.u32=>6|.u64=>7
def rL:Int→Nat
 | .ofNat n=>2 * n
 | .negSucc n=>2 * n+1
theorem abX {a b:IntKind}(h:kc a=kc b):a=b:=by cases a<;>cases b<;>first|rfl|(simp[kc]at h;done)
theorem Kz (a:IntKind):kc a<8:=by cases a<;>decide
theorem W6 {a b:Int}(h:rL a=rL b):a=b:=by
 cases a<;>cases b<;>simp only[rL]at h<;>first|(congr 1;omega)|omega
def oU:Value→Option (List Nat)
 | .int k n=>some [kc k,rL n]
 | .bool b=>some [9,b.toNat]
 | _=>none
def vL:List Value→Option (List Nat)
 | []=>some []
 | v::l=>match oU v,vL l with
  | some a,some b=>some (a++b)
  | _,_=>none
def Ds:Value→Option (List Nat)
 | .agg arr=>(vL arr.toList).map (10::·)
 | v=>oU v
def sW:List AV→Option (List Nat)
 | []=>some []
 | .sc v::l=>match oU v,sW l with
  | some a,some b=>some (a++b)
  | _,_=>none
 | _::_=>none
def kB:AV→Option (List Nat)
 | .sc v=>oU v
 | .agg cs=>(sW cs).map (10::·)
 | _=>none
theorem yz {v:Value}{c:List Nat}(h:oU v=some c):∃a b,c=[a,b]∧a<10:=by
 cases v<;>simp only[oU,Option.some.injEq,reduceCtorEq]at h
 ·exact⟨_,_,h.symm,by decide⟩
 exact⟨_,_,h.symm,by have:=Kz ‹_›;omega⟩
theorem Uw {u v:Value}{c:List Nat}(h:oU u=some c) (k:oU v=some c):u=v:=by
 cases u<;>cases v<;>simp only[oU,Option.some.injEq,reduceCtorEq]at h k<;>subst h<;>simp only[List.cons.injEq,and_true]at k
 ·rename_i a b;cases a<;>cases b<;>simp_all
 ·have:=Kz ‹_›;omega
 ·have:=Kz ‹_›;omega
 rw[abX k.1,W6 k.2]
abbrev MC:=List (AV × AV)
def uh:MC→List Nat
 | []=>[]
 | e::C=>((kB e.1).getD []).length::((kB e.1).getD []++(((kB e.2).getD []).length::((kB e.2).getD []++uh C)))
def uj:List Nat→Nat
 | []=>0
 | a::l=>2 ^ a * (2 * uj l+1)
theorem Qb:∀{a b x y:Nat},2 ^ a * (2 * x+1)=2 ^ b * (2 * y+1)→a=b∧x=y
 | 0,0,x,y,h=>by simp at h;exact⟨rfl,by omega⟩
 | 0,b+1,x,y,h=>by
  rw[Nat.pow_succ,Nat.mul_comm (2 ^ b) 2,Nat.mul_assoc]at h;omega
 | a+1,0,x,y,h=>by
  rw[Nat.pow_succ,Nat.mul_comm (2 ^ a) 2,Nat.mul_assoc]at h;omega
 | a+1,b+1,x,y,h=>by
  rw[Nat.pow_succ,Nat.pow_succ,Nat.mul_comm (2 ^ a) 2,Nat.mul_comm (2 ^ b) 2,Nat.mul_assoc,Nat.mul_assoc]at h;obtain⟨h1,h2⟩:=Qb (a:=a) (b:=b) (x:=x) (y:=y) (by omega);exact⟨by omega,h2⟩
theorem TR:∀{l m:List Nat},uj l=uj m→l=m
 | [],[],h=>rfl
 | [],b::m,h=>by
  have:=Nat.mul_pos (Nat.pow_pos (n:=b) (show 0<2 by omega)) (show 0<2 * uj m+1 by omega);simp only[uj]at h;omega
 | a::l,[],h=>by
  have:=Nat.mul_pos (Nat.pow_pos (n:=a) (show 0<2 by omega)) (show 0<2 * uj l+1 by omega);simp only[uj]at h;omega
 | a::l,b::m,h=>by
  simp only[uj]at h;obtain⟨h1,h2⟩:=Qb h;rw[h1,TR h2]
def qP (C:MC):Nat:=3+uj (uh C)
theorem aa7 {C D:MC}(h:qP C=qP D):uh C=uh D:=TR (by unfold qP at h;omega)
theorem J0 (C:MC):3≤qP C:=Nat.le_add_right _ _
def wb (v:Value) (a:AV):Prop:=∃c,kB a=some c∧Ds v=some c
inductive MR:List MapEntry→MC→Prop
 | nil:MR [] []
 | cons {e:MapEntry} {x:AV × AV} {l:List MapEntry} {C:MC} (h1:wb e.key x.1) (h2:wb e.val x.2) (t:MR l C):MR (e::l) (x::C)
def v9 (w:World) (b:Nat) (C:MC):Prop:=∃es ck,w.heap[b]?=some (.map es ck)∧MR es.toList C
theorem Uv {a:AV}{c:List Nat}(h:kB a=some c):c≠[]:=by
 cases a<;>simp only[kB,reduceCtorEq]at h
 ·obtain⟨_,_,rfl,_⟩:=yz h;simp
 obtain⟨_,_,rfl⟩:=cJ h;simp
theorem UJ {a b x y:List Nat}(h:a.length::(a++x)=b.length::(b++y)):a=b∧x=y:=by
 simp only[List.cons.injEq]at h;exact List.append_inj h.2 h.1
theorem Tc {a:AV}{c:List Nat}(hc:c≠[]) (h:c=(kB a).getD []):kB a=some c:=by
 cases ha:kB a with
 | none=>rw[ha]at h;exact absurd h hc
 | some d=>rw[ha]at h;exact congrArg some h.symm
theorem MR.flat {l:List MapEntry}{C:MC}(h:MR l C):∀{D:MC},uh C=uh D→MR l D:=by
 induction h with
 | nil=>
  intro D hD;cases D with
  | nil=>exact .nil
  | cons y D=>simp[uh]at hD
 | cons h1 h2 _ ih=>
  intro D hD;cases D with
  | nil=>simp[uh]at hD
  | cons y D=>
   obtain⟨c1,a1,b1⟩:=h1;obtain⟨c2,a2,b2⟩:=h2;simp only[uh,a1,a2,Option.getD_some]at hD;obtain⟨e1,hD⟩:=UJ hD;obtain⟨e2,hD⟩:=UJ hD;exact .cons ⟨c1,Tc (Uv a1) e1,b1⟩ ⟨c2,Tc (Uv a2) e2,b2⟩ (ih hD)
theorem v9.enc {w:World}{b:Nat}{C D:MC}(h:v9 w b C) (e:qP C=qP D):v9 w b D:=by
 obtain⟨es,ck,h1,h2⟩:=h;exact⟨es,ck,h1,h2.flat (aa7 e)⟩
structure ma (rd:RD) (φ:b9) (w:World) (pl:Pl) (row:Row):Prop where
 wide:∀e∈row.es,e.length=row.sz
 len:row.es.length≤pl.cap
 kind:∀e∈row.es,iB row.fl e
 nil:pl.ad=none→pl.cap=0
 room:∀b q,pl.ad=some (b,q)→∀k,k<pl.cap * row.sz→(w.cell? (cI b (q+k))).isSome=true∧w.frozen? (cI b (q+k))=false
 cells:∀b q,pl.ad=some (b,q)→∀i j c,(row.es[i]?).bind (·[j]?)=some c→∃v,w.cell? (cI b (q+i * row.sz+j))=some v∧aL rd φ c v
 ic:row.ao=true→1≤row.fl∧∀b q,pl.ad=some (b,q)→∀k,k<row.es.length * row.sz→rd b (q+k)=w.cell? (cI b (q+k))
 mp:∀C,row.fl=qP C→row.sz=0∧∃b,pl.ad=some (b,0)∧v9 w b C
theorem lj {fl:Nat}(h:fl<3) {X:MC→Prop}:∀C,fl=qP C→X C:=fun C e=>by have:=J0 C;omega
def Ext (O:Nat→Prop) (w0:World) (rd rd':RD):Prop:=(∀b o v,rd b o=some v→rd' b o=some v)∧∀b o,b<w0.heap.size→¬O b→rd' b o=rd b o
theorem Ext.refl {O:Nat→Prop}{w0:World}{rd:RD}:Ext O w0 rd rd:=⟨fun _ _ _ h=>h,fun _ _ _ _=>rfl⟩
theorem Ext.trans {O:Nat→Prop}{w0:World}{rd rd' PZ:RD}(h:Ext O w0 rd rd') (k:Ext O w0 rd' PZ):Ext O w0 rd PZ:=
 ⟨fun b o v e=>k.1 b o v (h.1 b o v e),fun b o hb hO=>(k.2 b o hb hO).trans (h.2 b o hb hO)⟩
structure bp (rd:RD) (φ:b9) (O:Nat→Prop) (w0:World) (σ:aj) (w:World):Prop where
 rows:∀r g p row,rowAt σ r g p=some row→∃pl,φ r g p=some pl∧ma rd φ w pl row
 sep:∀r g p row r' g' p' cq pl cV b q q',rowAt σ r g p=some row→rowAt σ r' g' p'=some cq→φ r g p=some pl→φ r' g' p'=some cV→
  pl.ad=some (b,q)→cV.ad=some (b,q')→r=r'∧p=p'
 eh:∀b o v,rd b o=some v→w.cell? (cI b o)=some v
 et:∀r g p row pl b q,rowAt σ r g p=some row→φ r g p=some pl→pl.ad=some (b,q)→∀k,row.ao=false∨q+row.es.length * row.sz≤k→rd b k=none
 own:∀r g p row pl b q,rowAt σ r g p=some row→φ r g p=some pl→pl.ad=some (b,q)→(O b∨w0.heap.size≤b)∧b<w.heap.size
 frame:∀b,b<w0.heap.size→¬O b→w.heap[b]?=w0.heap[b]?
 size:w0.heap.size≤w.heap.size
 os:w.os=w0.os
 tape:w.tape=w0.tape
 output:w.output=w0.output
end
section
open Go Go.RowKit
set_option linter.unusedVariables false
def one (row:Row):dZ:=fun p=>match p with
 | []=>some row
 | _=>none
theorem pY {row cq:Row}{p:List Nat}(h:one row p=some cq):p=[]∧cq=row:=by
 unfold one at h;split at h
 ·exact⟨rfl,(Option.some.inj h).symm⟩
 cases h
def dB (f:dZ) (p:List Nat) (row:Row):dZ:=fun q=>if q=p then some row else f q
theorem Tj (row cq:Row):dB (one row) [] cq=one cq:=by
 funext q;unfold dB one;cases q<;>simp
def dz (φ:b9) (r g:Nat) (ψ:List Nat→Option Pl):b9:=fun r' g' p=>if r'=r∧g'=g then ψ p else φ r' g' p
theorem Dt (b:Nat):∀(vs:List Value) (o:Nat) (w:World) (b' k:Nat),
  (w.setCells b o vs).cell? (cI b' k)=if b'=b∧o≤k∧k<o+vs.length∧(w.cell? (cI b' k)).isSome=true then vs[k - o]? else w.cell? (cI b' k)
 | [],o,w,b',k=>by
  simp only[World.setCells,List.length_nil,Nat.add_zero];rw[if_neg (by omega)]
 | v::vs,o,w,b',k=>by
  rw[World.setCells,Dt b vs];by_cases h:cI b o=cI b' k
  ·have hb:b'=b:=by injection h with h1;exact h1.symm
   have hk:k=o:=by injection h with _ h2;exact h2.symm
   subst hb;subst hk;rw[if_neg (by omega)];cases hc:w.cell? (cI b' k) with
   | none=>
    rw[if_neg (by simp)];unfold World.cell? at hc ⊢;simp only[World.setCell,Array.getElem?_modify]at hc ⊢;cases hh:w.heap[b']? with
    | none=>simp
    | some x=>cases x<;>simp_all
   | some u=>
    rw[if_pos ⟨rfl,Nat.le_refl _,by simp,by simp⟩];simp[World.cell?_setCell_same _ _ _ hc]
  rw[World.cell?_setCell_other _ _ _ _ h];by_cases hc:b'=b∧o+1≤k∧k<o+1+vs.length∧(w.cell? (cI b' k)).isSome=true
  ·rw[if_pos hc,if_pos ⟨hc.1,by omega,by simp;omega,hc.2.2.2⟩];rw[show k - o=(k - (o+1))+1 by omega,List.getElem?_cons_succ]
  rw[if_neg hc];by_cases eN:b'=b∧o≤k∧k<o+(v::vs).length∧(w.cell? (cI b' k)).isSome=true
  ·exfalso;obtain⟨h1,h2,h3,h4⟩:=eN;simp only[List.length_cons]at h3;have:k≠o:=fun e=>h (by rw[e,h1])
   exact hc ⟨h1,by omega,by omega,h4⟩
  rw[if_neg eN]
theorem LX (b:Nat):∀(vs:List Value) (o:Nat) (w:World) (a:Addr),(w.setCells b o vs).frozen? a=w.frozen? a
 | [],_,_,_=>rfl
 | v::vs,o,w,a=>by rw[World.setCells,LX b vs,World.frozen?_setCell]
theorem Lr (b:Nat):∀(vs:List Value) (o:Nat) (w:World) (k:Nat),k≠b→(w.setCells b o vs).heap[k]?=w.heap[k]?
 | [],_,_,_,_=>rfl
 | v::vs,o,w,k,h=>by rw[World.setCells,Lr b vs _ _ _ h,Below.heap_setCell _ _ _ _ h]
theorem I7 (b:Nat):∀(vs:List Value) (o:Nat) (w:World),(w.setCells b o vs).heap.size=w.heap.size
 | [],_,_=>rfl
 | v::vs,o,w=>by rw[World.setCells,I7 b vs,World.size_setCell]
theorem ER (b:Nat):∀(vs:List Value) (o:Nat) (w:World),(w.setCells b o vs).os=w.os∧(w.setCells b o vs).tape=w.tape∧(w.setCells b o vs).output=w.output
 | [],_,_=>⟨rfl,rfl,rfl⟩
 | v::vs,o,w=>by rw[World.setCells];exact ER b vs _ _
theorem sZ {w:World}{b k:Nat}(h:(w.cell? (cI b k)).isSome=true):b<w.heap.size:=by
 obtain⟨v,hv⟩:=Option.isSome_iff_exists.1 h;exact World.block_lt_of_cell? _ _ hv
theorem ma.of_same {rd:RD}{φ:b9}{w w':World}{pl:Pl}{row:Row}(h:ma rd φ w pl row)
  (hc:∀b q,pl.ad=some (b,q)→∀k,w'.cell? (cI b k)=w.cell? (cI b k)∧w'.frozen? (cI b k)=w.frozen? (cI b k))
  (hm:∀b q,pl.ad=some (b,q)→∀es ck,w.heap[b]?=some (.map es ck)→w'.heap[b]?=some (.map es ck)):ma rd φ w' pl row:=
 ⟨h.wide,h.len,h.kind,h.nil,fun b q aK k hk=>by rw[(hc b q aK _).1,(hc b q aK _).2];exact h.room b q aK k hk,
  fun b q aK i j c aU=>by rw[(hc b q aK _).1];exact h.cells b q aK i j c aU,fun ha=>⟨(h.ic ha).1,fun b q aK k hk=>by rw[(hc b q aK _).1];exact(h.ic ha).2 b q aK k hk⟩,
  fun C e=>by obtain⟨hz,b,aK,es,ck,h1,h2⟩:=h.mp C e;exact⟨hz,b,aK,es,ck,hm _ _ aK _ _ h1,h2⟩⟩
theorem ma.mono {rd rd':RD}{φ φ':b9}{w:World}{pl:Pl}{row:Row}(h:ma rd φ w pl row)
  (h1:∀b o v,rd b o=some v→rd' b o=some v) (h2:∀r g p pl,φ r g p=some pl→φ' r g p=some pl):ma rd' φ' w pl row:=
 ⟨h.wide,h.len,h.kind,h.nil,h.room,fun b q aK i j c aU=>by obtain⟨v,hv,hr⟩:=h.cells b q aK i j c aU;exact⟨v,hv,hr.mono h1 h2⟩,
  fun ha=>⟨(h.ic ha).1,fun b q aK k hk=>by
   have e:=(h.ic ha).2 b q aK k hk;obtain⟨v,hv⟩:=Option.isSome_iff_exists.1 (h.room b q aK k (Nat.lt_of_lt_of_le hk (Nat.mul_le_mul_right _ h.len))).1;rw[hv]at e ⊢;exact h1 _ _ _ e⟩,h.mp⟩
theorem bp.drew {rd:RD}{φ:b9}{O:Nat→Prop}{w0 w:World}{σ:aj}(h:bp rd φ O w0 σ w):bp rd φ O w0 σ w.drew:=
 ⟨fun r g p row hr=>by obtain⟨pl,h1,h2⟩:=h.rows r g p row hr;exact⟨pl,h1,h2.of_same (fun _ _ _ _=>⟨rfl,rfl⟩) fun _ _ _ _ _ e=>e⟩,h.sep,h.eh,h.et,h.own,h.frame,h.size,h.os,h.tape,h.output⟩
theorem jy (σ:aj) (d G:Nat) (f:dZ) (r g:Nat) (p:List Nat):
  rowAt (bQ σ d (G,f)) r g p=if r=d then(if G=g then f p else none) else rowAt σ r g p:=by
 unfold rowAt;rw[zK];by_cases h:r=d<;>simp[h]
theorem vM {w:World}{o:Obj}{b k:Nat}(h:b<w.heap.size):(w.alloc o).cell? (cI b k)=w.cell? (cI b k):=
 World.cell?_alloc_lt _ _ _ h
theorem G5 {w:World}{o:Obj}{b k:Nat}(h:b<w.heap.size):(w.alloc o).frozen? (cI b k)=w.frozen? (cI b k):=
 World.frozen?_alloc_old _ _ _ (by show b≠w.heap.size;omega)
theorem bp.newRow {rd:RD}{φ:b9}{O:Nat→Prop}{w0 w:World}{σ:aj}(h:bp rd φ O w0 σ w) {d G:Nat}(dJ:∀p,φ d G p=none)
  (row:Row) (j6:row.ao=false) (tY:row.fl<3) (cap:Nat) (arr:Array Value) (T:TypeId) (fz:Nat × Nat) (gz:arr.size≤fz.1∨fz.2≤fz.1) (vg:∀e∈row.es,e.length=row.sz) (hlen:row.es.length≤cap) (dg:cap * row.sz≤arr.size)
  (CI:∀e∈row.es,iB row.fl e)
  (hc:∀i j c,(row.es[i]?).bind (·[j]?)=some c→∃v,arr[i * row.sz+j]?=some v∧aL rd φ c v):
  bp rd (dz φ d G fun p=>match p with|[]=>some ⟨some (w.heap.size,0),cap⟩|_=>none) O w0 (bQ σ d (G,one row)) (w.alloc (.cells arr T fz))∧
  (∀r g p pl,φ r g p=some pl→dz φ d G (fun p=>match p with|[]=>some ⟨some (w.heap.size,0),cap⟩|_=>none) r g p=some pl):=by
 have fL:∀r g p pl,φ r g p=some pl→dz φ d G (fun p=>match p with|[]=>some ⟨some (w.heap.size,0),cap⟩|_=>none) r g p=some pl:=by
  intro r g p pl hp;unfold dz;rw[if_neg (by rintro⟨rfl,rfl⟩;rw[dJ]at hp;cases hp)];exact hp
 have ab:∀{r g p row pl b q},rowAt σ r g p=some row→φ r g p=some pl→pl.ad=some (b,q)→b<w.heap.size:=fun h1 h2 h3=>(h.own _ _ _ _ _ _ _ h1 h2 h3).2
 have gb:∀k,(w.alloc (.cells arr T fz)).cell? (cI w.heap.size k)=arr[k]?:=by
  intro k;show(match (w.heap.push _)[w.heap.size]? with|some (.cells c _ _)=>if (cI w.heap.size k).spot.isSome then none else c[k]?|_=>none)=_
  rw[Array.getElem?_push_size];rfl
 have acP:∀k,k<arr.size→(w.alloc (.cells arr T fz)).frozen? (cI w.heap.size k)=false:=by
  intro k hk;show(match (w.heap.push _)[w.heap.size]? with|some (.cells _ _ (lo,hi))=>lo≤k&&k<hi|_=>false)=false
  rw[Array.getElem?_push_size];simp;omega
 have ch:∀{r g p cq},rowAt (bQ σ d (G,one row)) r g p=some cq→(d=r∧G=g∧[]=p∧row=cq)∨(rowAt σ r g p=some cq∧r≠d):=by
  intro r g p cq hr;rw[jy]at hr;by_cases hd:r=d
  ·rw[if_pos hd]at hr;by_cases hg:G=g
   ·rw[if_pos hg]at hr;obtain⟨h1,h2⟩:=pY hr;exact .inl ⟨hd.symm,hg,h1.symm,h2.symm⟩
   rw[if_neg hg]at hr;cases hr
  rw[if_neg hd]at hr;exact .inr ⟨hr,hd⟩
 have lE:dz φ d G (fun p=>match p with|[]=>some ⟨some (w.heap.size,0),cap⟩|_=>none) d G []=some ⟨some (w.heap.size,0),cap⟩:=by simp[dz]
 have hold:∀{r g p},r≠d→dz φ d G (fun p=>match p with|[]=>some ⟨some (w.heap.size,0),cap⟩|_=>none) r g p=φ r g p:=by
  intro r g p hr;unfold dz;rw[if_neg (fun hh=>hr hh.1)]
 refine⟨⟨?_,?_,?_,?_,?_,?_,?_,h.os,h.tape,h.output⟩,fL⟩
 ·intro r g p cq hr;rcases ch hr with ⟨rfl,rfl,rfl,rfl⟩|⟨hr,hd⟩
  ·refine⟨_,lE,vg,hlen,CI,by simp,?_,?_,fun ha=>(by rw[j6]at ha;cases ha),lj tY⟩
   ·intro b q hb k hk;simp only[Option.some.injEq,Prod.mk.injEq]at hb;obtain⟨rfl,rfl⟩:=hb;have bW:k<arr.size:=Nat.lt_of_lt_of_le hk dg;rw[gb,Nat.zero_add];exact⟨by simp[bW],acP k bW⟩
   intro b q hb i j c aU;simp only[Option.some.injEq,Prod.mk.injEq]at hb;obtain⟨rfl,rfl⟩:=hb;obtain⟨v,hv,eR⟩:=hc i j c aU;rw[gb,Nat.zero_add];exact⟨v,hv,eR.mono (fun _ _ _ h=>h) fL⟩
  obtain⟨pl,h1,h2⟩:=h.rows r g p cq hr;refine⟨pl,by rw[hold hd];exact h1,(h2.of_same (fun b q aK k=>⟨vM (ab hr h1 aK),G5 (ab hr h1 aK)⟩) fun b q aK es ck e=>by rw[Below.heap_alloc _ _ _ (ab hr h1 aK)];exact e).mono (fun _ _ _ h=>h) fL⟩
 ·intro r g p cq r' g' p' Y0 pl cV b q q' h1 h2 h3 h4 h5 h6;rcases ch h1 with ⟨rfl,rfl,rfl,rfl⟩|⟨h1,hd⟩<;>rcases ch h2 with ⟨rfl,rfl,rfl,rfl⟩|⟨h2,qo⟩
  ·exact⟨rfl,rfl⟩
  ·rw[lE]at h3;cases h3;cases h5;rw[hold qo]at h4;exact absurd (ab h2 h4 h6) (Nat.lt_irrefl _)
  ·rw[lE]at h4;cases h4;cases h6;rw[hold hd]at h3;exact absurd (ab h1 h3 h5) (Nat.lt_irrefl _)
  rw[hold hd]at h3;rw[hold qo]at h4;exact h.sep _ _ _ _ _ _ _ _ _ _ _ _ _ h1 h2 h3 h4 h5 h6
 ·intro b o v hv;have:=h.eh b o v hv;rw[vM (sZ (by rw[this];rfl))];exact this
 ·intro r g p cq pl b q h1 h2 h3 k dD;rcases ch h1 with ⟨rfl,rfl,rfl,rfl⟩|⟨h1,hd⟩
  ·rw[lE]at h2;cases h2;cases h3;cases hk:rd w.heap.size k with
   | none=>rfl
   | some v=>
    have:=sZ (w:=w) (b:=w.heap.size) (k:=k) (by rw[h.eh _ _ _ hk];rfl);exact absurd this (Nat.lt_irrefl _)
  rw[hold hd]at h2;exact h.et _ _ _ _ _ _ _ h1 h2 h3 k dD
 ·intro r g p cq pl b q h1 h2 h3;rw[World.size_alloc];rcases ch h1 with ⟨rfl,rfl,rfl,rfl⟩|⟨h1,hd⟩
  ·rw[lE]at h2;cases h2;cases h3;exact⟨.inr h.size,Nat.lt_succ_self _⟩
  rw[hold hd]at h2;obtain⟨ha,hb⟩:=h.own _ _ _ _ _ _ _ h1 h2 h3;exact⟨ha,by omega⟩
 ·intro b hb hO;rw[Below.heap_alloc _ _ _ (Nat.lt_of_lt_of_le hb h.size)];exact h.frame b hb hO
 rw[World.size_alloc];exact Nat.le_succ_of_le h.size
theorem bp.store {rd:RD}{φ:b9}{O:Nat→Prop}{w0 w:World}{σ:aj}(h:bp rd φ O w0 σ w) {r g:Nat}{p:List Nat}{f:dZ}{row:Row}
  (hl:bI σ r=some (g,f)) (hf:f p=some row) {pl:Pl} {b q:Nat} (hφ:φ r g p=some pl) (aK:pl.ad=some (b,q)) (Gu:row.ao=false) (cq:Row) (acR:cq.ao=false) (tY:cq.fl<3) (hs:cq.sz=row.sz)
  (vg:∀e∈cq.es,e.length=cq.sz) (hlen:cq.es.length≤pl.cap) (CI:∀e∈cq.es,iB cq.fl e) (o:Nat) (vs:List Value)
  (hc:∀i j c,(cq.es[i]?).bind (·[j]?)=some c→(if o≤q+i * row.sz+j∧q+i * row.sz+j<o+vs.length then ∃v,vs[q+i * row.sz+j - o]?=some v∧aL rd φ c v else ∃v,w.cell? (cI b (q+i * row.sz+j))=some v∧aL rd φ c v)):
  bp rd φ O w0 (bQ σ r (g,dB f p cq)) (w.setCells b o vs):=by
 have cj:rowAt σ r g p=some row:=by unfold rowAt;rw[hl];simp[hf]
 obtain⟨uO,sy,aF⟩:=h.rows r g p row cj;rw[hφ]at sy;cases sy;have ch:∀{r2 g2 p2 bD},rowAt (bQ σ r (g,dB f p cq)) r2 g2 p2=some bD→(r=r2∧g=g2∧p=p2∧cq=bD)∨(rowAt σ r2 g2 p2=some bD∧¬(r2=r∧p2=p)):=by
  intro r2 g2 p2 bD hr;rw[jy]at hr;by_cases hd:r2=r
  ·rw[if_pos hd]at hr;by_cases hg:g=g2
   ·rw[if_pos hg]at hr;unfold dB at hr;by_cases hp:p2=p
    ·rw[if_pos hp]at hr;exact .inl ⟨hd.symm,hg,hp.symm,Option.some.inj hr⟩
    rw[if_neg hp]at hr;refine .inr ⟨?_,fun hh=>hp hh.2⟩;unfold rowAt;rw[hd,hl];simp[hg,hr]
   rw[if_neg hg]at hr;cases hr
  rw[if_neg hd]at hr;exact .inr ⟨hr,fun hh=>hd hh.1⟩
 have SW:∀{r2 g2 p2 bD cX b2 q2},rowAt σ r2 g2 p2=some bD→¬(r2=r∧p2=p)→φ r2 g2 p2=some cX→cX.ad=some (b2,q2)→b2≠b:=by
  intro r2 g2 p2 bD cX b2 q2 h1 h2 h3 h4 e;subst e;exact h2 (h.sep _ _ _ _ _ _ _ _ _ _ _ _ _ h1 cj h3 hφ h4 aK)
 refine⟨?_,?_,?_,?_,?_,?_,?_,?_,?_,?_⟩
 ·intro r2 g2 p2 bD hr;rcases ch hr with ⟨rfl,rfl,rfl,rfl⟩|⟨hr,bO⟩
  ·refine⟨pl,hφ,vg,hlen,CI,aF.nil,?_,?_,fun ha=>(by rw[acR]at ha;cases ha),lj tY⟩
   ·intro b2 q2 hb k hk;rw[aK]at hb;simp only[Option.some.injEq,Prod.mk.injEq]at hb;obtain⟨rfl,rfl⟩:=hb;rw[hs]at hk;obtain⟨h1,h2⟩:=aF.room _ _ aK k hk;rw[LX];refine⟨?_,h2⟩;rw[Dt];split
    ·rename_i hh;rw[bz (by omega)];rfl
    exact h1
   intro b2 q2 hb i j c aU;rw[aK]at hb;simp only[Option.some.injEq,Prod.mk.injEq]at hb;obtain⟨rfl,rfl⟩:=hb;rw[hs];have hz:=hc i j c aU;rw[Dt];by_cases cc:o≤q+i * row.sz+j∧q+i * row.sz+j<o+vs.length
   ·rw[if_pos cc]at hz;have hi:i<cq.es.length∧j<cq.sz:=by
     cases he:cq.es[i]? with
     | none=>simp[he]at aU
     | some e=>
      have hi:i<cq.es.length:=by
       rcases bm i cq.es.length with hx|hx
       ·exact hx
       rw[List.getElem?_eq_none hx]at he;cases he
      refine⟨hi,?_⟩;have:=vg e (dh he);rw[←this];simp only[he,Option.bind_some]at aU;rcases bm j e.length with hx|hx
      ·exact hx
      rw[List.getElem?_eq_none hx]at aU;cases aU
    have hk:i * row.sz+j<pl.cap * row.sz:=by
     have h1:(i+1) * row.sz≤pl.cap * row.sz:=Nat.mul_le_mul_right _ (by omega);have h2:(i+1) * row.sz=i * row.sz+row.sz:=Nat.succ_mul _ _;have h3:j<row.sz:=hs▸hi.2;omega
    have h4:=(aF.room _ _ aK _ hk).1;rw[←Nat.add_assoc]at h4;rw[if_pos ⟨rfl,cc.1,cc.2,h4⟩];exact hz
   rw[if_neg cc]at hz;rw[if_neg (fun hh=>cc ⟨hh.2.1,hh.2.2.1⟩)];exact hz
  obtain⟨cX,h1,h2⟩:=h.rows r2 g2 p2 bD hr;refine⟨cX,h1,h2.of_same (fun b2 q2 sI k=>?_) fun b2 q2 sI es ck e=>by rw[Lr _ _ _ _ _ (SW hr bO h1 sI)];exact e⟩;have hb:=SW hr bO h1 sI;rw[Dt,LX,if_neg (fun hh=>hb hh.1)];exact⟨rfl,rfl⟩
 ·intro r1 g1 p1 fg r2 g2 p2 bD iZ cX b1 q1 q2 h1 h2 h3 h4 h5 h6;have e1:∃x,rowAt σ r1 g1 p1=some x:=by
   rcases ch h1 with ⟨rfl,rfl,rfl,rfl⟩|⟨h1,_⟩
   ·exact⟨_,cj⟩
   exact⟨_,h1⟩
  have e2:∃x,rowAt σ r2 g2 p2=some x:=by
   rcases ch h2 with ⟨rfl,rfl,rfl,rfl⟩|⟨h2,_⟩
   ·exact⟨_,cj⟩
   exact⟨_,h2⟩
  obtain⟨x1,e1⟩:=e1;obtain⟨x2,e2⟩:=e2;exact h.sep _ _ _ _ _ _ _ _ _ _ _ _ _ e1 e2 h3 h4 h5 h6
 ·intro b2 o2 v hv;rw[Dt,if_neg]
  ·exact h.eh _ _ _ hv
  rintro⟨rfl,_⟩;have:=h.et _ _ _ _ _ _ _ cj hφ aK o2 (.inl Gu);rw[this]at hv;cases hv
 ·intro r2 g2 p2 bD cX b2 q2 h1 h2 h3 k dD;rcases ch h1 with ⟨rfl,rfl,rfl,rfl⟩|⟨h1,_⟩
  ·exact h.et _ _ _ _ _ _ _ cj h2 h3 k (.inl Gu)
  exact h.et _ _ _ _ _ _ _ h1 h2 h3 k dD
 ·intro r2 g2 p2 bD cX b2 q2 h1 h2 h3;rw[I7];rcases ch h1 with ⟨rfl,rfl,rfl,rfl⟩|⟨h1,_⟩
  ·exact h.own _ _ _ _ _ _ _ cj h2 h3
  exact h.own _ _ _ _ _ _ _ h1 h2 h3
 ·intro k hk hO;rw[Lr]
  ·exact h.frame k hk hO
  rintro rfl;rcases(h.own _ _ _ _ _ _ _ cj hφ aK).1 with hh|hh
  ·exact hO hh
  omega
 ·rw[I7];exact h.size
 ·rw[(ER b vs o w).1];exact h.os
 ·rw[(ER b vs o w).2.1];exact h.tape
 rw[(ER b vs o w).2.2];exact h.output
theorem wI {σ:aj}{r g:Nat}{p:List Nat}{f:dZ}{cq:Row}(hl:bI σ r=some (g,f)) {r2 g2:Nat}{p2:List Nat}{bD:Row}
  (hr:rowAt (bQ σ r (g,dB f p cq)) r2 g2 p2=some bD):(r=r2∧g=g2∧p=p2∧cq=bD)∨(rowAt σ r2 g2 p2=some bD∧¬(r2=r∧p2=p)):=by
 rw[jy]at hr;by_cases hd:r2=r
 ·rw[if_pos hd]at hr;by_cases hg:g=g2
  ·rw[if_pos hg]at hr;unfold dB at hr;by_cases hp:p2=p
   ·rw[if_pos hp]at hr;exact .inl ⟨hd.symm,hg,hp.symm,Option.some.inj hr⟩
   rw[if_neg hp]at hr;refine .inr ⟨?_,fun hh=>hp hh.2⟩;unfold rowAt;rw[hd,hl];simp[hg,hr]
  rw[if_neg hg]at hr;cases hr
 rw[if_neg hd]at hr;exact .inr ⟨hr,fun hh=>hd hh.1⟩
theorem bp.freeze {rd:RD}{φ:b9}{O:Nat→Prop}{w0 w:World}{σ:aj}(h:bp rd φ O w0 σ w) {r g:Nat}{p:List Nat}{f:dZ}{row:Row}
  (hl:bI σ r=some (g,f)) (hf:f p=some row) (fA:1≤row.fl):
  ∃rd',Ext O w0 rd rd'∧bp rd' φ O w0 (bQ σ r (g,dB f p ⟨row.sz,row.es,row.fl,true⟩)) w:=by
 have cj:rowAt σ r g p=some row:=by unfold rowAt;rw[hl];simp[hf]
 obtain⟨pl,hφ,aF⟩:=h.rows r g p row cj;have ch:=fun {r2 g2 p2 bD} (hr:rowAt (bQ σ r (g,dB f p ⟨row.sz,row.es,row.fl,true⟩)) r2 g2 p2=some bD)=>wI hl hr
 have lD:∀{r2 g2 p2 bD},rowAt (bQ σ r (g,dB f p ⟨row.sz,row.es,row.fl,true⟩)) r2 g2 p2=some bD→∃x,rowAt σ r2 g2 p2=some x:=by
  intro r2 g2 p2 bD hr;rcases ch hr with ⟨rfl,rfl,rfl,rfl⟩|⟨h1,_⟩
  ·exact⟨_,cj⟩
  exact⟨_,h1⟩
 have Pk:∀r1 g1 p1 fg r2 g2 p2 bD iZ cX b q1 q2,rowAt (bQ σ r (g,dB f p ⟨row.sz,row.es,row.fl,true⟩)) r1 g1 p1=some fg→
   rowAt (bQ σ r (g,dB f p ⟨row.sz,row.es,row.fl,true⟩)) r2 g2 p2=some bD→φ r1 g1 p1=some iZ→φ r2 g2 p2=some cX→iZ.ad=some (b,q1)→cX.ad=some (b,q2)→r1=r2∧p1=p2:=by
  intro r1 g1 p1 fg r2 g2 p2 bD iZ cX b q1 q2 h1 h2 h3 h4 h5 h6;obtain⟨x1,e1⟩:=lD h1;obtain⟨x2,e2⟩:=lD h2;exact h.sep _ _ _ _ _ _ _ _ _ _ _ _ _ e1 e2 h3 h4 h5 h6
 have Qt:∀r1 g1 p1 fg iZ b q1,rowAt (bQ σ r (g,dB f p ⟨row.sz,row.es,row.fl,true⟩)) r1 g1 p1=some fg→φ r1 g1 p1=some iZ→iZ.ad=some (b,q1)→(O b∨w0.heap.size≤b)∧b<w.heap.size:=by
  intro r1 g1 p1 fg iZ b q1 h1 h2 h3;obtain⟨x1,e1⟩:=lD h1;exact h.own _ _ _ _ _ _ _ e1 h2 h3
 cases aK:pl.ad with
 | none=>
  refine⟨rd,.refl,?_,Pk,h.eh,?_,Qt,h.frame,h.size,h.os,h.tape,h.output⟩
  ·intro r2 g2 p2 bD hr;rcases ch hr with ⟨rfl,rfl,rfl,rfl⟩|⟨hr,bO⟩
   ·exact⟨pl,hφ,aF.wide,aF.len,aF.kind,aF.nil,aF.room,aF.cells,fun _=>⟨fA,fun b q hb=>by rw[aK]at hb;cases hb⟩,aF.mp⟩
   exact h.rows _ _ _ _ hr
  intro r2 g2 p2 bD cX b2 q2 h1 h2 h3 k dD;rcases ch h1 with ⟨rfl,rfl,rfl,rfl⟩|⟨h1,_⟩
  ·rw[hφ]at h2;cases h2;rw[aK]at h3;cases h3
  exact h.et _ _ _ _ _ _ _ h1 h2 h3 k dD
 | some bq=>
  obtain⟨b,q⟩:=bq;obtain⟨hO,ab⟩:=h.own _ _ _ _ _ _ _ cj hφ aK;have Lc:∀b' k v,rd b' k=some v→(if b'=b∧q≤k∧k<q+row.es.length * row.sz then w.cell? (cI b' k) else rd b' k)=some v:=by
   intro b' k v hv;split
   ·exact h.eh _ _ _ hv
   exact hv
  refine⟨fun b' k=>if b'=b∧q≤k∧k<q+row.es.length * row.sz then w.cell? (cI b' k) else rd b' k,⟨Lc,?_⟩,?_,Pk,?_,?_,Qt,h.frame,h.size,h.os,h.tape,h.output⟩
  ·intro b' o hb S6;refine if_neg ?_;rintro⟨rfl,_⟩;rcases hO with hh|hh
   ·exact S6 hh
   omega
  ·intro r2 g2 p2 bD hr;rcases ch hr with ⟨rfl,rfl,rfl,rfl⟩|⟨hr,bO⟩
   ·have hm:=aF.mono (rd':=fun b' k=>if b'=b∧q≤k∧k<q+row.es.length * row.sz then w.cell? (cI b' k) else rd b' k) (φ':=φ) Lc (fun _ _ _ _ h=>h);refine⟨pl,hφ,hm.wide,hm.len,hm.kind,hm.nil,hm.room,hm.cells,fun _=>⟨fA,fun b2 q2 hb k hk=>?_⟩,hm.mp⟩;rw[aK]at hb;simp only[Option.some.injEq,Prod.mk.injEq]at hb;obtain⟨rfl,rfl⟩:=hb;have hk:k<row.es.length * row.sz:=hk;exact if_pos ⟨rfl,by omega,by omega⟩
   obtain⟨cX,e1,e2⟩:=h.rows _ _ _ _ hr;exact⟨cX,e1,e2.mono Lc (fun _ _ _ _ h=>h)⟩
  ·intro b' k v hv;split at hv
   ·exact hv
   exact h.eh _ _ _ hv
  intro r2 g2 p2 bD cX b2 q2 h1 h2 h3 k dD;rcases ch h1 with ⟨rfl,rfl,rfl,rfl⟩|⟨h1,bO⟩
  ·rw[hφ]at h2;cases h2;rw[aK]at h3;simp only[Option.some.injEq,Prod.mk.injEq]at h3;obtain⟨rfl,rfl⟩:=h3;simp only[false_or,Bool.true_eq_false]at dD;exact(if_neg (by omega)).trans (h.et _ _ _ _ _ _ _ cj hφ aK k (.inr dD))
  have hb:b2≠b:=by
   rintro rfl;exact bO (h.sep _ _ _ _ _ _ _ _ _ _ _ _ _ h1 cj h2 hφ h3 aK)
  exact(if_neg (fun hh=>hb hh.1)).trans (h.et _ _ _ _ _ _ _ h1 h2 h3 k dD)
end
section
open Go Go.RowKit
set_option linter.unusedVariables false
inductive TK where
 | bool|int (k:IntKind)|string|slice|array|struct|pointer|map|other
 deriving DecidableEq
def kP:TypeDesc→TK
 | .bool=>.bool
 | .int k=>.int k
 | .string=>.string
 | .slice _=>.slice
 | .array _ _=>.array
 | .struct _=>.struct
 | .pointer _=>.pointer
 | .map _ _=>.map
 | _=>.other
def zN:TypeDesc→Bool
 | .struct _|.array _ _=>true
 | _=>false
def Md:TypeDesc→Nat
 | .slice e|.array _ e|.pointer e=>e
 | _=>0
def Kr:TypeDesc→Nat
 | .array n _=>n
 | _=>0
def kW (v:Value):AV:=
 match v with
 | .slice none 0 0=>.aG
 | v=>match tu v with
  | true=>.sc v
  | false=>.dead
def v8:Value→AV
 | .agg cs=>.agg (cs.toList.map kW)
 | .tuple cs=>.ba (cs.toList.map kW)
 | v=>kW v
structure TI where
 sz:Nat
 bytes:Nat
 ag:Bool
 zero:Option (List AV)
 Dc:List (Nat × Nat)
 el:Nat
 n:Nat
 k:TK
def ti (P:Program) (t:TypeId):Option TI:=
 match P.info? t,P.underlying t with
 | some i,some d=>some ⟨i.size,i.bytes,zN d,i.zero.map (fun z=>z.cells.toList.map kW),
   (match d with|.struct fs=>fs.toList.map fun f=>(f.offset,P.cellsOf f.type)|_=>[]),Md d,Kr d,kP d⟩
 | _,_=>none
theorem o6 {P:Program}{t:TypeId}{x:TI}(h:ti P t=some x):∃i d,P.info? t=some i∧P.underlying t=some d∧x.sz=i.size∧x.bytes=i.bytes∧x.ag=zN d∧
  x.zero=i.zero.map (fun z=>z.cells.toList.map kW)∧x.Dc=(match d with|.struct fs=>fs.toList.map fun f=>(f.offset,P.cellsOf f.type)|_=>[])∧
  x.el=Md d∧x.n=Kr d∧x.k=kP d:=by
 unfold ti at h;split at h
 ·rename_i i d h1 h2;have h:=Option.some.inj h;subst h;exact⟨i,d,h1,h2,rfl,rfl,rfl,rfl,rfl,rfl,rfl,rfl⟩
 simp at h
section
variable {rd:RD}{φ:b9}
theorem WJ (v:Value):aL rd φ (kW v) v:=by
 unfold kW;split
 ·exact .aG
 split
 ·exact .sc _ ‹_›
 exact .dead _
def PW (rd:RD) (φ:b9) (cs:List AV) (vs:List Value):Prop:=cs.length=vs.length∧∀(j:Nat) (c:AV),cs[j]?=some c→∃v,vs[j]?=some v∧aL rd φ c v
theorem PW.agg {cs:List AV}{arr:Array Value}(h:PW rd φ cs arr.toList):aL rd φ (.agg cs) (.agg arr):=by
 refine .agg cs arr (fun j=>arr.getD j undef) (by rw[h.1];simp) (fun j c hc=>?_) (fun j c hc=>?_)
 ·obtain⟨v,hv,_⟩:=h.2 j c hc;have nN:arr[j]?=some v:=by simpa using hv
  simp[nN]
 obtain⟨v,hv,hr⟩:=h.2 j c hc;have nN:arr[j]?=some v:=by simpa using hv
 simpa[nN]using hr
theorem PW.ba {cs:List AV}{arr:Array Value}(h:PW rd φ cs arr.toList):aL rd φ (.ba cs) (.tuple arr):=by
 refine .ba cs arr (fun j=>arr.getD j undef) (by rw[h.1];simp) (fun j c hc=>?_) (fun j c hc=>?_)
 ·obtain⟨v,hv,_⟩:=h.2 j c hc;have nN:arr[j]?=some v:=by simpa using hv
  simp[nN]
 obtain⟨v,hv,hr⟩:=h.2 j c hc;have nN:arr[j]?=some v:=by simpa using hv
 simpa[nN]using hr
theorem PW.mq {cs:List AV}{v:Value}(h:aL rd φ (.agg cs) v):∃arr,v=.agg arr∧PW rd φ cs arr.toList:=by
 cases h with
 | agg _ arr f hs hg hv=>exact⟨arr,rfl,by simp[hs],fun j c hc=>⟨f j,by simpa using hg j c hc,hv j c hc⟩⟩
theorem PW.tE {cs:List AV}{v:Value}(h:aL rd φ (.ba cs) v):∃arr,v=.tuple arr∧PW rd φ cs arr.toList:=by
 cases h with
 | ba _ arr f hs hg hv=>exact⟨arr,rfl,by simp[hs],fun j c hc=>⟨f j,by simpa using hg j c hc,hv j c hc⟩⟩
theorem PW.kW (vs:List Value):PW rd φ (vs.map kW) vs:=
 ⟨by simp,fun j c hc=>by
  rw[List.getElem?_map]at hc;cases hv:vs[j]? with
  | none=>rw[hv]at hc;cases hc
  | some v=>rw[hv]at hc;cases hc;exact⟨v,rfl,WJ v⟩⟩
theorem NU (v:Value):aL rd φ (v8 v) v:=by
 unfold v8;split
 ·exact PW.agg (PW.kW _)
 ·exact PW.ba (PW.kW _)
 exact WJ _
def ji:AV→List AV
 | .agg cs=>cs
 | v=>[v]
theorem Ht {a:AV}{v:Value}(h:aL rd φ a v) (hc:(ji a).all nk=true):PW rd φ (ji a) v.cells.toList∧∀x∈v.cells.toList,x.oneCell'=true:=by
 have key:nk a=true→PW rd φ [a] v.cells.toList∧∀x∈v.cells.toList,x.oneCell'=true:=by
  intro hb;have h1:=h.one hb;have jf:v.cells=#[v]:=by cases v<;>first|rfl|(simp[Value.oneCell']at h1;done)
  rw[jf];refine⟨⟨rfl,fun j c hj=>?_⟩,fun x hx=>?_⟩
  ·cases j with
   | zero=>simp at hj;subst hj;exact⟨v,rfl,h⟩
   | succ j=>simp at hj
  simp at hx;subst hx;exact h1
 cases a with
 | agg cs=>
  obtain⟨arr,rfl,hp⟩:=PW.mq h;refine⟨hp,fun x hx=>?_⟩;replace hx:x∈arr.toList:=hx;obtain⟨j,hj⟩:=List.getElem?_of_mem hx;have iH:j<cs.length:=by
   rw[hp.1];rcases bm j arr.toList.length with h'|h'
   ·exact h'
   rw[List.getElem?_eq_none h']at hj;cases hj
  have GO:cs[j]?=some cs[j]:=bz iH;obtain⟨u,hu,hr⟩:=hp.2 j _ GO;rw[hj]at hu;cases hu;exact hr.one (List.all_eq_true.1 hc _ (dh GO))
 | dead=>simp[ji,nk]at hc
 | ba vs=>simp[ji,nk]at hc
 | it r=>simp[ji,nk]at hc
 | _=>exact key rfl
theorem PW.drop {cs:List AV}{vs:List Value}(h:PW rd φ cs vs) (n:Nat):PW rd φ (cs.drop n) (vs.drop n):=
 ⟨by simp[h.1],fun j c hc=>by rw[List.getElem?_drop]at hc ⊢;exact h.2 _ _ hc⟩
theorem PW.take {cs:List AV}{vs:List Value}(h:PW rd φ cs vs) (n:Nat):PW rd φ (cs.take n) (vs.take n):=
 ⟨by simp[h.1],fun j c hc=>by
  rw[List.getElem?_take]at hc ⊢;split at hc
  ·rw[if_pos ‹_›];exact h.2 _ _ hc
  cases hc⟩
theorem PW.append {cs ds:List AV}{vs us:List Value}(h:PW rd φ cs vs) (k:PW rd φ ds us):PW rd φ (cs++ds) (vs++us):=
 ⟨by simp[h.1,k.1],fun j c hc=>by
  rw[List.getElem?_append]at hc ⊢;rw[←h.1];split at hc
  ·rw[if_pos ‹_›];exact h.2 _ _ hc
  rw[if_neg ‹_›];exact k.2 _ _ hc⟩
theorem PW.nil:PW rd φ [] []:=⟨rfl,fun j c h=>by simp at h⟩
end
def sj (i:TI) (cs:List AV) (o:Nat):Option AV:=
 match i.ag with
 | true=>match Nat.ble (o+i.sz) cs.length with
  | true=>some (.agg ((cs.drop o).take i.sz))
  | false=>none
 | false=>cs[o]?
def I2 (i:TI) (cs:List AV) (o:Nat) (v:AV):Option (List AV):=
 match (ji v).all nk,Nat.beq (ji v).length i.sz,Nat.ble (o+i.sz) cs.length with
 | true,true,true=>some (cs.take o++ji v++cs.drop (o+i.sz))
 | _,_,_=>none
def D8 (P:Program) (d G:Nat) (σ:aj) (t:Nat):Option (AV × aj):=
 (ti P t).bind fun i=>i.zero.bind fun z=>match Nat.beq z.length i.sz with
  | true=>some (.ptr d G [] i.sz 0 0,bQ σ d (G,one ⟨i.sz,[z],0,false⟩))
  | false=>none
def D6 (P:Program) (d G:Nat) (σ:aj) (t:Nat) (v:AV):Option (AV × aj):=
 (ti P t).bind fun i=>match (ji v).all nk,Nat.beq (ji v).length i.sz with
  | true,true=>some (.ptr d G [] i.sz 0 0,bQ σ d (G,one ⟨i.sz,[ji v],0,false⟩))
  | _,_=>none
def yJ (P:Program) (σ:aj) (t:Nat) (a:AV):Option AV:=
 (ti P t).bind fun i=>match a with
  | .ptr r g p sz k o=>(rowAt σ r g p).bind fun row=>match Nat.beq sz row.sz with
   | true=>(row.es[k]?).bind fun cs=>sj i cs o
   | false=>none
  | .rp cs=>sj i cs 0
  | _=>none
def sub (off len:Nat) (es:List (List AV)):List (List AV):=(es.drop off).take len
def kQ {α:Type} (a b:Nat) (x:Option α):Option α:=match Nat.ble a b with
 | true=>x
 | false=>none
def rk (σ:aj):AV→Option (aj × AV)
 | .au r g p sz off len=>(bI σ r).bind fun gf=>match Nat.beq gf.1 g with
  | true=>(gf.2 p).bind fun row=>match Nat.beq sz row.sz,Nat.ble 1 row.fl with
   | true,true=>kQ (off+len) row.es.length (match row.ao with
    | true=>some (σ,.ro sz (sub off len row.es))
    | false=>some (bQ σ r (g,dB gf.2 p ⟨row.sz,row.es,row.fl,true⟩),.ro sz (sub off len row.es)))
   | _,_=>none
  | false=>none
 | .ptr ..|.dead|.agg _|.ba _|.rp _|.it _|.mr ..=>none
 | v=>some (σ,v)
def C8 (σ:aj):List AV→Option (aj × List AV)
 | []=>some (σ,[])
 | c::cs=>(rk σ c).bind fun x=>(C8 x.1 cs).map fun y=>(y.1,x.2::y.2)
def ic (σ:aj):AV→Option (aj × AV)
 | .agg cs=>(C8 σ cs).map fun x=>(x.1,.agg x.2)
 | v=>rk σ v
def oP (σ:aj):List AV→Option (aj × List AV)
 | []=>some (σ,[])
 | c::cs=>(ic σ c).bind fun x=>(oP x.1 cs).map fun y=>(y.1,x.2::y.2)
def isVar (σ:aj) (r g:Nat) (p:List Nat):Bool:=match rowAt σ r g p with
 | some row=>Nat.beq row.fl 0
 | none=>true
def Bl (i:TI) (σ:aj) (r g:Nat) (p:List Nat) (sz k o:Nat) (v:AV):Option aj:=
 (bI σ r).bind fun gf=>match Nat.beq gf.1 g with
  | true=>(gf.2 p).bind fun row=>match Nat.beq sz row.sz,row.ao with
   | true,false=>(row.es[k]?).bind fun cs=>(I2 i cs o v).bind fun aO=>some (bQ σ r (g,dB gf.2 p ⟨row.sz,row.es.set k aO,min row.fl (iz (ji v)),false⟩))
   | _,_=>none
  | false=>none
def AH (P:Program) (σ:aj) (t:Nat) (a v:AV):Option aj:=
 (ti P t).bind fun i=>match a with
  | .ptr r g p sz k o=>match isVar σ r g p with
   | true=>Bl i σ r g p sz k o v
   | false=>(ic σ v).bind fun x=>Bl i x.1 r g p sz k o x.2
  | _=>none
def D2 (P:Program) (t:Nat) (a:AV) (f:Nat):Option AV:=
 (ti P t).bind fun i=>match i.k with
  | .struct=>(i.Dc[f]?).bind fun of=>match Nat.beq of.2 0 with
   | true=>none
   | false=>match a with
    | .ptr r g p sz k o=>some (.ptr r g p sz k (o+of.1))
    | .rp cs=>some (.rp (cs.drop of.1))
    | _=>none
  | _=>none
section
variable {P:Program}{rd:RD}{φ:b9}{O:Nat→Prop}{w0 w:World}{σ:aj}{d G:Nat}
def tl (rd:RD) (φ:b9) (O:Nat→Prop) (w0:World) (d G:Nat) (σ':aj) (v:AV) (r:Result Value):Prop:=
 ∃cv w' φ',r=.ok cv w'∧bp rd φ' O w0 σ' w'∧aL rd φ' v cv∧(∀r g p pl,φ r g p=some pl→φ' r g p=some pl)∧(∀r g p,φ' r g p≠none→φ r g p≠none∨(r=d∧g=G))
def kE (rd:RD) (φ:b9) (O:Nat→Prop) (w0:World) (σ':aj) (v:AV) (r:Result Value):Prop:=∃cv w',r=.ok cv w'∧bp rd φ O w0 σ' w'∧aL rd φ v cv
theorem kE.same {σ:aj}(h:bp rd φ O w0 σ w) {v:AV}{cv:Value}{r:Result Value}(hr:r=.ok cv w) (hv:aL rd φ v cv):kE rd φ O w0 σ v r:=⟨cv,w,hr,h,hv⟩
theorem rV {φ:b9}{d G:Nat}{ψ:List Nat→Option Pl}(r g:Nat) (p:List Nat) (h:dz φ d G ψ r g p≠none):φ r g p≠none∨(r=d∧g=G):=by
 unfold dz at h;split at h
 ·exact .inr ‹_›
 exact .inl h
theorem Wu (h:bp rd φ O w0 σ w) (dJ:∀p,φ d G p=none) {cs:List AV}{arr:Array Value}(hp:PW rd φ cs arr.toList) (T:TypeId) (sz:Nat) (hs:cs.length=sz):
  tl rd φ O w0 d G (bQ σ d (G,one ⟨sz,[cs],0,false⟩)) (.ptr d G [] sz 0 0) (.ok (.pointer (some ⟨w.heap.size,0,none⟩)) (w.alloc (.cells arr T))):=by
 have hn:=h.newRow dJ ⟨sz,[cs],0,false⟩ rfl (by show(0:Nat)<3;decide) 1 arr T (0,0) (.inr (Nat.le_refl _)) (by simp[hs]) (by simp) (by have:=hp.1;simp at this;simp;omega)
  (fun e he=>⟨fun h=>absurd h (by simp),fun h=>absurd h (by simp)⟩)
  (fun i j c hc=>by
   cases i with
   | zero=>
    simp only[List.getElem?_cons_zero,Option.bind_some]at hc;obtain⟨v,hv,hr⟩:=hp.2 j c hc;exact⟨v,by simpa using hv,hr⟩
   | succ i=>simp at hc)
 refine⟨_,_,_,rfl,hn.1,?_,hn.2,fun r g p hh=>rV r g p hh⟩;have:=aL.ptr (rd:=rd) (φ:=dz φ d G fun p=>match p with|[]=>some ⟨some (w.heap.size,0),1⟩|_=>none) d G [] sz 0 0 ⟨some (w.heap.size,0),1⟩ w.heap.size 0 (by simp[dz]) rfl;simp only[Nat.zero_mul,Nat.add_zero]at this;exact this
theorem ahL (h:bp rd φ O w0 σ w) (dJ:∀p,φ d G p=none) {t:Nat}{v:AV}{σ':aj}(ha:D8 P d G σ t=some (v,σ')) (i4:Value):
  tl rd φ O w0 d G σ' v ((Instr.alloc t true i4).run P w):=by
 unfold D8 at ha;obtain⟨i,hi,ha⟩:=cw ha;obtain⟨z,hz,ha⟩:=cw ha;split at ha
 ·cases ha;obtain⟨inf,dj,h1,h2,h3,h4,h5,h6,-⟩:=o6 hi
  rw[h6]at hz;obtain⟨zv,sm,rfl⟩:=cJ hz;have hl:=Nat.eq_of_beq_eq_true ‹Nat.beq _ _=true›;have eG:(Instr.alloc t true i4).run P w=.ok (.pointer (some ⟨w.heap.size,0,none⟩)) (w.alloc (.cells zv.cells t)):=by
   simp[Instr.alloc,zeroValue,typeInfo,h1,sm,newVar,newRow]
  rw[eG];exact Wu h dJ (PW.kW _) t _ hl
 cases ha
theorem ahg (h:bp rd φ O w0 σ w) (dJ:∀p,φ d G p=none) {t:Nat}{x v:AV}{cx:Value}(hx:aL rd φ x cx) {σ':aj}(ha:D6 P d G σ t x=some (v,σ')):
  tl rd φ O w0 d G σ' v ((Instr.box t cx).run P w):=by
 unfold D6 at ha;obtain⟨i,hi,ha⟩:=cw ha;split at ha
 ·cases ha;have hl:=Nat.eq_of_beq_eq_true ‹Nat.beq _ _=true›
  have eG:(Instr.box t cx).run P w=.ok (.pointer (some ⟨w.heap.size,0,none⟩)) (w.alloc (.cells cx.cells t)):=by
   simp[Instr.box,newVar,newRow]
  rw[eG];exact Wu h dJ (Ht hx ‹_›).1 t _ hl
 cases ha
theorem Pv (h:bp rd φ O w0 σ w) {r g:Nat}{p:List Nat}{row:Row}(hr:rowAt σ r g p=some row) {k:Nat}{cs:List AV}(hk:row.es[k]?=some cs):
  ∃pl,φ r g p=some pl∧ma rd φ w pl row∧cs.length=row.sz∧k<pl.cap∧∀b q,pl.ad=some (b,q)→∀j c,cs[j]?=some c→∃v,w.cell? (cI b (q+k * row.sz+j))=some v∧aL rd φ c v:=by
 obtain⟨pl,hp,aF⟩:=h.rows _ _ _ _ hr;have ab:k<row.es.length:=by
  rcases bm k row.es.length with hx|hx
  ·exact hx
  rw[List.getElem?_eq_none hx]at hk;cases hk
 exact⟨pl,hp,aF,aF.wide cs (dh hk),Nat.lt_of_lt_of_le ab aF.len,fun b q aK j c hc=>aF.cells b q aK k j c (by rw[hk];exact hc)⟩
theorem acp (dj:TypeDesc):dj.isRow=zN dj:=by cases dj<;>rfl
theorem Kt {t:Nat}{i:TI}(hi:ti P t=some i) {cs:List AV}{b q:Nat}(hc:∀j c,cs[j]?=some c→∃v,w.cell? (cI b (q+j))=some v∧aL rd φ c v) {o:Nat}{v:AV}(hl:sj i cs o=some v):
  ∃cv,(Instr.loadAt t (.pointer (some (cI b (q+o))))).run P w=.ok cv w∧aL rd φ v cv:=by
 obtain⟨inf,dj,h1,h2,h3,h4,h5,-⟩:=o6 hi;unfold sj at hl;split at hl
 ·rename_i l5;split at hl
  ·rename_i hle;cases hl;have hle:=Nat.le_of_ble_eq_true hle;have gh:∀j,j<i.sz→∃c v,cs[o+j]?=some c∧w.cell? (cI b (q+o+j))=some v∧aL rd φ c v:=by
    intro j hj;have ab:o+j<cs.length:=by omega
    obtain⟨v,hv,hr⟩:=hc (o+j) _ (bz ab);exact⟨_,v,bz ab,by rw[Nat.add_assoc];exact hv,hr⟩
   let vs:List Value:=(List.range i.sz).map fun j=>(w.cell? (cI b (q+o+j))).getD undef
   have po:∀j v,vs[j]?=some v→w.cell? ⟨b,q+o+j,none⟩=some v:=by
    intro j v hj;simp only[vs,List.getElem?_map]at hj;obtain⟨j',iH,ql⟩:=cJ hj;have GB:j<i.sz∧j'=j:=by
     rcases bm j i.sz with hx|hx
     ·rw[List.getElem?_range hx]at iH;cases iH;exact⟨hx,rfl⟩
     rw[List.getElem?_eq_none (by simpa using hx)]at iH;cases iH
    obtain⟨GA,rfl⟩:=GB;obtain⟨c,u,_,hu,_⟩:=gh j' GA;rw[hu]at ql;simp at ql;rw[←ql];exact hu
   refine⟨.agg vs.toArray,run_loadAt_mid w b (q+o) t vs dj po h2 (by rw[acp,←h5,l5]) (by rw[h1];simp[vs,h3]),PW.agg ⟨?_,?_⟩⟩
   ·simp[vs];omega
   intro j c hj;rw[List.getElem?_take]at hj;split at hj
   ·rename_i GA;rw[List.getElem?_drop]at hj;obtain⟨c',u,sF,hu,hr⟩:=gh j GA;rw[hj]at sF;cases sF;refine⟨u,?_,hr⟩;simp only[vs,List.getElem?_map];rw[List.getElem?_range GA];simp[hu]
   cases hj
  cases hl
 rename_i l5;obtain⟨u,hu,hr⟩:=hc o v hl;refine⟨u,?_,hr⟩;have GS:(isAgg t).run P w=.ok false w:=by
  unfold isAgg;rw[Sem.run_bind,run_underlying h2 w];have:zN dj=false:=by rw[←h5,l5]
  cases dj<;>simp_all[zN]
 simp[Instr.loadAt,Instr.sureAddr,loadVar,GS,hu]
theorem RQ (h:bp rd φ O w0 σ w) {t:Nat}{x v:AV}{cx:Value}(hx:aL rd φ x cx) (ha:yJ P σ t x=some v):
  ∃cv,(Instr.loadAt t cx).run P w=.ok cv w∧aL rd φ v cv:=by
 unfold yJ at ha;obtain⟨i,hi,cN⟩:=cw ha;clear ha;cases hx with
 | ptr r g p sz k o pl b q hφ aK=>
  simp only at cN;obtain⟨row,fo,cA⟩:=cw cN;clear cN;split at cA
  ·rename_i dg;obtain⟨cs,hQ,fZ⟩:=cw cA;have dg:=Nat.eq_of_beq_eq_true dg;subst dg;obtain⟨cV,je,aF,hlen,hk,iR⟩:=Pv h fo hQ;rw[hφ]at je;cases je;obtain⟨cv,h1,h2⟩:=Kt (P:=P) (w:=w) (rd:=rd) (φ:=φ) hi (b:=b) (q:=q+k * row.sz) (iR b q aK) fZ;exact⟨cv,h1,h2⟩
  cases cA
 | rp cs b q f hs hr hv=>
  simp only at cN;obtain⟨cv,h1,h2⟩:=Kt (P:=P) (w:=w) (rd:=rd) (φ:=φ) hi (b:=b) (q:=q) (fun j c hj=>⟨f j,h.eh _ _ _ (hr j c hj),hv j c hj⟩) cN;exact⟨cv,by simpa using h1,h2⟩
 | _=>simp at cN
theorem abJ (h:bp rd φ O w0 σ w) {t:Nat}{x v:AV}{cx:Value}(hx:aL rd φ x cx) (ha:yJ P σ t x=some v):
  kE rd φ O w0 σ v ((Instr.loadAt t cx).run P w):=by
 obtain⟨cv,h1,h2⟩:=RQ h hx ha;exact .same h h1 h2
theorem O4 (h:bp rd φ O w0 σ w) {t:Nat}{i:TI}(hi:ti P t=some i) {r g:Nat}{p:List Nat}{sz k o:Nat}{y:AV}{cx cy:Value}(hx:aL rd φ (.ptr r g p sz k o) cx) (hy:aL rd φ y cy)
  {σ':aj} (cN:Bl i σ r g p sz k o y=some σ'):
  ∃w',(Instr.storeAt t cx cy).run P w=.ok () w'∧bp rd φ O w0 σ' w':=by
 unfold Bl at cN;cases hx with
 | ptr _ _ _ _ _ _ pl b q hφ aK=>
  obtain⟨⟨g',f⟩,hl,cA⟩:=cw cN;clear cN;split at cA
  ·rename_i hg;have hg:=Nat.eq_of_beq_eq_true hg;simp only at hg;subst hg;obtain⟨row,fo,fZ⟩:=cw cA;clear cA;split at fZ
   ·rename_i dg Gu;have dg:=Nat.eq_of_beq_eq_true dg;subst dg;obtain⟨cs,hQ,oK⟩:=cw fZ;obtain⟨aO,aE,nX⟩:=cw oK;have nX:=Option.some.inj nX;subst nX;clear fZ oK;unfold I2 at aE;split at aE
    ·rename_i lK j5 yf;cases aE;have j5:=Nat.eq_of_beq_eq_true j5;have yf:=Nat.le_of_ble_eq_true yf;obtain⟨tW,KX⟩:=Ht hy lK;have Cn:f p=some row:=fo;have cj:rowAt σ r g' p=some row:=by unfold rowAt;rw[hl];simp[Cn]
     obtain⟨cV,je,aF,hlen,hk,iR⟩:=Pv h cj hQ;rw[hφ]at je;cases je;obtain⟨inf,dj,h1,h2,h3,h4,h5,-⟩:=o6 hi;have jf:cy.cells.toList.length=i.sz:=by rw[←tW.1];exact j5
     have cc:∀j,j<i.sz→k * row.sz+o+j<pl.cap * row.sz:=by
      intro j hj;have e1:(k+1) * row.sz≤pl.cap * row.sz:=Nat.mul_le_mul_right _ hk;have e2:(k+1) * row.sz=k * row.sz+row.sz:=Nat.succ_mul _ _;omega
     have Sq:w.there b (q+k * row.sz+o) cy.cells.size:=by
      intro j hj;have iH:j<i.sz:=by rw[←jf];simpa using hj
      have:=aF.room b q aK _ (cc j iH)
      rwa[show q+(k * row.sz+o+j)=q+k * row.sz+o+j by omega]at this
     have eG:(Instr.storeAt t (.pointer (some (cI b (q+k * row.sz+o)))) cy).run P w=.ok () (w.setCells b (q+k * row.sz+o) cy.cells.toList):=by
      have e:=run_storeCells_cells (P:=P) b (q+k * row.sz+o) cy.cells.toList 0 w (fun j hj=>by simpa using (Sq j (by simpa using hj)).1) (fun j hj=>by simpa using (Sq j (by simpa using hj)).2) KX;have hs:cy.cells.size=inf.size:=by rw[←h3,←jf];simp
      simp only[Nat.add_zero]at e;simp[Instr.storeAt,Instr.sureAddr,storeVar,sizeOf,typeInfo,h1,hs,e]
     refine⟨_,eG,?_⟩;have acZ:k<row.es.length:=by
      rcases bm k row.es.length with hx|hx
      ·exact hx
      rw[List.getElem?_eq_none hx]at hQ;cases hQ
     refine h.store hl fo hφ aK Gu ⟨row.sz,row.es.set k (cs.take o++ji y++cs.drop (o+i.sz)),min row.fl (iz (ji y)),false⟩ rfl (Nat.lt_of_le_of_lt (Nat.min_le_right _ _) (L1 _)) rfl ?_ ?_ ?_ (q+k * row.sz+o) cy.cells.toList ?_
     ·intro e he;rcases List.mem_or_eq_of_mem_set he with he|rfl
      ·exact aF.wide e he
      simp[j5,←hlen];omega
     ·simpa using aF.len
     ·intro e he;rcases List.mem_or_eq_of_mem_set he with he|rfl
      ·exact(aF.kind e he).le (Nat.min_le_left _ _)
      refine iB.min (aF.kind cs (dh hQ)) (iB.BO (ji y)) (fun c hm=>?_);rw[List.mem_append,List.mem_append]at hm;rcases hm with (hm|hm)|hm
      ·exact .inl (List.mem_of_mem_take hm)
      ·exact .inr hm
      exact .inl (List.mem_of_mem_drop hm)
     intro i2 j2 c hc;rw[jf];by_cases Lb:k=i2
     ·subst Lb;rw[List.getElem?_set_self acZ,Option.bind_some]at hc;have ql:j2<row.sz:=by
       have:j2<(cs.take o++ji y++cs.drop (o+i.sz)).length:=by
        rcases bm j2 (cs.take o++ji y++cs.drop (o+i.sz)).length with hx|hx
        ·exact hx
        rw[List.getElem?_eq_none hx]at hc;cases hc
       simp[j5]at this;omega
      by_cases aiu:o≤j2∧j2<o+i.sz
      ·rw[if_pos (by omega)];rw[List.append_assoc,List.getElem?_append_right (by simp;omega),List.getElem?_append_left (by simp[j5];omega)]at hc;obtain⟨v,hv,hr⟩:=tW.2 _ c hc;refine⟨v,?_,hr⟩;rw[←hv];congr 1;simp;omega
      rw[if_neg (by omega)];have GO:cs[j2]?=some c:=by
       rcases bm j2 o with hx|hx
       ·rw[List.append_assoc,List.getElem?_append_left (by simp;omega),List.getElem?_take,if_pos hx]at hc;exact hc
       rw[List.getElem?_append_right (by simp[j5];omega),List.getElem?_drop]at hc;rw[←hc];congr 1;simp[j5];omega
      exact iR b q aK j2 c GO
     rw[List.getElem?_set_ne Lb]at hc;have kv:j2<row.sz:=by
      cases he:row.es[i2]? with
      | none=>simp[he]at hc
      | some e=>
       simp only[he,Option.bind_some]at hc;rw[←aF.wide e (dh he)];rcases bm j2 e.length with hx|hx
       ·exact hx
       rw[List.getElem?_eq_none hx]at hc;cases hc
     rw[if_neg]
     ·exact aF.cells b q aK i2 j2 c hc
     rintro⟨e1,e2⟩;rcases Nat.lt_or_gt_of_ne Lb with hx|hx
     ·have:(k+1) * row.sz≤i2 * row.sz:=Nat.mul_le_mul_right _ hx;rw[Nat.succ_mul]at this;omega
     have:(i2+1) * row.sz≤k * row.sz:=Nat.mul_le_mul_right _ hx;rw[Nat.succ_mul]at this;omega
    cases aE
   cases fZ
  cases cA
theorem PA {pl:Pl}{row:Row}(aF:ma rd φ w pl row) (m9:∀b o v,rd b o=some v→w.cell? (cI b o)=some v) (j6:row.ao=true) {off len:Nat}{A:Option Addr}
  (hA:pl.cap - off=0∨A=pl.ad.map fun x=>cI x.1 (x.2+off * row.sz)) (hlen:len≤pl.cap - off) (h3:off+len≤row.es.length) (φ':b9):
  aL rd φ' (.ro row.sz (sub off len row.es)) (.slice A len (pl.cap - off)):=by
 have jf:∀(i j:Nat) (c:AV),(((row.es.drop off).take len)[i]?).bind (·[j]?)=some c→i<len∧(row.es[off+i]?).bind (·[j]?)=some c:=by
  intro i j c hc;rw[List.getElem?_take]at hc;split at hc
  ·rw[List.getElem?_drop]at hc;exact⟨‹_›,hc⟩
  cases hc
 have dW:((row.es.drop off).take len).length=len:=by simp;omega
 obtain⟨h2,gz⟩:=aF.ic j6;have xP:∀(i j:Nat) (c:AV),(row.es[i]?).bind (·[j]?)=some c→gE c=true∧i * row.sz+j<row.es.length * row.sz:=by
  intro i j c hc;cases he:row.es[i]? with
  | none=>rw[he]at hc;cases hc
  | some e=>
   rw[he]at hc;have hm:=dh he;refine⟨(aF.kind e hm).1 h2 c (dh hc),?_⟩;have hi:i<row.es.length:=by
    rcases bm i row.es.length with hx|hx
    ·exact hx
    rw[List.getElem?_eq_none hx]at he;cases he
   have hj:j<row.sz:=by
    rw[←aF.wide e hm];rw[Option.bind_some]at hc;rcases bm j e.length with hx|hx
    ·exact hx
    rw[List.getElem?_eq_none hx]at hc;cases hc
   have e1:(i+1) * row.sz≤row.es.length * row.sz:=Nat.mul_le_mul_right _ hi;have e2:(i+1) * row.sz=i * row.sz+row.sz:=Nat.succ_mul _ _;omega
 unfold sub;by_cases hz:len=0
 ·subst hz;simp only[List.take_zero];exact .ir _ _ _
 have rb:pl.cap - off≠0:=by omega
 rcases hA with hA|hA
 ·exact absurd hA rb
 cases aK:pl.ad with
 | none=>exact absurd (aF.nil aK) (by omega)
 | some bq=>
  obtain⟨b,q⟩:=bq;rw[aK]at hA;simp only[Option.map_some]at hA;subst hA;have:=aL.ro (rd:=rd) (φ:=φ') row.sz ((row.es.drop off).take len) b (q+off * row.sz) (pl.cap - off)
   (fun i j=>(w.cell? (cI b (q+off * row.sz+i * row.sz+j))).getD undef) (by rw[dW];exact hlen)
   (fun i j c hc=>by
    obtain⟨hi,hc⟩:=jf i j c hc;exact(xP _ _ _ hc).1)
   (fun i j c hc=>by
    obtain⟨hi,hc⟩:=jf i j c hc;obtain⟨v,hv,_⟩:=aF.cells b q aK _ _ _ hc;have hf:=gz b q aK _ (xP _ _ _ hc).2;have e:q+(off+i) * row.sz+j=q+off * row.sz+i * row.sz+j:=by rw[Nat.add_mul];omega
    rw[←Nat.add_assoc,e]at hf;rw[e]at hv;rw[hf,hv];rfl)
   (fun i j c hc=>by
    obtain⟨hi,hc⟩:=jf i j c hc;obtain⟨v,hv,hr⟩:=aF.cells b q aK _ _ _ hc;have e:q+(off+i) * row.sz+j=q+off * row.sz+i * row.sz+j:=by rw[Nat.add_mul];omega
    rw[e]at hv;simp only[hv,Option.getD_some];have hs:=(xP _ _ _ hc).1;exact hr.lT (by cases c<;>first|rfl|cases hs))
  rw[dW]at this;exact this
def rJ (rd:RD) (φ:b9) (O:Nat→Prop) (w0 w:World) (σ':aj) (R:RD→Prop):Prop:=∃rd',Ext O w0 rd rd'∧bp rd' φ O w0 σ' w∧R rd'
theorem G1 (h:bp rd φ O w0 σ w) {c c':AV}{v:Value}{σ':aj}(hv:aL rd φ c v) (hf:rk σ c=some (σ',c')):
  rJ rd φ O w0 w σ' fun rd'=>(∀φ',aL rd' φ' c' v)∧gE c'=true:=by
 cases hv with
 | au r g p sz off len pl A hφ hA hlen=>
  simp only[rk]at hf;obtain⟨⟨g',f⟩,hl,hf⟩:=cw hf;simp only at hf;split at hf
  ·rename_i hg;have hg:=Nat.eq_of_beq_eq_true hg;subst hg;obtain⟨row,fo,hf⟩:=cw hf;split at hf
   ·rename_i h1 h2;have h1:=Nat.eq_of_beq_eq_true h1;have h2:=Nat.le_of_ble_eq_true h2;subst h1;unfold kQ at hf;split at hf
    ·rename_i h3;have h3:=Nat.le_of_ble_eq_true h3;have cj:rowAt σ r g' p=some row:=by unfold rowAt;rw[hl];simp[fo]
     split at hf
     ·rename_i j6;cases hf;obtain⟨cV,je,aF⟩:=h.rows _ _ _ _ cj;rw[hφ]at je;cases je;exact⟨rd,.refl,h,fun φ'=>PA aF h.eh j6 hA hlen h3 φ',rfl⟩
     cases hf;obtain⟨rd',hx,hh⟩:=h.freeze hl fo h2
     have ado:rowAt (bQ σ r (g',dB f p ⟨row.sz,row.es,row.fl,true⟩)) r g' p=some ⟨row.sz,row.es,row.fl,true⟩:=by rw[jy];simp[dB]
     obtain⟨cV,je,aF⟩:=hh.rows _ _ _ _ ado;rw[hφ]at je;cases je;exact⟨rd',hx,hh,fun φ'=>PA aF hh.eh rfl hA hlen h3 φ',rfl⟩
    cases hf
   cases hf
  cases hf
 | sc v h1=>cases hf;exact⟨rd,.refl,h,fun φ'=>.sc v h1,rfl⟩
 | aG=>cases hf;exact⟨rd,.refl,h,fun φ'=>.aG,rfl⟩
 | ir sz A cap=>cases hf;exact⟨rd,.refl,h,fun φ'=>.ir _ _ _,rfl⟩
 | ro sz es b q cap f hc hs hr hv=>
  cases hf;exact⟨rd,.refl,h,fun φ'=>(aL.ro (φ:=φ) sz es b q cap f hc hs hr hv).lT rfl,rfl⟩
 | _=>cases hf
theorem PW.cons {c:AV}{v:Value}{cs:List AV}{vs:List Value}(a:aL rd φ c v) (b:PW rd φ cs vs):PW rd φ (c::cs) (v::vs):=
 ⟨by simp[b.1],fun j c hc=>by
  cases j with
  | zero=>cases hc;exact⟨v,rfl,a⟩
  | succ j=>simpa using b.2 j c (by simpa using hc)⟩
theorem PW.kI {c:AV}{cs:List AV}{vs:List Value}(h:PW rd φ (c::cs) vs):∃v us,vs=v::us∧aL rd φ c v∧PW rd φ cs us:=by
 cases vs with
 | nil=>exact absurd h.1 (by simp)
 | cons v us=>
  obtain⟨v',nN,hr⟩:=h.2 0 c rfl;cases nN;exact⟨v,us,rfl,hr,by simpa using h.1,fun j c hc=>by simpa using h.2 (j+1) c (by simpa using hc)⟩
theorem PW.mono {rd':RD}{φ':b9}(h1:∀b o v,rd b o=some v→rd' b o=some v) (h2:∀r g p pl,φ r g p=some pl→φ' r g p=some pl) {cs:List AV}{vs:List Value}(h:PW rd φ cs vs):PW rd' φ' cs vs:=
 ⟨h.1,fun j c hc=>by obtain⟨v,hv,hr⟩:=h.2 j c hc;exact⟨v,hv,hr.mono h1 h2⟩⟩
theorem Tq:∀{cs aO:List AV}{vs:List Value}{rd:RD}{σ σ':aj},bp rd φ O w0 σ w→PW rd φ cs vs→C8 σ cs=some (σ',aO)→
  rJ rd φ O w0 w σ' fun rd'=>(∀φ',PW rd' φ' aO vs)∧∀c∈aO,gE c=true
 | [],aO,vs,rd,σ,σ',h,hp,hf=>by
  cases hf;have:vs=[]:=List.eq_nil_of_length_eq_zero hp.1.symm
  subst this;exact⟨rd,.refl,h,fun _=>PW.nil,fun c hc=>by simp at hc⟩
 | c::cs,aO,vs,rd,σ,σ',h,hp,hf=>by
  obtain⟨v,us,rfl,hr,hp⟩:=hp.kI;simp only[C8]at hf;obtain⟨⟨σ1,c1⟩,h1,hf⟩:=cw hf;obtain⟨⟨σ2,Mw⟩,h2,hf⟩:=cJ hf;cases hf;obtain⟨d9,x1,k1,v1,s1⟩:=G1 h hr h1;obtain⟨dO,x2,k2,v2,s2⟩:=Tq k1 (hp.mono x1.1 (fun _ _ _ _ h=>h)) h2;refine⟨dO,x1.trans x2,k2,fun φ'=>PW.cons ((v1 φ').mono x2.1 (fun _ _ _ _ h=>h)) (v2 φ'),fun c hc=>?_⟩;rcases List.mem_cons.1 hc with rfl|hc
  ·exact s1
  exact s2 c hc
theorem C1 (h:bp rd φ O w0 σ w) {c c':AV}{v:Value}{σ':aj}(hv:aL rd φ c v) (hf:ic σ c=some (σ',c')):
  rJ rd φ O w0 w σ' fun rd'=>∀φ',aL rd' φ' c' v:=by
 cases c with
 | agg cs=>
  obtain⟨arr,rfl,hp⟩:=PW.mq hv;obtain⟨⟨σ1,uo⟩,h1,hf⟩:=cJ hf;cases hf;obtain⟨d9,x1,k1,v1,_⟩:=Tq h hp h1;exact⟨d9,x1,k1,fun φ'=>PW.agg (v1 φ')⟩
 | _=>
  obtain⟨d9,x1,k1,v1,_⟩:=G1 h hv hf;exact⟨d9,x1,k1,v1⟩
theorem G4:∀{cs aO:List AV}{vs:List Value}{rd:RD}{σ σ':aj},bp rd φ O w0 σ w→PW rd φ cs vs→oP σ cs=some (σ',aO)→
  rJ rd φ O w0 w σ' fun rd'=>∀φ',PW rd' φ' aO vs
 | [],aO,vs,rd,σ,σ',h,hp,hf=>by
  cases hf;have:vs=[]:=List.eq_nil_of_length_eq_zero hp.1.symm
  subst this;exact⟨rd,.refl,h,fun _=>PW.nil⟩
 | c::cs,aO,vs,rd,σ,σ',h,hp,hf=>by
  obtain⟨v,us,rfl,hr,hp⟩:=hp.kI;simp only[oP]at hf;obtain⟨⟨σ1,c1⟩,h1,hf⟩:=cw hf;obtain⟨⟨σ2,Mw⟩,h2,hf⟩:=cJ hf;cases hf;obtain⟨d9,x1,k1,v1⟩:=C1 h hr h1;obtain⟨dO,x2,k2,v2⟩:=G4 k1 (hp.mono x1.1 (fun _ _ _ _ h=>h)) h2;exact⟨dO,x1.trans x2,k2,fun φ'=>PW.cons ((v1 φ').mono x2.1 (fun _ _ _ _ h=>h)) (v2 φ')⟩
theorem Yq (h:bp rd φ O w0 σ w) {t:Nat}{x y:AV}{cx cy:Value}(hx:aL rd φ x cx) (hy:aL rd φ y cy) {σ':aj}(ha:AH P σ t x y=some σ'):
  ∃w' rd',(Instr.storeAt t cx cy).run P w=.ok () w'∧Ext O w0 rd rd'∧bp rd' φ O w0 σ' w':=by
 unfold AH at ha;obtain⟨i,hi,cN⟩:=cw ha;cases x with
 | ptr r g p sz k o=>
  simp only at cN;split at cN
  ·obtain⟨w',h1,h2⟩:=O4 h hi hx hy cN;exact⟨w',rd,h1,.refl,h2⟩
  obtain⟨⟨σ1,y1⟩,hf,cA⟩:=cw cN;obtain⟨d9,x1,k1,v1⟩:=C1 h hy hf;obtain⟨w',h1,h2⟩:=O4 k1 hi (hx.mono x1.1 (fun _ _ _ _ h=>h)) (v1 φ) cA;exact⟨w',d9,h1,x1,h2⟩
 | _=>simp at cN
theorem aea (h:bp rd φ O w0 σ w) {t:Nat}{x v:AV}{cx:Value}(hx:aL rd φ x cx) {f:Nat}(ha:D2 P t x f=some v):
  kE rd φ O w0 σ v ((Instr.fieldAt t cx f).run P w):=by
 unfold D2 at ha;obtain⟨i,hi,ha⟩:=cw ha;obtain⟨inf,dj,h1,h2,h3,h4,h5,h6,h7,h8,h9,Ab⟩:=o6 hi;split at ha
 ·rename_i hk;obtain⟨of,Gs,ha⟩:=cw ha;rw[Ab]at hk;cases dj with
  | struct fs=>
   rw[h7]at Gs;simp only[List.getElem?_map]at Gs;obtain⟨fl,fA,rfl⟩:=cJ Gs;have Lj:fs[f]?=some fl:=by simpa using fA
   have acJ:∀(a:Addr),P.cellsOf fl.type≠0→(fieldPlace a fl).run P w=.ok (a.add fl.offset) w:=by
    intro a bO;unfold Program.cellsOf at bO;cases hq:P.info? fl.type with
    | none=>simp[hq]at bO
    | some z=>
     have hz:z.size≠0:=by simpa[hq]using bO
     simp[fieldPlace,sizeOf,typeInfo,hq,hz]
   split at ha
   ·cases ha
   rename_i hz;have bO:P.cellsOf fl.type≠0:=fun e=>by simp[e]at hz
   have eG:∀a:Addr,(Instr.fieldAt t (.pointer (some a)) f).run P w=.ok (.pointer (some (a.add fl.offset))) w:=by
    intro a;simp[Instr.fieldAt,run_underlying h2 w,Lj,Instr.sureAddr,acJ a bO]
   cases hx with
   | ptr r g p sz k o pl b q hφ aK=>
    have ha:=Option.some.inj ha;subst ha;refine .same h (eG _) ?_;rw[p7];have:=aL.ptr (rd:=rd) (φ:=φ) r g p sz k (o+fl.offset) pl b q hφ aK
    rwa[show q+k * sz+o+fl.offset=q+k * sz+(o+fl.offset) by omega]
   | rp cs b q f' hs hr hv=>
    have ha:=Option.some.inj ha;subst ha;refine .same h (eG _) ?_;rw[p7];exact .rp _ _ _ (fun j=>f' (fl.offset+j)) (fun j c hc=>by rw[List.getElem?_drop]at hc;exact hs _ _ hc) (fun j c hc=>by rw[List.getElem?_drop]at hc;rw[Nat.add_assoc];exact hr _ _ hc)
     (fun j c hc=>by rw[List.getElem?_drop]at hc;exact hv _ _ hc)
   | _=>simp at ha
  | _=>simp[kP]at hk
 cases ha
end
end
section
open Go Go.RowKit
set_option linter.unusedVariables false
def Ai (F:TypeId→Option (List TK)) (P:Program) (off:Nat):List Field→Option (List TK)
 | []=>some []
 | f::fs=>match F f.type with
  | some ks=>if f.name≠ "_" ∧f.offset=off∧P.cellsOf f.type=ks.length then(Ai F P (off+ks.length) fs).map (ks++·) else none
  | none=>none
def qy (P:Program):Nat→TypeId→Option (List TK)
 | 0,_=>none
 | d+1,t=>match P.underlying t with
  | some .bool=>some [.bool]
  | some (.int k)=>some [.int k]
  | some .string=>some [.string]
  | some (.struct fs)=>if P.stoodInHeld t=false then Ai (qy P d) P 0 fs.toList else none
  | _=>none
def oI:TK→Value→Value→Option Bool
 | .bool,.bool x,.bool y=>some (x==y)
 | .string,.string x,.string y=>some (x.toList==y.toList)
 | .int _,.int k x,.int k' y=>if k=k' then some (x==y) else none
 | _,_,_=>none
def ni:List TK→List Value→List Value→Option Bool
 | [],[],[]=>some true
 | k::ks,x::xs,y::ys=>(oI k x y).bind fun r=>(ni ks xs ys).map (r&&·)
 | _,_,_=>none
theorem Mc:∀{ks F7:List TK}{xs Ej ys Ei:List Value}{a:Bool},xs.length=ks.length→ys.length=ks.length→ni (ks++F7) (xs++Ej) (ys++Ei)=some a→∃b c,ni ks xs ys=some b∧ni F7 Ej Ei=some c∧a=(b&&c)
 | [],F7,[],Ej,[],Ei,a,_,_,h=>⟨true,a,rfl,h,by simp⟩
 | k::ks,F7,x::xs,Ej,y::ys,Ei,a,h1,h2,h=>by
  have h1:xs.length=ks.length:=by simpa using h1
  have h2:ys.length=ks.length:=by simpa using h2
  simp only[List.cons_append,ni]at h ⊢;obtain⟨r,hr,h⟩:=cw h;obtain⟨q,hq,rfl⟩:=cJ h;obtain⟨b,c,e1,e2,rfl⟩:=Mc h1 h2 hq;exact⟨r&&b,c,by rw[hr,e1];rfl,e2,by rw[Bool.and_assoc]⟩
 | [],_,_::_,_,_,_,_,h,_,_=>by simp at h
 | [],_,[],_,_::_,_,_,_,h,_=>by simp at h
 | _::_,_,[],_,_,_,_,h,_,_=>by simp at h
 | _::_,_,_::_,_,[],_,_,_,h,_=>by simp at h
theorem He:∀{ks:List TK}{xs ys:List Value}{a:Bool},ni ks xs ys=some a→xs.length=ks.length∧ys.length=ks.length
 | [],[],[],_,_=>⟨rfl,rfl⟩
 | k::ks,x::xs,y::ys,a,h=>by
  simp only[ni]at h;obtain⟨r,hr,h⟩:=cw h;obtain⟨q,hq,rfl⟩:=cJ h;have:=He hq;simp[this.1,this.2]
 | [],_::_,_,_,h=>by cases h
 | [],[],_::_,_,h=>by cases h
 | _::_,[],_,_,h=>by cases h
 | _::_,_::_,[],_,h=>by cases h
theorem Mb {k:TK}{xs ys:List Value}{r:Bool}(h:ni [k] xs ys=some r):∃x y,xs=[x]∧ys=[y]∧oI k x y=some r:=by
 have hl:=He h
 match xs,ys,hl with
 | [x],[y],_=>
  simp only[ni]at h;obtain⟨q,hq,h⟩:=cw h;simp at h;exact⟨x,y,rfl,rfl,by rw[hq,h]⟩
def tF (P:Program) (t:TypeId) (xs:List Value):Value:=match P.underlying t with
 | some (.struct _)=>.agg xs.toArray
 | _=>xs.headD undef
theorem JB {P:Program}{w:World}{d:Nat}{t:TypeId}{ks:List TK}(h:qy P d t=some ks) (hc:P.cellsOf t=ks.length) {pre xs post:List Value}(hl:xs.length=ks.length):(part t (pre++xs++post).toArray pre.length).run P w=.ok (tF P t xs) w:=by
 cases d with
 | zero=>cases h
 | succ d=>
  unfold qy at h;unfold tF;cases hu:P.underlying t with
  | none=>rw[hu]at h;cases h
  | some dj=>
   rw[hu]at h;have one:ks.length=1→(part t (pre++xs++post).toArray pre.length).run P w=.ok (xs.headD undef) w∨dj.isRow=true:=by
    intro h1;by_cases hr:dj.isRow=true
    ·exact .inr hr
    refine .inl ?_
    match xs,hl.trans h1 with
    | [x],_=>
     cases dj<;>simp_all[part,isAgg,run_underlying hu,TypeDesc.isRow]
   cases dj<;>simp only at h<;>first
    | (cases h;done)
    | (cases h;exact(one rfl).resolve_right (by simp[TypeDesc.isRow]))
    | skip
   obtain⟨i,hi⟩:=info_of_underlying hu;have he:(pre++xs++post).toArray.extract pre.length (pre.length+P.cellsOf t)=xs.toArray:=by
    rw[←Array.toList_inj,Array.toList_extract,hc,←hl];simp[List.extract]
   simp[part,isAgg,run_underlying hu,run_sizeOf w hi]
   simpa using he
def WY (P:Program) (d:Nat) (t:TypeId) (ks:List TK):Prop:=∀(D:Nat),d≤D→∀(w:World) (xs ys:List Value) (r:Bool),ni ks xs ys=some r→(Op.equalIn D t (tF P t xs) (tF P t ys)).run P w=.ok r w
theorem TO {P:Program}{d D:Nat}(IH:∀t ks,qy P d t=some ks→WY P d t ks) (hd:d≤D):∀(fs:List Field) (off:Nat) (ks:List TK),Ai (qy P d) P off fs=some ks→∀(w:World) (pre zp xs ys:List Value) (r:Bool),pre.length=off→zp.length=off→ni ks xs ys=some r→
  (Op.eqFields D (pre++xs).toArray (zp++ys).toArray fs).run P w=.ok r w
 | [],off,ks,h,w,pre,zp,xs,ys,r,h1,h2,he=>by
  cases h
  match xs,ys,he with
  | [],[],he=>cases he;rfl
 | f::fs,off,ks,h,w,pre,zp,xs,ys,r,h1,h2,he=>by
  simp only[Ai]at h;split at h
  ·rename_i k1 vp;split at h
   ·rename_i hc;obtain⟨hn,ho,hQ⟩:=hc;obtain⟨k2,ng,rfl⟩:=cJ h;have hlen:=He he;rw[List.length_append]at hlen;have ex:xs=xs.take k1.length++xs.drop k1.length:=(List.take_append_drop _ _).symm;have ey:ys=ys.take k1.length++ys.drop k1.length:=(List.take_append_drop _ _).symm;have lx:(xs.take k1.length).length=k1.length:=by rw[List.length_take];omega
    have ly:(ys.take k1.length).length=k1.length:=by rw[List.length_take];omega
    rw[ex,ey]at he;obtain⟨b,c,e1,e2,rfl⟩:=Mc lx ly he;have p1:=JB (P:=P) (w:=w) vp hQ (pre:=pre) (xs:=xs.take k1.length) (post:=xs.drop k1.length) lx;have p2:=JB (P:=P) (w:=w) vp hQ (pre:=zp) (xs:=ys.take k1.length) (post:=ys.drop k1.length) ly;have q:=IH _ _ vp D hd w _ _ b e1;rw[List.append_assoc,←ex,h1]at p1;rw[List.append_assoc,←ey,h2]at p2;simp only[Op.eqFields];rw[if_pos hn,ho];simp only[Sem.run_bind,p1,p2,q,Result.andThen_ok];cases b with
    | false=>simp
    | true=>
     have rc:=TO IH hd fs (off+k1.length) k2 ng w (pre++xs.take k1.length) (zp++ys.take k1.length) (xs.drop k1.length) (ys.drop k1.length) c (by rw[List.length_append,h1,lx]) (by rw[List.length_append,h2,ly]) e2;rw[List.append_assoc,←ex,List.append_assoc,←ey]at rc
     simpa using rc
   cases h
  cases h
theorem TQ {P:Program}:∀(d:Nat) (t:TypeId) (ks:List TK),qy P d t=some ks→WY P d t ks
 | 0,t,ks,h=>by cases h
 | d+1,t,ks,h=>by
  intro D hD w xs ys r he;obtain⟨D',rfl⟩:∃D',D=D'+1:=⟨D - 1,by omega⟩;unfold qy at h;unfold tF;cases hu:P.underlying t with
  | none=>rw[hu]at h;cases h
  | some dj=>
   rw[hu]at h;cases dj<;>simp only at h<;>first
    | (cases h;done)
    | skip
   case bool=>
    cases h;obtain⟨x,y,rfl,rfl,hh⟩:=Mb he
    cases x<;>(try(simp[oI]at hh;done))<;>cases y<;>(try(simp[oI]at hh;done))
    simp only[oI,Option.some.injEq]at hh;subst hh;simp[run_equalIn_bool' w D' t _ _ hu]
   case int k=>
    cases h;obtain⟨x,y,rfl,rfl,hh⟩:=Mb he
    cases x<;>(try(simp[oI]at hh;done))<;>cases y<;>(try(simp[oI]at hh;done))
    simp only[oI]at hh;split at hh
    ·rename_i hk;subst hk;cases hh;simp[run_equalIn_int w D' t _ k _ _ hu]
    cases hh
   case string=>
    cases h;obtain⟨x,y,rfl,rfl,hh⟩:=Mb he
    cases x<;>(try(simp[oI]at hh;done))<;>cases y<;>(try(simp[oI]at hh;done))
    simp only[oI,Option.some.injEq]at hh;subst hh;simp[run_equalIn_string w D' t _ _ hu]
   case struct fs=>
    split at h
    ·rename_i hp;have hf:P.fieldsOf t=fs:=by simp[Program.fieldsOf,hu]
     have key:=run_equalIn_struct (P:=P) w D' t xs.toArray ys.toArray (by rw[hf];exact hu) hp;simp only;rw[key,hf];exact TO (TQ d) (by omega) fs.toList 0 ks h w [] [] xs ys r rfl rfl he
    cases h
def vz:List TK→List AV→List AV→Option Bool
 | [],[],[]=>some true
 | k::ks,.sc x::xs,.sc y::ys=>(oI k x y).bind fun r=>(vz ks xs ys).map (r&&·)
 | _,_,_=>none
theorem Di {rd:RD}{φ:b9}:∀{ks:List TK}{xs ys:List AV}{vx vy:List Value}{r:Bool},PW rd φ xs vx→PW rd φ ys vy→vz ks xs ys=some r→ni ks vx vy=some r
 | [],[],[],vx,vy,r,hx,hy,h=>by
  have e1:vx=[]:=List.eq_nil_of_length_eq_zero hx.1.symm;have e2:vy=[]:=List.eq_nil_of_length_eq_zero hy.1.symm;subst e1;subst e2;exact h
 | k::ks,.sc x::xs,.sc y::ys,vx,vy,r,hx,hy,h=>by
  obtain⟨v,vs,rfl,h1,sn⟩:=hx.kI;obtain⟨u,us,rfl,h2,hy'⟩:=hy.kI;clear hx hy;simp only[vz]at h;obtain⟨q,hq,h⟩:=cw h;obtain⟨z,hz,rfl⟩:=cJ h;cases h1;cases h2;simp only[ni,hq,Option.bind_some,Di sn hy' hz,Option.map_some]
def jh (P:Program) (t:TypeId):Option (List TK):=match P.underlying t with
 | some (.struct _)=>if P.eqGuardType P.depth t=false then qy P 8 t else none
 | _=>none
theorem Ma {P:Program}{t:TypeId}{ks:List TK}(h:jh P t=some ks) {xs ys:List Value}{r:Bool}(he:ni ks xs ys=some r) (w:World):(Op.equal t (.agg xs.toArray) (.agg ys.toArray)).run P w=.ok r w∧P.eqGuardType P.depth t=false:=by
 unfold jh at h;split at h
 ·rename_i fs hu;split at h
  ·rename_i hg;refine⟨?_,hg⟩;have key:=TQ 8 t ks h 10000 (by omega) w xs ys r he;unfold tF at key;rw[hu]at key;exact key
  cases h
 cases h
end
section
open Go Go.RowKit
set_option linter.unusedVariables false
def tk (P:Program) (t:Nat):Option TK:=(ti P t).map fun i=>i.k
def NL (k:IntKind) (x y:Int):Int:=k.wrap (BitVec.ofInt k.bits x&&& BitVec.ofInt k.bits y).toNat
def lf (k:IntKind) (x y:Int):Int:=k.wrap (BitVec.ofInt k.bits x||| BitVec.ofInt k.bits y).toNat
def aaJ (k:IntKind) (x:Int):Int:=k.wrap (BitVec.ofInt k.bits (if k.signed then -1 else k.max) ^^^ BitVec.ofInt k.bits x).toNat
def Im (k:IntKind) (x y:Int):Int:=k.wrap (BitVec.ofInt k.bits x ^^^ BitVec.ofInt k.bits y).toNat
def H7 (op:BinOp) (k:IntKind) (x y:Int):Option Value:=
 match op with
 | .add=>some (.int k (k.wrap (x+y)))
 | .sub=>some (.int k (k.wrap (x - y)))
 | .mul=>some (.int k (k.wrap (x * y)))
 | .quo=>match decide (y=0) with|true=>none|false=>some (.int k (k.wrap (x.tdiv y)))
 | .rem=>match decide (y=0) with|true=>none|false=>some (.int k (x.tmod y))
 | .and=>some (.int k (NL k x y))
 | .or=>some (.int k (lf k x y))
 | .xor=>some (.int k (Im k x y))
 | .andNot=>some (.int k (k.wrap (BitVec.ofInt k.bits x&&& ~~~BitVec.ofInt k.bits y).toNat))
 | .eql=>some (.bool (x==y))
 | .neq=>some (.bool (x != y))
 | .lss=>some (.bool (decide (x<y)))
 | .leq=>some (.bool (decide (x≤y)))
 | .gtr=>some (.bool (decide (x>y)))
 | .geq=>some (.bool (decide (x≥y)))
 | _=>none
def NX (op:BinOp) (k:IntKind) (x y:Int):Option Value:=
 match decide (y<0),op with
 | false,.shl=>some (.int k (k.wrap (x * 2 ^ (min y.toNat k.bits))))
 | false,.shr=>some (.int k (x.fdiv (2 ^ (min y.toNat k.bits))))
 | _,_=>none
def NV (op:BinOp) (x y:ByteArray):Option Value:=
 match op with
 | .add=>match decide (((x.size+y.size:Nat):Int)>9223372036854775807) with|true=>none|false=>some (.string (x++y))
 | .eql=>some (.bool (x.toList==y.toList))
 | .neq=>some (.bool (!(x.toList==y.toList)))
 | _=>none
def Ge:BinOp→Bool
 | .shl|.shr=>true
 | _=>false
def D7 (P:Program) (op:BinOp) (t:Nat) (a b:AV):Option AV:=
 match a,b with
 | .sc (.int k x),.sc (.int k' y)=>match Ge op with
  | true=>(NX op k x y).map .sc
  | false=>match decide (k=k') with
   | true=>(H7 op k x y).map .sc
   | false=>none
 | .sc (.string x),.sc (.string y)=>(NV op x y).map .sc
 | .sc (.bool x),.sc (.bool y)=>match op,tk P t with
  | .eql,some .bool=>some (.sc (.bool (x==y)))
  | .neq,some .bool=>some (.sc (.bool (!(x==y))))
  | _,_=>none
 | .agg xs,.agg ys=>match op,jh P t with
  | .eql,some ks=>(vz ks xs ys).map fun r=>.sc (.bool r)
  | .neq,some ks=>(vz ks xs ys).map fun r=>.sc (.bool (!r))
  | _,_=>none
 | _,_=>none
def DX (op:UnOp) (a:AV):Option AV:=
 match op,a with
 | .not,.sc (.bool b)=>some (.sc (.bool (!b)))
 | .neg,.sc (.int k n)=>some (.sc (.int k (k.wrap (0 - n))))
 | .xor,.sc (.int k n)=>some (.sc (.int k (aaJ k n)))
 | _,_=>none
def H9 (P:Program) (src dst:Nat) (a:AV):Option AV:=
 match tk P src,tk P dst,a with
 | some _,some (.int k),.sc (.int _ n)=>some (.sc (.int k (k.wrap n)))
 | some _,some .string,.sc (.string s)=>some (.sc (.string s))
 | _,_,_=>none
def D4 (a:AV) (i:Nat):Option AV:=
 match a with
 | .ba vs=>vs[i]?
 | _=>none
def H4 (a:AV):Option AV:=
 match a with
 | .ptr r g p sz i o=>some (.ptr r g p sz i o)
 | .rp cs=>some (.rp cs)
 | _=>none
def H3 (c a b:AV):Option AV:=
 match c with
 | .sc (.bool true)=>some a
 | .sc (.bool false)=>some b
 | _=>none
def DZ (P:Program) (t:Nat) (a:AV):Option AV:=
 match tk P t,a with
 | some .string,.sc (.string s)=>some (.sc (.int .i64 s.size))
 | some .slice,.aG=>some (.sc (.int .i64 0))
 | some .slice,.au _ _ _ _ _ len=>some (.sc (.int .i64 len))
 | some .slice,.ro _ es=>some (.sc (.int .i64 es.length))
 | some .array,_=>(ti P t).map fun i=>.sc (.int .i64 i.n)
 | _,_=>none
section
variable {P:Program}{rd:RD}{φ:b9}{O:Nat→Prop}{w0 w:World}{σ:aj}{d G:Nat}
theorem jM {t:Nat}{k:TK}(h:tk P t=some k):∃i,ti P t=some i∧i.k=k:=by
 unfold tk at h;cases hi:ti P t with
 | none=>rw[hi]at h;cases h
 | some i=>rw[hi]at h;exact⟨i,rfl,Option.some.inj h⟩
theorem mW {t:Nat}{i:TI}(h:ti P t=some i):∃dj,P.underlying t=some dj∧i.k=kP dj∧i.el=Md dj∧i.n=Kr dj:=by
 obtain⟨inf,dj,h1,h2,h3,h4,h5,h6,h7,h8,h9,Ab⟩:=o6 h;exact⟨dj,h2,Ab,h8,h9⟩
theorem fq {v v':Value}(h:aL rd φ (.sc v) v'):v'=v:=by cases h;rfl
theorem ahU {op:BinOp}{k:IntKind}{x y:Int}{v:Value}(hs:Ge op=false) (h:H7 op k x y=some v):
  (binOp op 0 (.int k x) (.int k y)).run P w=.ok v w∧tu v=true:=by
 cases op<;>simp only[H7,Ge]at h hs<;>first
  | (cases hs;done)
  | (cases h;done)
  | (cases h;exact⟨by simp only[binOp,ne_eq,not_true_eq_false,if_false];rfl,rfl⟩)
  | (split at h
     ·cases h
     rename_i hy;cases h;have hy:=of_decide_eq_false hy;exact⟨by simp only[binOp,ne_eq,not_true_eq_false,if_false,Op.intDiv,hy];rfl,rfl⟩)
theorem ahx {op:BinOp}{t t':TypeId}{k:IntKind}{x y:Int}:binOp op t (.int k x) (.int k y)=binOp op t' (.int k x) (.int k y):=by
 cases op<;>rfl
theorem ahw (h:bp rd φ O w0 σ w) {op:BinOp}{t:Nat}{x y v:AV}{ox oy:Operand}{cx cy:Value}(hx:aL rd φ x cx) (hy:aL rd φ y cy) (ha:D7 P op t x y=some v):
  kE rd φ O w0 σ v ((do eqGuard op t ox oy cx cy;binOp op t cx cy:Sem Value).run P w):=by
 unfold D7 at ha;split at ha
 ·rename_i k x k' y;cases fq hx;cases fq hy;have hg:(eqGuard op t ox oy (.int k x) (.int k' y)).run P w=.ok () w:=by
   unfold eqGuard;cases op<;>rfl
  split at ha
  ·rename_i hs;obtain⟨u,hu,rfl⟩:=cJ ha;unfold NX at hu;split at hu
   ·have hy:=of_decide_eq_false ‹decide _=false›;cases hu;exact .same h (cv:=.int k (k.wrap (x * 2 ^ (min y.toNat k.bits)))) (by rw[Sem.run_bind,hg];simp[binOp,Op.shift,hy]) (.sc _ rfl)
   ·have hy:=of_decide_eq_false ‹decide _=false›;cases hu;exact .same h (cv:=.int k (x.fdiv (2 ^ (min y.toNat k.bits)))) (by rw[Sem.run_bind,hg];simp[binOp,Op.shift,hy]) (.sc _ rfl)
   cases hu
  rename_i hs;split at ha
  ·rename_i hk;have hk:=of_decide_eq_true hk;subst hk;obtain⟨u,hu,rfl⟩:=cJ ha;obtain⟨h1,h2⟩:=ahU (P:=P) (w:=w) hs hu;refine .same h (cv:=u) ?_ (.sc _ h2);rw[Sem.run_bind,hg,Result.andThen_ok,ahx (t':=0)];exact h1
  cases ha
 ·rename_i x y;cases fq hx;cases fq hy;have hg:(eqGuard op t ox oy (.string x) (.string y)).run P w=.ok () w:=by
   unfold eqGuard;cases op<;>rfl
  obtain⟨u,hu,rfl⟩:=cJ ha;have key:(binOp op t (.string x) (.string y)).run P w=.ok u w∧tu u=true:=by
   cases op<;>simp only[NV]at hu<;>first
    | (cases hu;done)
    | (cases hu;exact⟨by simp[binOp,Op.stringOp],rfl⟩)
    | (split at hu
       ·cases hu
       rename_i hy;cases hu;have hy:=of_decide_eq_false hy;have zQ:¬((x.size+y.size:Nat):Int)>IntKind.i64.max:=by simpa[IntKind.max,IntKind.bits,IntKind.signed]using hy
       exact⟨by simp only[binOp,Op.stringOp];rw[if_neg zQ];rfl,rfl⟩)
  exact .same h (cv:=u) (by rw[Sem.run_bind,hg];exact key.1) (.sc _ key.2)
 ·rename_i x y;cases fq hx;cases fq hy;have hg:(eqGuard op t ox oy (.bool x) (.bool y)).run P w=.ok () w:=by
   unfold eqGuard;cases op<;>rfl
  have eG:∀i,ti P t=some i→i.k=.bool→(Op.equal t (.bool x) (.bool y)).run P w=.ok (x==y) w:=by
   intro i hi hk;obtain⟨dj,h1,h2,-⟩:=mW hi;rw[hk]at h2;cases dj<;>simp[kP]at h2;have key:∀n,(Op.equalIn (n+1) t (.bool x) (.bool y)).run P w=.ok (x==y) w:=by
    intro n;simp only[Op.equalIn,Sem.run_bind,run_underlying h1 w,Result.andThen_ok];rfl
   exact key 9999
  split at ha
  ·obtain⟨i,hi,hk⟩:=jM ‹_›;cases ha;exact .same h (cv:=.bool (x==y)) (by rw[Sem.run_bind,hg];simp[binOp,eG i hi hk]) (.sc _ rfl)
  ·obtain⟨i,hi,hk⟩:=jM ‹_›;cases ha;exact .same h (cv:=.bool (!(x==y))) (by rw[Sem.run_bind,hg];simp[binOp,eG i hi hk]) (.sc _ rfl)
  cases ha
 ·rename_i xs ys;obtain⟨ax,rfl,px⟩:=PW.mq hx;obtain⟨ay,rfl,py⟩:=PW.mq hy;have hg:P.eqGuardType P.depth t=false→(eqGuard op t ox oy (.agg ax) (.agg ay)).run P w=.ok () w:=by
   intro hq;unfold eqGuard;cases op<;>simp[hq]
  split at ha
  ·rename_i ks Cz;obtain⟨r,hr,rfl⟩:=cJ ha;obtain⟨k1,k2⟩:=Ma Cz (Di px py hr) w;exact .same h (cv:=.bool r) (by
    have k3:(Op.equal t (.agg ax) (.agg ay)).run P w=.ok r w:=by simpa using k1
    rw[Sem.run_bind,hg k2];simp[binOp,k3]) (.sc _ rfl)
  ·rename_i ks Cz;obtain⟨r,hr,rfl⟩:=cJ ha;obtain⟨k1,k2⟩:=Ma Cz (Di px py hr) w;exact .same h (cv:=.bool (!r)) (by
    have k3:(Op.equal t (.agg ax) (.agg ay)).run P w=.ok r w:=by simpa using k1
    rw[Sem.run_bind,hg k2];simp[binOp,k3]) (.sc _ rfl)
  cases ha
 cases ha
theorem X1 (h:bp rd φ O w0 σ w) {op:UnOp}{x v:AV}{cx:Value}(hx:aL rd φ x cx) (ha:DX op x=some v):
  kE rd φ O w0 σ v ((Op.unary op cx).run P w):=by
 unfold DX at ha;split at ha
 ·cases fq hx
  cases ha;exact .same h (by simp[Op.unary]) (.sc _ rfl)
 ·cases fq hx
  cases ha;exact .same h (by simp only[Op.unary,Op.intArith];rfl) (.sc _ rfl)
 ·cases fq hx
  cases ha;exact .same h (by simp only[Op.unary,Op.intBits];rfl) (.sc _ rfl)
 cases ha
theorem ae6 (h:bp rd φ O w0 σ w) {src dst:Nat}{x v:AV}{cx:Value}(hx:aL rd φ x cx) (ha:H9 P src dst x=some v):
  kE rd φ O w0 σ v ((convert src dst cx).run P w):=by
 unfold H9 at ha;split at ha
 ·obtain⟨i,hi,hk⟩:=jM ‹tk P dst=_›;obtain⟨j,hj,-⟩:=jM ‹tk P src=_›;obtain⟨dj,h1,h2,-⟩:=mW hi;obtain⟨Me,oM,-⟩:=mW hj;rw[hk]at h2;cases dj<;>simp[kP]at h2;subst h2;cases fq hx;cases ha;refine .same h (cv:=.int _ _) ?_ (.sc _ rfl);unfold convert;simp only[Sem.run_bind,run_underlying h1 w,run_underlying oM w,Result.andThen_ok];rfl
 ·obtain⟨i,hi,hk⟩:=jM ‹tk P dst=_›;obtain⟨j,hj,-⟩:=jM ‹tk P src=_›;obtain⟨dj,h1,h2,-⟩:=mW hi;obtain⟨Me,oM,-⟩:=mW hj;rw[hk]at h2;cases dj<;>simp[kP]at h2;cases fq hx;cases ha;refine .same h (cv:=.string _) ?_ (.sc _ rfl);unfold convert;simp only[Sem.run_bind,run_underlying h1 w,run_underlying oM w,Result.andThen_ok];cases Me<;>rfl
 cases ha
theorem aee (h:bp rd φ O w0 σ w) {x v:AV}{cx:Value}(hx:aL rd φ x cx) {i:Nat}(ha:D4 x i=some v):
  kE rd φ O w0 σ v ((Instr.extract cx i).run P w):=by
 unfold D4 at ha;split at ha
 ·obtain⟨arr,rfl,hp⟩:=PW.tE hx;obtain⟨u,hu,hr⟩:=hp.2 _ _ ha;have cM:arr[i]?=some u:=by simpa using hu
  exact .same h (by simp[Instr.extract,cM]) hr
 cases ha
theorem abK (h:bp rd φ O w0 σ w) {t:Nat}{x v:AV}{cx:Value}(hx:aL rd φ x cx) (ha:DZ P t x=some v) (ts:Array Nat) (ht:ts[0]?=some t) (T:TypeId) (args:Array Value) (eY:args[0]?=some cx):
  kE rd φ O w0 σ v ((Builtin.len_ ts T args).run P w):=by
 unfold DZ at ha;split at ha
 ·obtain⟨i,hi,hk⟩:=jM ‹tk P t=_›;obtain⟨dj,h1,h2,-⟩:=mW hi;rw[hk]at h2;cases dj<;>simp[kP]at h2;cases fq hx;cases ha;exact .same h (cv:=.int .i64 _) (by simp only[Builtin.len_,ht,eY,Sem.run_bind,run_underlying h1 w,Result.andThen_ok];rfl) (.sc _ rfl)
 ·obtain⟨i,hi,hk⟩:=jM ‹tk P t=_›;obtain⟨dj,h1,h2,-⟩:=mW hi;rw[hk]at h2;cases dj<;>simp[kP]at h2;cases hx;cases ha;exact .same h (cv:=.int .i64 0) (by simp only[Builtin.len_,ht,eY,Sem.run_bind,run_underlying h1 w,Result.andThen_ok];rfl) (.sc _ rfl)
 ·obtain⟨i,hi,hk⟩:=jM ‹tk P t=_›;obtain⟨dj,h1,h2,-⟩:=mW hi;rw[hk]at h2;cases dj<;>simp[kP]at h2;cases hx;cases ha;exact .same h (cv:=.int .i64 _) (by simp only[Builtin.len_,ht,eY,Sem.run_bind,run_underlying h1 w,Result.andThen_ok];rfl) (.sc _ rfl)
 ·obtain⟨i,hi,hk⟩:=jM ‹tk P t=_›;obtain⟨dj,h1,h2,-⟩:=mW hi;rw[hk]at h2;cases dj<;>simp[kP]at h2;cases ha;cases hx with
  | ir sz A cap=>exact .same h (cv:=.int .i64 0) (by simp only[Builtin.len_,ht,eY,Sem.run_bind,run_underlying h1 w,Result.andThen_ok];rfl) (.sc _ rfl)
  | ro sz es b q cap f hc hs hr hv=>exact .same h (cv:=.int .i64 _) (by simp only[Builtin.len_,ht,eY,Sem.run_bind,run_underlying h1 w,Result.andThen_ok];rfl) (.sc _ rfl)
 ·obtain⟨i,hi,hk⟩:=jM ‹tk P t=_›;obtain⟨dj,h1,h2,-,h4⟩:=mW hi;rw[hk]at h2;rw[hi]at ha;cases dj<;>simp[kP]at h2;cases ha;simp only[h4];exact .same h (cv:=.int .i64 _) (by simp only[Builtin.len_,ht,eY,Sem.run_bind,run_underlying h1 w,Result.andThen_ok];rfl) (.sc _ rfl)
 cases ha
end
end
section
open Go Go.RowKit
set_option linter.unusedVariables false
def nJ {α:Type} (p:Prop) [Decidable p] (x:Option α):Option α:=if p then x else none
theorem acw {α:Type}{p:Prop} [Decidable p] {x:Option α}(h:p):nJ p x=x:=if_pos h
theorem qg {α:Type}{p:Prop} [Decidable p] {x:Option α}{v:α}(h:nJ p x=some v):p∧x=some v:=by
 unfold nJ at h;split at h
 ·exact⟨‹_›,h⟩
 cases h
def D0 (P:Program) (σ:aj) (t:Nat) (a ix:AV):Option AV:=
 (ti P t).bind fun i=>(ti P i.el).bind fun e=>match ix with
  | .sc (.int _ z)=>match i.k,a with
   | .slice,.ro sz es=>match Nat.beq sz e.sz with
    | true=>nJ (0≤z∧z<es.length) ((es[z.toNat]?).map .rp)
    | false=>none
   | .slice,.au r g p sz off len=>match Nat.beq sz e.sz with
    | true=>(rowAt σ r g p).bind fun _=>nJ (0≤z∧z<len) (some (.ptr r g p sz (off+z.toNat) 0))
    | false=>none
   | .array,.ptr r g p sz k o=>nJ (0≤z∧z<i.n) (some (.ptr r g p sz k (o+z.toNat * e.sz)))
   | .array,.rp cs=>nJ (0≤z∧z<i.n) (some (.rp (cs.drop (z.toNat * e.sz))))
   | _,_=>none
  | _=>none
def DY (P:Program) (d G:Nat) (σ:aj) (t:Nat) (l c:AV):Option (AV × aj):=
 (ti P t).bind fun i=>(ti P i.el).bind fun e=>e.zero.bind fun z=>match i.k,l,c with
  | .slice,.sc (.int _ n),.sc (.int _ m)=>match Nat.beq z.length e.sz,Nat.ble 1 e.sz with
   | true,true=>nJ (n=m∧0≤n∧(e.bytes:Int) * n≤281474976710656∧n≤9223372036854775807)
    (some (.au d G [] e.sz 0 n.toNat,bQ σ d (G,one ⟨e.sz,List.replicate n.toNat z,iz z,false⟩)))
   | _,_=>none
  | _,_,_=>none
section
variable {P:Program}{rd:RD}{φ:b9}{O:Nat→Prop}{w0 w:World}{σ:aj}{d G:Nat}
theorem qJ {t:Nat}{i:TI}(hi:ti P t=some i) (hk:i.k=.slice):P.underlying t=some (.slice i.el):=by
 obtain⟨dj,h1,h2,h3,_⟩:=mW hi;rw[hk]at h2;cases dj<;>simp[kP]at h2;rw[h1,h3];rfl
theorem OT {t:Nat}{i:TI}(hi:ti P t=some i) (hk:i.k=.array):P.underlying t=some (.array i.n i.el):=by
 obtain⟨dj,h1,h2,h3,h4⟩:=mW hi;rw[hk]at h2;cases dj<;>simp[kP]at h2;rw[h1,h3,h4];rfl
theorem pV {e:Nat}{i:TI}(hi:ti P e=some i):(sizeOf e).run P w=.ok i.sz w:=by
 obtain⟨inf,dj,h1,h2,h3,_⟩:=o6 hi;simp[sizeOf,typeInfo,h1,h3]
theorem Pt {t:Nat}{i e:TI}(hi:ti P t=some i) (hk:i.k=.slice) (he:ti P i.el=some e) {a:Addr}{len cap:Nat}{k:IntKind}{z:Int}(h:0≤z∧z<len):
  (Instr.indexAt t (.slice (some a) len cap) (.int k z)).run P w=.ok (.pointer (some (a.add (z.toNat * e.sz)))) w:=by
 have hu:=qJ hi hk;simp[Instr.indexAt,run_underlying hu,asIntOf,h.1,h.2,pV he]
theorem Pu {t:Nat}{i e:TI}(hi:ti P t=some i) (hk:i.k=.array) (he:ti P i.el=some e) {a:Addr}{k:IntKind}{z:Int}(h:0≤z∧z<i.n):
  (Instr.indexAt t (.pointer (some a)) (.int k z)).run P w=.ok (.pointer (some (a.add (z.toNat * e.sz)))) w:=by
 have hu:=OT hi hk;simp[Instr.indexAt,run_underlying hu,asIntOf,Instr.sureAddr,h.1,h.2,pV he]
theorem acv (h:bp rd φ O w0 σ w) {t:Nat}{x y v:AV}{cx cy:Value}(hx:aL rd φ x cx) (hy:aL rd φ y cy) (ha:D0 P σ t x y=some v):
  kE rd φ O w0 σ v ((Instr.indexAt t cx cy).run P w):=by
 unfold D0 at ha;obtain⟨i,hi,cN⟩:=cw ha;clear ha;obtain⟨e,he,ha⟩:=cw cN;clear cN;cases y with
 | sc yv=>
  cases yv with
  | int ky z=>
   have:=fq hy;subst this;simp only at ha;split at ha
   ·rename_i sz es hk;split at ha
    ·rename_i dg;have dg:=Nat.eq_of_beq_eq_true dg;obtain⟨hz,cA⟩:=qg ha;obtain⟨cs,hQ,rfl⟩:=cJ cA;cases hx with
     | ir _ A cap=>simp at hz;omega
     | ro _ _ b q cap f hc hs hr hv=>
      refine .same h (Pt hi hk he hz) ?_;rw[p7,←dg];exact .rp cs b _ (fun j=>f z.toNat j) (fun j c hj=>hs z.toNat j c (by rw[hQ];exact hj)) (fun j c hj=>hr z.toNat j c (by rw[hQ];exact hj)) (fun j c hj=>hv z.toNat j c (by rw[hQ];exact hj))
    cases ha
   ·rename_i r g p sz off len hk;split at ha
    ·rename_i dg;have dg:=Nat.eq_of_beq_eq_true dg;obtain⟨row,fo,fZ⟩:=cw ha;obtain⟨hz,cA⟩:=qg fZ;cases cA;cases hx with
     | au _ _ _ _ _ _ pl A hφ hA hl=>
      obtain⟨cV,je,aF⟩:=h.rows _ _ _ _ fo;rw[hφ]at je;cases je;have rb:pl.cap - off≠0:=by omega
      rcases hA with hA|hA
      ·exact absurd hA rb
      cases aK:pl.ad with
      | none=>exact absurd (aF.nil aK) (by omega)
      | some bq=>
       obtain⟨b,q⟩:=bq;rw[aK]at hA;simp only[Option.map_some]at hA;subst hA;refine .same h (Pt hi hk he hz) ?_;rw[p7,←dg];have:=aL.ptr (rd:=rd) (φ:=φ) r g p sz (off+z.toNat) 0 pl b q hφ aK
       rwa[show q+(off+z.toNat) * sz+0=q+off * sz+z.toNat * sz by rw[Nat.add_mul];omega]at this
    cases ha
   ·rename_i r g p sz k o hk;obtain⟨hz,cA⟩:=qg ha;cases cA;cases hx with
    | ptr _ _ _ _ _ _ pl b q hφ aK=>
     refine .same h (Pu hi hk he hz) ?_;rw[p7];have:=aL.ptr (rd:=rd) (φ:=φ) r g p sz k (o+z.toNat * e.sz) pl b q hφ aK
     rwa[show q+k * sz+(o+z.toNat * e.sz)=q+k * sz+o+z.toNat * e.sz by omega]at this
   ·rename_i cs hk;obtain⟨hz,cA⟩:=qg ha;cases cA;cases hx with
    | rp _ b q f' hs hr hv=>
     refine .same h (Pu hi hk he hz) ?_;rw[p7];exact .rp _ _ _ (fun j=>f' (z.toNat * e.sz+j)) (fun j c hc=>by rw[List.getElem?_drop]at hc;exact hs _ _ hc) (fun j c hc=>by rw[List.getElem?_drop]at hc;rw[Nat.add_assoc];exact hr _ _ hc)
      (fun j c hc=>by rw[List.getElem?_drop]at hc;exact hv _ _ hc)
   cases ha
  | _=>cases ha
 | _=>cases ha
theorem abj (z:Array Value) (n k i j:Nat) (hj:j<z.size) (hi:i<n):(madeCells z (n * z.size))[i * z.size+j]?=z[j]?:=by
 have h1:i * z.size+j<n * z.size:=by
  have e1:(i+1) * z.size≤n * z.size:=Nat.mul_le_mul_right _ hi;rw[Nat.succ_mul]at e1;omega
 have h2:(i * z.size+j)%z.size=j:=by rw[Nat.mul_comm,Nat.mul_add_mod];exact Nat.mod_eq_of_lt hj
 simp[madeCells,h1,h2,hj]
theorem abi (h:bp rd φ O w0 σ w) (dJ:∀p,φ d G p=none) {t:Nat}{x y v:AV}{cx cy:Value}(hx:aL rd φ x cx) (hy:aL rd φ y cy) {σ':aj}(ha:DY P d G σ t x y=some (v,σ')):
  tl rd φ O w0 d G σ' v ((Instr.makeSlice t cx cy).run P w):=by
 unfold DY at ha;obtain⟨i,hi,cN⟩:=cw ha;clear ha;obtain⟨e,he,cA⟩:=cw cN;clear cN;obtain⟨z,hz,ha⟩:=cw cA;clear cA;split at ha
 ·rename_i kn n km m hk;have:=fq hx;subst this;have:=fq hy;subst this;split at ha
  ·rename_i lK j5;have lK:=Nat.eq_of_beq_eq_true lK;have j5:=Nat.le_of_ble_eq_true j5;obtain⟨⟨rfl,h0,h1,h2⟩,cA⟩:=qg ha;cases cA;obtain⟨inf,dj,e1,e2,e3,e4,e5,e6,-⟩:=o6 he;rw[e6]at hz;obtain⟨zv,sm,rfl⟩:=cJ hz;have xJ:zv.cells.size=e.sz:=by simpa using lK
   have eG:=run_make (P:=P) w t i.el inf zv (qJ hi hk) e1 sm kn km n n h0 (Int.le_refl _) (by rw[←e4];exact h1) h2;rw[eG];have hn:=h.newRow dJ ⟨e.sz,List.replicate n.toNat (zv.cells.toList.map kW),iz (zv.cells.toList.map kW),false⟩ rfl (L1 _) n.toNat (madeCells zv.cells (n.toNat * inf.size)) i.el (0,0) (.inr (Nat.le_refl _))
    (fun x hx=>by rw[(List.mem_replicate.1 hx).2];simpa using xJ) (by simp) (by rw[size_madeCells,←e3];exact Nat.le_refl _)
    (fun x hx=>by rw[(List.mem_replicate.1 hx).2];exact iB.BO _)
    (fun a b c hc=>by
     rw[List.getElem?_replicate]at hc;split at hc
     ·rename_i ha;simp only[Option.bind_some]at hc;obtain⟨u,hu,hr⟩:=(PW.kW (rd:=rd) (φ:=φ) zv.cells.toList).2 b c hc;have hb:b<zv.cells.size:=by
       rcases bm b zv.cells.size with hx|hx
       ·exact hx
       rw[List.getElem?_eq_none (by simpa using hx)]at hu;cases hu
      refine⟨u,?_,hr⟩;show(madeCells zv.cells (n.toNat * inf.size))[a * e.sz+b]?=some u
      rw[←e3,←xJ,abj zv.cells n.toNat 0 a b hb ha]
      simpa using hu
     cases hc)
   refine⟨_,_,_,rfl,hn.1,?_,hn.2,fun r g p hh=>rV r g p hh⟩;have:=aL.au (rd:=rd) (φ:=dz φ d G fun p=>match p with|[]=>some ⟨some (w.heap.size,0),n.toNat⟩|_=>none) d G [] e.sz 0 n.toNat ⟨some (w.heap.size,0),n.toNat⟩ (some (cI w.heap.size 0)) (by simp[dz]) (.inr (by simp)) (by simp);exact this
  cases ha
 cases ha
end
end
section
open Go Go.RowKit
set_option linter.unusedVariables false
def dx:List (List AV)→Nat
 | []=>2
 | e::es=>min (iz e) (dx es)
theorem Dd:∀es:List (List AV),dx es<3
 | []=>by decide
 | e::es=>Nat.lt_of_le_of_lt (Nat.min_le_left _ _) (L1 e)
def fp (sz:Nat):List (List AV)→Bool
 | []=>true
 | e::es=>match Nat.beq e.length sz with
  | true=>fp sz es
  | false=>false
def DS:List (List AV)→Bool
 | []=>true
 | e::es=>match e.all nk with
  | true=>DS es
  | false=>false
theorem ad3 (cs:List AV):iz cs≤2:=by unfold iz;split<;>(try split)<;>omega
theorem G9:∀{es:List (List AV)},∀e∈es,iB (dx es) e
 | [],e,h=>by simp at h
 | x::es,e,h=>by
  simp only[dx];rcases List.mem_cons.1 h with rfl|h
  ·exact(iB.BO _).le (Nat.min_le_left _ _)
  exact(G9 e h).le (Nat.min_le_right _ _)
theorem ad2 {a b:List (List AV)}:dx (a++b)=min (dx a) (dx b):=by
 induction a with
 | nil=>
  have:dx b≤2:=by
   cases b with
   | nil=>exact Nat.le_refl _
   | cons x b=>exact Nat.le_trans (Nat.min_le_left _ _) (ad3 x)
  simp only[List.nil_append,dx];omega
 | cons x a ih=>simp only[List.cons_append,dx,ih,Nat.min_assoc]
theorem Ov {sz:Nat}:∀{es:List (List AV)},fp sz es=true→∀e∈es,e.length=sz
 | [],_,e,h=>by simp at h
 | x::es,hw,e,h=>by
  simp only[fp]at hw;split at hw
  ·rename_i hx;rcases List.mem_cons.1 h with rfl|h
   ·exact Nat.eq_of_beq_eq_true hx
   exact Ov hw e h
  cases hw
theorem Wq:∀{es:List (List AV)},DS es=true→∀e∈es,∀c∈e,nk c=true
 | [],_,e,h,_,_=>by simp at h
 | x::es,hw,e,h,c,hc=>by
  simp only[DS]at hw;split at hw
  ·rename_i hx;rcases List.mem_cons.1 h with rfl|h
   ·exact List.all_eq_true.1 hx c hc
   exact Wq hw e h c hc
  cases hw
theorem Yi {α:Type}{E:α→List AV}{l:List α}{off len:Nat}:sub off len (l.map E)=((l.drop off).take len).map E:=by
 unfold sub;rw[←List.map_drop,←List.map_take]
def cW (b:UInt8):List AV:=[.sc (.int .u8 b.toNat)]
def wE (P:Program) (σ:aj) (tx sz:Nat) (x:AV):Option (List (List AV) × Nat):=match tk P tx,x with
 | some .slice,.aG=>some ([],2)
 | some .slice,.ro s es=>match Nat.beq s sz,fp sz es with
  | true,true=>some (es,dx es)
  | _,_=>none
 | some .slice,.au r g p s off len=>(rowAt σ r g p).bind fun row=>match Nat.beq s sz,Nat.beq row.sz sz,(match Nat.ble 1 row.fl with|true=>true|false=>DS (sub off len row.es)) with
  | true,true,true=>kQ (off+len) row.es.length (some (sub off len row.es,min 2 row.fl))
  | _,_,_=>none
 | some .string,.sc (.string s)=>match Nat.beq sz 1 with
  | true=>some (s.data.toList.map cW,2)
  | false=>none
 | _,_=>none
section
variable {P:Program}{rd:RD}{φ:b9}{O:Nat→Prop}{w0 w:World}{σ:aj}{d G:Nat}
def sY (w:World) (b q n:Nat):List Value:=(List.range n).map fun k=>(w.cell? (cI b (q+k))).getD undef
theorem Hs {b q n:Nat}:(sY w b q n).length=n:=by simp[sY]
theorem UG {b q n k:Nat}(hk:k<n) {v:Value}(hv:w.cell? (cI b (q+k))=some v):(sY w b q n)[k]?=some v:=by
 simp only[sY,List.getElem?_map,List.getElem?_range hk,Option.map_some,hv,Option.getD_some]
theorem MB {b q n k:Nat}{v:Value}(h:(sY w b q n)[k]?=some v):k<n∧v=(w.cell? (cI b (q+k))).getD undef:=by
 simp only[sY,List.getElem?_map]at h;obtain⟨k',bW,rfl⟩:=cJ h;rcases bm k n with hx|hx
 ·rw[List.getElem?_range hx]at bW;cases bW;exact⟨hx,rfl⟩
 rw[List.getElem?_eq_none (by simpa using hx)]at bW;cases bW
theorem ady {es:List (List AV)}{sz:Nat}(hw:∀e∈es,e.length=sz) {k:Nat}(hk:k<es.length * sz):∃c,(es[k/sz]?).bind (·[k%sz]?)=some c:=by
 have dg:0<sz:=by
  rcases Nat.eq_zero_or_pos sz with h|h
  ·subst h;simp at hk
  exact h
 have hi:k/sz<es.length:=(Nat.div_lt_iff_lt_mul dg).2 hk;have hj:k%sz<(es[k/sz]).length:=by rw[hw _ (List.getElem_mem hi)];exact Nat.mod_lt _ dg
 exact⟨_,by rw[bz hi,Option.bind_some,bz hj]⟩
theorem O7 {tx e' sz:Nat}(hk:P.underlying tx=some (.slice e')) {es:List (List AV)}(hw:∀e∈es,e.length=sz) {b q cap:Nat}
  (hc:∀i j c,(es[i]?).bind (·[j]?)=some c→nk c=true∧∃v,w.cell? (cI b (q+i * sz+j))=some v∧aL rd φ c v):
  ∃news,Src P sz tx (.slice (some (cI b q)) es.length cap) es.length news w∧(∀i j c,(es[i]?).bind (·[j]?)=some c→∃v,news[i * sz+j]?=some v∧aL rd φ c v)∧
   ∀n,n≤es.length→(Builtin.firstCells sz n (.slice (some (cI b q)) es.length cap)).run P w=.ok (news.take (n * sz)).toArray w:=by
 have gh:∀k,k<es.length * sz→∃v,w.cell? (cI b (q+k))=some v∧v.oneCell'=true:=by
  intro k hk;obtain⟨c,h1⟩:=ady hw hk;obtain⟨h2,v,h3,h4⟩:=hc _ _ _ h1;refine⟨v,?_,h4.one h2⟩;have e:k/sz * sz+k%sz=k:=by rw[Nat.mul_comm];exact Nat.div_add_mod k sz
  rwa[Nat.add_assoc,e]at h3
 have q8:∀j u,(sY w b q (es.length * sz))[j]?=some u→w.cell? ((cI b q).add j)=some u:=by
  intro j u hu;obtain⟨h1,rfl⟩:=MB hu;obtain⟨v,h2,_⟩:=gh j h1;rw[p7,h2];rfl
 refine⟨sY w b q (es.length * sz),Src.ofSlice w hk _ _ _ _ Hs q8 (fun u hu=>?_),fun i j c h=>?_,fun n hn=>run_firstCells_some w sz n _ _ _ _ ?_ fun j u hu=>?_⟩
 ·obtain⟨j,hj⟩:=List.getElem?_of_mem hu;obtain⟨h1,rfl⟩:=MB hj;obtain⟨v,h2,h3⟩:=gh j h1;rw[h2];exact h3
 ·obtain⟨_,v,h2,h3⟩:=hc _ _ _ h;have ab:i * sz+j<es.length * sz:=by
   cases he:es[i]? with
   | none=>rw[he]at h;cases h
   | some e=>
    rw[he]at h;have hj:j<e.length:=by
     rcases bm j e.length with hx|hx
     ·exact hx
     rw[Option.bind_some,List.getElem?_eq_none hx]at h;cases h
    rw[hw e (dh he)]at hj;have hi:i<es.length:=by
     rcases bm i es.length with hx|hx
     ·exact hx
     rw[List.getElem?_eq_none hx]at he;cases he
    have:=Nat.mul_le_mul_right sz (show i+1≤es.length from hi);rw[Nat.succ_mul]at this;omega
  exact⟨v,UG ab (by rw[←Nat.add_assoc];exact h2),h3⟩
 ·rw[List.length_take,Hs];exact Nat.min_eq_left (Nat.mul_le_mul_right _ hn)
 rw[List.getElem?_take]at hu;split at hu
 ·exact q8 j u hu
 cases hu
theorem I3 {tx e' sz:Nat}(hk:P.underlying tx=some (.slice e')) (A:Option Addr) (cap:Nat):Src P sz tx (.slice A 0 cap) 0 [] w:=by
 cases A with
 | none=>exact Src.ofNil w hk cap
 | some a=>exact Src.ofSlice w hk a 0 cap [] (by simp) (by simp) (by simp)
theorem yZ {t:Nat}(h:tk P t=some .slice):∃e,P.underlying t=some (.slice e):=by
 obtain⟨i,hi,hk⟩:=jM h;exact⟨_,qJ hi hk⟩
theorem Bg {t:Nat}(h:tk P t=some .string):P.underlying t=some .string:=by
 obtain⟨i,hi,hk⟩:=jM h;obtain⟨dj,h1,h2,_⟩:=mW hi;rw[hk]at h2;cases dj<;>simp[kP]at h2;exact h1
theorem UI {c:AV}(h:gE c=true):nk c=true:=by cases c<;>first|rfl|cases h
theorem I4 (h:bp rd φ O w0 σ w) {tx sz:Nat}{x:AV}{cx:Value}(hx:aL rd φ x cx) {s:List (List AV) × Nat}(hs:wE P σ tx sz x=some s):
  ∃news,Src P sz tx cx s.1.length news w∧(∀i j c,(s.1[i]?).bind (·[j]?)=some c→∃v,news[i * sz+j]?=some v∧aL rd φ c v)∧(∀e∈s.1,e.length=sz)∧(∀e∈s.1,iB s.2 e)∧s.2<3∧
   (tk P tx=some .slice→∀n,n≤s.1.length→(Builtin.firstCells sz n cx).run P w=.ok (news.take (n * sz)).toArray w):=by
 have L4:∀(A:Option Addr) (cap n:Nat),n≤0→(Builtin.firstCells sz n (.slice A 0 cap)).run P w=.ok (([]:List Value).take (n * sz)).toArray w:=by
  intro A cap n hn;have:n=0:=by omega
  subst this;cases A<;>simp[Builtin.firstCells,loadCells,loadCellsFrom]
 unfold wE at hs;split at hs
 ·rename_i hk;obtain⟨e',hk⟩:=yZ hk;cases hs;cases hx;exact⟨[],I3 hk _ _,by simp,by simp,by simp,by first|decide|exact Dd _|exact Nat.lt_of_le_of_lt (Nat.min_le_left _ _) (by decide),fun _=>L4 _ _⟩
 ·rename_i s0 es hk;obtain⟨e',hk⟩:=yZ hk;split at hs
  ·rename_i h1 h2;have h1:=Nat.eq_of_beq_eq_true h1;subst h1;cases hs;have hw:=Ov h2;cases hx with
   | ir _ A cap=>exact⟨[],I3 hk _ _,by simp,by simp,by simp,by first|decide|exact Dd _|exact Nat.lt_of_le_of_lt (Nat.min_le_left _ _) (by decide),fun _=>L4 _ _⟩
   | ro _ _ b q cap f hc xP hr hv=>
    obtain⟨news,k1,k2,k3⟩:=O7 (P:=P) (rd:=rd) (φ:=φ) (w:=w) hk hw (b:=b) (q:=q) (cap:=cap) (fun i j c aU=>⟨UI (xP _ _ _ aU),_,h.eh _ _ _ (hr _ _ _ aU),hv _ _ _ aU⟩);exact⟨news,k1,k2,hw,G9,Dd _,fun _=>k3⟩
  cases hs
 ·rename_i r g p s0 off len hk;obtain⟨e',hk⟩:=yZ hk;obtain⟨row,fo,pq⟩:=cw hs;clear hs;split at pq
  ·rename_i h1 h2 h3;have h1:=Nat.eq_of_beq_eq_true h1;have h2:=Nat.eq_of_beq_eq_true h2;subst h1;unfold kQ at pq;split at pq
   ·rename_i hle;have hle:=Nat.le_of_ble_eq_true hle;cases pq;obtain⟨pl,hp,aF⟩:=h.rows _ _ _ _ fo;have dW:(sub off len row.es).length=len:=by simp[sub];omega
    have oG:∀e∈sub off len row.es,e∈row.es:=fun e he=>List.mem_of_mem_drop (List.mem_of_mem_take he)
    have hw:∀e∈sub off len row.es,e.length=s0:=fun e he=>by rw[aF.wide e (oG e he),h2]
    cases hx with
    | au _ _ _ _ _ _ cV A hφ hA hl=>
     rw[hφ]at hp;cases hp;by_cases hz:len=0
     ·subst hz;have:sub off 0 row.es=[]:=by simp[sub]
      rw[this];exact⟨[],I3 hk _ _,by simp,by simp,by simp,by first|decide|exact Dd _|exact Nat.lt_of_le_of_lt (Nat.min_le_left _ _) (by decide),fun _=>L4 _ _⟩
     rcases hA with hA|hA
     ·omega
     cases aK:pl.ad with
     | none=>exact absurd (aF.nil aK) (by omega)
     | some bq=>
      obtain⟨b,q⟩:=bq;rw[aK]at hA;simp only[Option.map_some]at hA;subst hA;have:=O7 (P:=P) (rd:=rd) (φ:=φ) (w:=w) hk hw (b:=b) (q:=q+off * s0) (cap:=pl.cap - off) (fun i j c aU=>by
       refine⟨?_,?_⟩
       ·cases he:(sub off len row.es)[i]? with
        | none=>rw[he]at aU;cases aU
        | some e=>
         rw[he]at aU;have hc:=dh aU;have he:=dh he;split at h3
         ·rename_i hf;exact UI ((aF.kind e (oG e he)).1 (Nat.le_of_ble_eq_true hf) c hc)
         exact Wq h3 e he c hc
       have sF:(row.es[off+i]?).bind (·[j]?)=some c:=by
        simp only[sub,List.getElem?_take]at aU;split at aU
        ·rwa[List.getElem?_drop]at aU
        cases aU
       obtain⟨v,hv,eR⟩:=aF.cells b q aK _ _ _ sF;refine⟨v,?_,eR⟩;rw[←hv];congr 2;rw[h2,Nat.add_mul];omega)
      rw[dW]at this;obtain⟨news,k1,k2,k3⟩:=this;exact⟨news,by simpa[dW]using k1,k2,hw,fun e he=>(aF.kind e (oG e he)).le (Nat.min_le_right _ _),Nat.lt_of_le_of_lt (Nat.min_le_left _ _) (by decide),fun _ n hn=>k3 n (by simpa[dW]using hn)⟩
   cases pq
  cases pq
 ·rename_i s0 hk;have hk:=Bg hk;split at hs
  ·rename_i h1;have h1:=Nat.eq_of_beq_eq_true h1;subst h1;cases hs;cases fq hx;refine⟨byteCells s0,?_,?_,?_,?_,by show(2:Nat)<3;decide,?_⟩
   ·have e:(s0.data.toList.map cW).length=s0.size:=by rw[List.length_map,Array.length_toList];rfl
    rw[e];exact Src.ofString (P:=P) w hk s0
   ·intro i j c hc;simp only[List.getElem?_map]at hc;cases hb:s0.data.toList[i]? with
    | none=>rw[hb]at hc;cases hc
    | some b=>
     rw[hb]at hc;cases j with
     | zero=>
      simp only[Option.map_some,Option.bind_some,cW,List.getElem?_cons_zero,Option.some.injEq]at hc;subst hc;exact⟨.int .u8 b.toNat,by simp only[byteCells,Nat.mul_one,Nat.add_zero,List.getElem?_map,hb];rfl,.sc _ rfl⟩
     | succ j=>simp[cW]at hc
   ·intro e he;obtain⟨b,_,rfl⟩:=List.mem_map.1 he;rfl
   ·intro e he;obtain⟨b,_,rfl⟩:=List.mem_map.1 he;exact iB.BO (cW b)
   intro ng;obtain⟨e',ng⟩:=yZ ng;rw[hk]at ng;cases ng
  cases hs
 cases hs
end
def BM:Option AV→Option (Option Int)
 | none=>some none
 | some (.sc (.int _ z))=>some (some z)
 | some _=>none
def Dj (P:Program) (t sz:Nat):Bool:=match (ti P t).bind fun i=>ti P i.el with
 | some e=>Nat.beq sz e.sz
 | none=>false
def NW (P:Program) (t:Nat) (x:AV) (l h:Option Int):Option AV:=
 match tk P t,x with
 | some .string,.sc (.string s)=>nJ (0≤l.getD 0∧l.getD 0≤h.getD s.size∧h.getD s.size≤s.size) (some (.sc (.string (s.extract (l.getD 0).toNat (h.getD s.size).toNat))))
 | some .slice,.aG=>((ti P t).bind fun i=>ti P i.el).bind fun _=>nJ (l.getD 0=0∧h.getD 0=0) (some .aG)
 | some .slice,.ro sz es=>match Dj P t sz with
  | true=>nJ (0≤l.getD 0∧l.getD 0≤h.getD es.length∧h.getD es.length≤es.length) (some (.ro sz (sub (l.getD 0).toNat ((h.getD es.length).toNat - (l.getD 0).toNat) es)))
  | false=>none
 | some .slice,.au r g p sz off len=>match Dj P t sz with
  | true=>nJ (0≤l.getD 0∧l.getD 0≤h.getD len∧h.getD len≤len) (some (.au r g p sz (off+(l.getD 0).toNat) ((h.getD len).toNat - (l.getD 0).toNat)))
  | false=>none
 | _,_=>none
def AI (P:Program) (t:Nat) (x:AV) (lo hi mx:Option AV):Option AV:=
 match mx with
 | none=>(BM lo).bind fun l=>(BM hi).bind fun h=>NW P t x l h
 | some _=>none
def D1 (P:Program) (t:Nat) (x ix:AV):Option AV:=
 match tk P t,x,ix with
 | some .string,.sc (.string s),.sc (.int _ z)=>nJ (0≤z) ((s.data[z.toNat]?).map fun b=>.sc (.int .u8 b.toNat))
 | some .array,.agg cs,.sc (.int _ z)=>(ti P t).bind fun i=>(ti P i.el).bind fun e=>nJ (0≤z∧z<i.n) (sj e cs (z.toNat * e.sz))
 | _,_,_=>none
def oS (P:Program) (t f:Nat):Option Nat:=match P.underlying t with
 | some (.struct fs)=>(fs[f]?).map fun x=>x.type
 | _=>none
def D3 (P:Program) (t:Nat) (x:AV) (f:Nat):Option AV:=
 (oS P t f).bind fun ft=>(ti P t).bind fun i=>(i.Dc[f]?).bind fun o=>(ti P ft).bind fun e=>match x with
  | .agg cs=>sj e cs o.1
  | _=>none
def AK (place:Nat→Option (Nat × Nat)):List AV→List (Nat × AV)→Option (List AV)
 | cs,[]=>some cs
 | cs,x::l=>(place x.1).bind fun o=>match (ji x.2).all nk,Nat.beq (ji x.2).length o.2,Nat.ble (o.1+o.2) cs.length with
  | true,true,true=>AK place (cs.take o.1++(ji x.2++cs.drop (o.1+o.2))) l
  | _,_,_=>none
def DR:List (Nat × Nat)→Bool
 | []=>true
 | x::l=>match Nat.beq x.2 0 with
  | true=>false
  | false=>DR l
def AN (P:Program) (t:Nat) (parts:List (Nat × AV)):Option AV:=
 (ti P t).bind fun i=>i.zero.bind fun z=>match i.k with
  | .struct=>match DR i.Dc with
   | true=>(AK (fun k=>i.Dc[k]?) z parts).map .agg
   | false=>none
  | .array=>(ti P i.el).bind fun e=>(AK (fun k=>some (k * e.sz,e.sz)) z parts).map .agg
  | _=>none
def DK (sz:Nat):List (List AV)→List (Nat × AV)→Option (List (List AV))
 | es,[]=>some es
 | es,x::l=>match (ji x.2).all nk,Nat.beq (ji x.2).length sz,Nat.blt x.1 es.length with
  | true,true,true=>DK sz (es.set x.1 (ji x.2)) l
  | _,_,_=>none
def D5 (P:Program) (t len:Nat) (parts:List (Nat × AV)):Option (Nat × List (List AV)):=
 (ti P t).bind fun i=>(ti P i.el).bind fun e=>e.zero.bind fun z=>match i.k,Nat.beq z.length e.sz,Nat.ble 1 e.sz,Nat.ble (len * e.sz) 16777216 with
  | .slice,true,true,true=>(DK e.sz (List.replicate len z) parts).map fun es=>(e.sz,es)
  | _,_,_,_=>none
def AM (P:Program) (t len:Nat) (parts:List (Nat × AV)):Option AV:=
 (D5 P t len parts).bind fun x=>match Nat.ble 1 (dx x.2) with
  | true=>some (.ro x.1 x.2)
  | false=>none
def bytesOf:List (List AV)→Option (List UInt8)
 | []=>some []
 | [.sc (.int .u8 n)]::l=>(bytesOf l).map fun r=>UInt8.ofNat n.toNat::r
 | _=>none
def Ia (P:Program) (σ:aj) (s:Nat) (x:AV):Option AV:=
 (ti P s).bind fun i=>match tk P i.el with
  | some (.int .u8)=>(wE P σ s 1 x).bind fun es=>(bytesOf es.1).map fun l=>.sc (.string ⟨l.toArray⟩)
  | _=>none
def H8 (P:Program) (σ:aj) (s t:Nat) (x:AV):Option AV:=
 match tk P s,tk P t with
 | some .slice,some .string=>Ia P σ s x
 | _,_=>H9 P s t x
def H5 (a b:AV):Option AV:=match a,b with
 | .sc (.int k x),.sc (.int _ y)=>some (.sc (.int k (min x y)))
 | _,_=>none
def H6 (a b:AV):Option AV:=match a,b with
 | .sc (.int k x),.sc (.int _ y)=>some (.sc (.int k (max x y)))
 | _,_=>none
section
variable {P:Program}{rd:RD}{φ:b9}{O:Nat→Prop}{w0 w:World}{σ:aj}{d G:Nat}
theorem TS {t sz:Nat}(h:Dj P t sz=true):∃i e,ti P t=some i∧ti P i.el=some e∧sz=e.sz:=by
 unfold Dj at h;split at h
 ·rename_i e he;obtain⟨i,hi,he⟩:=cw he;exact⟨i,e,hi,he,Nat.eq_of_beq_eq_true h⟩
 cases h
theorem Qz {lo:Option AV}{qC:Option Value}(h:∀a,lo=some a→∃c,qC=some c∧aL rd φ a c) (hn:lo=none→qC=none) {l:Option Int}(hl:BM lo=some l):
  (l=none∧qC=none)∨∃k z,l=some z∧qC=some (.int k z):=by
 unfold BM at hl;split at hl
 ·cases hl;exact .inl ⟨rfl,hn rfl⟩
 ·rename_i k z;cases hl;obtain⟨c,e,hr⟩:=h _ rfl;rw[fq hr]at e;exact .inr ⟨_,_,rfl,e⟩
 cases hl
theorem Bt (is:Bool) (len cap:Nat) (hlc:len≤cap) {qC yA:Option Value}{l h:Option Int}(h1:(l=none∧qC=none)∨∃k z,l=some z∧qC=some (.int k z)) (h2:(h=none∧yA=none)∨∃k z,h=some z∧yA=some (.int k z))
  (hb:0≤l.getD 0∧l.getD 0≤h.getD len∧h.getD len≤len):(Instr.sliceBounds is len cap qC yA none).run P w=.ok ((l.getD 0).toNat,(h.getD len).toNat,cap) w:=by
 rcases h1 with ⟨rfl,rfl⟩|⟨k1,z1,rfl,rfl⟩<;>rcases h2 with ⟨rfl,rfl⟩|⟨k2,z2,rfl,rfl⟩<;>simp only[Option.getD_none,Option.getD_some]at hb ⊢
 ·simp[Instr.sliceBounds]
 ·have e1:0≤z2∧z2≤(cap:Int):=by omega
  simp[Instr.sliceBounds,Instr.sliceBound,asIntOf,e1]
 ·have e1:0≤z1∧z1≤(len:Int):=by omega
  simp[Instr.sliceBounds,Instr.sliceBound,asIntOf,e1]
 have e1:0≤z2∧z2≤(cap:Int):=by omega
 have e2:0≤z1∧z1≤((z2.toNat:Nat):Int):=by omega
 simp only[Instr.sliceBounds,Instr.sliceBound,asIntOf,Sem.run_bind,Sem.run_pure,Result.andThen_ok,if_pos e1,if_pos e2,Option.isSome_none,Bool.false_eq_true,if_false]
theorem YH (hh:bp rd φ O w0 σ w) {t:Nat}{x v:AV}{lo hi mx:Option AV}{cx:Value}{qC yA Ux:Option Value}(hx:aL rd φ x cx)
  (h1:∀a,lo=some a→∃c,qC=some c∧aL rd φ a c) (h1n:lo=none→qC=none) (h2:∀a,hi=some a→∃c,yA=some c∧aL rd φ a c) (h2n:hi=none→yA=none) (h3:mx=none→Ux=none)
  (ha:AI P t x lo hi mx=some v):kE rd φ O w0 σ v ((Instr.sliceAt t cx qC yA Ux).run P w):=by
 unfold AI at ha;split at ha
 ·have e3:=h3 rfl;subst e3;obtain⟨l,hl,cN⟩:=cw ha;obtain⟨h,hhh,cA⟩:=cw cN;have b1:=Qz h1 h1n hl;have b2:=Qz h2 h2n hhh;clear ha cN;unfold NW at cA;split at cA
  ·rename_i s hk;have hk:=Bg hk;cases fq hx;obtain⟨hb,cA⟩:=qg cA;cases cA;have qq:=Bt (P:=P) (w:=w) false s.size s.size (Nat.le_refl _) b1 b2 hb;exact .same hh (cv:=.string _) (by simp[Instr.sliceAt,Instr.slice,run_underlying hk w,qq]) (.sc _ rfl)
  ·rename_i hk;obtain⟨e,he,cA⟩:=cw cA;obtain⟨i,hi,he⟩:=cw he;have hu:P.underlying t=some (.slice i.el):=by
    obtain⟨i',fK,bW⟩:=jM hk;rw[hi]at fK;cases fK;exact qJ hi bW
   obtain⟨hb,cA⟩:=qg cA;cases cA;cases hx;have qq:=Bt (P:=P) (w:=w) true 0 0 (Nat.le_refl _) b1 b2 (by rcases b1 with ⟨rfl,_⟩|⟨_,_,rfl,_⟩<;>rcases b2 with ⟨rfl,_⟩|⟨_,_,rfl,_⟩<;>simp at hb ⊢<;>omega);have e1:(l.getD 0).toNat=0:=by rw[hb.1];rfl
   have e2:(h.getD ((0:Nat):Int)).toNat=0:=by
    rw[show h.getD ((0:Nat):Int)=h.getD 0 from rfl,hb.2];rfl
   rw[e1,e2]at qq;refine .same hh (cv:=.slice none 0 0) ?_ .aG;simp only[Instr.sliceAt,Instr.slice,Sem.run_bind,run_underlying hu w,Result.andThen_ok,qq,pV he];rfl
  ·rename_i sz es hk;obtain⟨e0,mG⟩:=yZ hk;split at cA
   ·rename_i sD;obtain⟨i,e,hi,he,rfl⟩:=TS sD;have hu:P.underlying t=some (.slice i.el):=by
     obtain⟨i',fK,bW⟩:=jM hk;rw[hi]at fK;cases fK;exact qJ hi bW
    obtain⟨hb,cA⟩:=qg cA;cases cA;cases hx with
    | ir _ A cap=>
     have qq:=Bt (P:=P) (w:=w) true 0 cap (aQ _) b1 b2 hb;have e0:(h.getD ((0:Nat):Int)).toNat - (l.getD 0).toNat=0:=by
      have:=hb.2.2;simp only[List.length_nil]at this hb;omega
     refine .same hh (cv:=.slice _ _ _) (by simp only[Instr.sliceAt,Instr.slice,Sem.run_bind,run_underlying hu w,Result.andThen_ok,qq,pV he];rfl) ?_;simp only[List.length_nil,sub,List.drop_nil,List.take_nil,e0];exact .ir _ _ _
    | ro _ _ b q cap f hc hs hr hv=>
     have qq:=Bt (P:=P) (w:=w) true es.length cap hc b1 b2 hb;refine .same hh (cv:=.slice _ _ _) (by simp only[Instr.sliceAt,Instr.slice,Sem.run_bind,run_underlying hu w,Result.andThen_ok,qq,pV he];rfl) ?_;by_cases hz:(h.getD (es.length:Int)).toNat - (l.getD 0).toNat=0
     ·rw[hz];have:sub (l.getD 0).toNat 0 es=[]:=by simp[sub]
      rw[this];exact .ir _ _ _
     have bO:¬cap=(l.getD 0).toNat:=by omega
     rw[if_neg bO];have iR:∀(a j:Nat) (c:AV),((sub (l.getD 0).toNat ((h.getD (es.length:Int)).toNat - (l.getD 0).toNat) es)[a]?).bind (·[j]?)=some c→(es[(l.getD 0).toNat+a]?).bind (·[j]?)=some c:=by
      intro a j c aU;simp only[sub,List.getElem?_take]at aU;split at aU
      ·rwa[List.getElem?_drop]at aU
      cases aU
     have hlen:(sub (l.getD 0).toNat ((h.getD (es.length:Int)).toNat - (l.getD 0).toNat) es).length=(h.getD (es.length:Int)).toNat - (l.getD 0).toNat:=by simp[sub];omega
     have:=aL.ro (rd:=rd) (φ:=φ) e.sz (sub (l.getD 0).toNat ((h.getD (es.length:Int)).toNat - (l.getD 0).toNat) es) b (q+(l.getD 0).toNat * e.sz) (cap - (l.getD 0).toNat) (fun a j=>f ((l.getD 0).toNat+a) j)
      (by rw[hlen];omega) (fun a j c aU=>hs _ _ _ (iR a j c aU))
      (fun a j c aU=>by
       have:=hr _ _ _ (iR a j c aU)
       rwa[show q+(l.getD 0).toNat * e.sz+a * e.sz+j=q+((l.getD 0).toNat+a) * e.sz+j by rw[Nat.add_mul];omega])
      (fun a j c aU=>hv _ _ _ (iR a j c aU))
     rw[hlen]at this;simp only[Option.map_some,p7];exact this
   cases cA
  ·rename_i r g p sz off len hk;obtain⟨e0,mG⟩:=yZ hk;split at cA
   ·rename_i sD;obtain⟨i,e,hi,he,rfl⟩:=TS sD;have hu:P.underlying t=some (.slice i.el):=by
     obtain⟨i',fK,bW⟩:=jM hk;rw[hi]at fK;cases fK;exact qJ hi bW
    obtain⟨hb,cA⟩:=qg cA;cases cA;cases hx with
    | au _ _ _ _ _ _ pl A hφ hA hl=>
     have qq:=Bt (P:=P) (w:=w) true len (pl.cap - off) hl b1 b2 hb;refine .same hh (cv:=.slice _ _ _) (by simp only[Instr.sliceAt,Instr.slice,Sem.run_bind,run_underlying hu w,Result.andThen_ok,qq,pV he];rfl) ?_;have e1:pl.cap - off - (l.getD 0).toNat=pl.cap - (off+(l.getD 0).toNat):=by omega
     rw[e1];refine .au r g p e.sz _ _ pl _ hφ ?_ (by omega);split
     ·left;omega
     rename_i bO;rcases hA with hA|hA
     ·left;omega
     right;subst hA;cases pl.ad with
     | none=>rfl
     | some x=>
      simp only[Option.map_some,p7];congr 2;rw[Nat.add_mul];omega
   cases cA
  cases cA
 cases ha
theorem R1 {t:Nat}{i:TI}(hi:ti P t=some i) {cs:List AV}{arr:Array Value}(hp:PW rd φ cs arr.toList) {o:Nat}{v:AV}(hl:sj i cs o=some v):∃cv,(part t arr o).run P w=.ok cv w∧aL rd φ v cv:=by
 obtain⟨inf,dj,h1,h2,h3,h4,h5,-⟩:=o6 hi;have GS:(isAgg t).run P w=.ok i.ag w:=by
  unfold isAgg;rw[Sem.run_bind,run_underlying h2 w,h5];cases dj<;>simp[zN]
 unfold sj at hl;split at hl
 ·rename_i l5;split at hl
  ·rename_i hle;cases hl;have hle:=Nat.le_of_ble_eq_true hle;refine⟨.agg (arr.extract o (o+i.sz)),?_,PW.agg ?_⟩
   ·unfold part;rw[Sem.run_bind,GS,Result.andThen_ok];simp[l5,pV hi]
   rw[Array.toList_extract];have:=(hp.drop o).take i.sz
   simpa[List.extract]using this
  cases hl
 rename_i l5;obtain⟨cv,h6,h7⟩:=hp.2 _ _ hl;have uf:arr[o]?=some cv:=by simpa using h6
 refine⟨cv,?_,h7⟩;unfold part;rw[Sem.run_bind,GS,Result.andThen_ok];simp[l5,uf]
theorem acu (hh:bp rd φ O w0 σ w) {t:Nat}{x y v:AV}{cx cy:Value}(hx:aL rd φ x cx) (hy:aL rd φ y cy) (ha:D1 P t x y=some v):
  kE rd φ O w0 σ v ((Instr.index t cx cy).run P w):=by
 unfold D1 at ha;split at ha
 ·rename_i s k z hk;have hk:=Bg hk;cases fq hx;cases fq hy;obtain⟨hz,ha⟩:=qg ha;obtain⟨b,hb,rfl⟩:=cJ ha;have qs:s[z.toNat]?=some b:=by
   obtain⟨h1,h2⟩:=Array.getElem?_eq_some_iff.1 hb;have h3:z.toNat<s.size:=h1;rw[getElem?_pos s z.toNat h3];exact congrArg some h2
  exact .same hh (cv:=.int .u8 b.toNat) (by simp only[Instr.index,asIntOf,Sem.run_bind,Sem.run_pure,Result.andThen_ok,run_underlying hk w,if_pos hz,qs]) (.sc _ rfl)
 ·rename_i cs k z hk;obtain⟨i0,SI,mG⟩:=jM hk;obtain⟨i,hi,cN⟩:=cw ha;obtain⟨e,he,cA⟩:=cw cN;rw[hi]at SI;cases SI;obtain⟨hz,fZ⟩:=qg cA;obtain⟨arr,rfl,hp⟩:=PW.mq hx;cases fq hy;obtain⟨cv,h1,h2⟩:=R1 (P:=P) (w:=w) he hp fZ;exact .same hh (by simp only[Instr.index,asIntOf,Sem.run_bind,Sem.run_pure,Result.andThen_ok,run_underlying (OT hi mG) w,if_pos hz,pV he,h1]) h2
 cases ha
theorem ad9 (hh:bp rd φ O w0 σ w) {t f:Nat}{x v:AV}{cx:Value}(hx:aL rd φ x cx) (ha:D3 P t x f=some v):
  kE rd φ O w0 σ v ((Instr.field t cx f).run P w):=by
 unfold D3 at ha;obtain⟨ft,lJ,cN⟩:=cw ha;obtain⟨i,hi,cA⟩:=cw cN;obtain⟨o,ho,fZ⟩:=cw cA;obtain⟨e,he,oK⟩:=cw fZ;clear ha cN cA fZ;obtain⟨inf,dj,h1,h2,h3,h4,h5,h6,h7,-⟩:=o6 hi;unfold oS at lJ;rw[h2]at lJ;cases dj with
 | struct fs=>
  simp only at lJ h7;obtain⟨fl,fA,rfl⟩:=cJ lJ;rw[h7,List.getElem?_map]at ho;obtain⟨rq,Lj,rfl⟩:=cJ ho;have:fs[f]?=some rq:=by simpa using Lj
  rw[this]at fA;cases fA;split at oK
  ·obtain⟨arr,rfl,hp⟩:=PW.mq hx;obtain⟨cv,k1,k2⟩:=R1 (P:=P) (w:=w) he hp oK;exact .same hh (by simp only[Instr.field,Sem.run_bind,run_underlying h2 w,Result.andThen_ok,this,asAgg,Sem.run_pure,k1]) k2
  cases oK
 | _=>simp at lJ
end
section
variable {P:Program}{rd:RD}{φ:b9}{O:Nat→Prop}{w0 w:World}{σ:aj}{d G:Nat}
theorem LZ (off:Nat):∀(vs:List Value) (k:Nat) (cells:Array Value),off+k+vs.length≤cells.size→
  ((vs.zipIdx k).foldl (fun cs (x:Value × Nat)=>cs.setIfInBounds (off+x.2) x.1) cells).toList=cells.toList.take (off+k)++(vs++cells.toList.drop (off+k+vs.length))
 | [],k,cells,h=>by simp
 | c::r,k,cells,h=>by
  simp only[List.zipIdx_cons,List.foldl_cons];rw[LZ off r (k+1) _ (by simp only[Array.size_setIfInBounds];simp only[List.length_cons]at h;omega)];simp only[Array.toList_setIfInBounds,List.length_cons]at h ⊢;have e1:(cells.toList.set (off+k) c).take (off+(k+1))=cells.toList.take (off+k)++[c]:=by
   rw[←Nat.add_assoc,List.take_add_one,List.take_set_of_le (Nat.le_refl _),List.getElem?_set_self (by simp;omega)];rfl
  have e2:(cells.toList.set (off+k) c).drop (off+(k+1)+r.length)=cells.toList.drop (off+k+(r.length+1)):=by
   rw[List.drop_set_of_lt (by omega)];congr 1;omega
  rw[e1,e2,List.append_assoc];rfl
theorem L6 {place cplace:Nat→Option (Nat × Nat)}(hp:∀k o,place k=some o→cplace k=some o) {ev:Operand→AV}{ρ:Operand→Value}(cT:∀x,aL rd φ (ev x) (ρ x)):∀(ps:List (Nat × Operand)) {cs aO:List AV}{arr:Array Value},PW rd φ cs arr.toList→
  AK place cs (ps.map fun x=>(x.1,ev x.2))=some aO→∃rI,Instr.fill cplace arr (ps.map fun x=>(x.1,ρ x.2))=some rI∧PW rd φ aO rI.toList
 | [],cs,aO,arr,h,hf=>by cases hf;exact⟨arr,rfl,h⟩
 | x::ps,cs,aO,arr,h,hf=>by
  simp only[List.map_cons,AK]at hf;obtain⟨o,ho,jF⟩:=cw hf;clear hf;split at jF
  ·rename_i h1 h2 h3;have h2:=Nat.eq_of_beq_eq_true h2;have h3:=Nat.le_of_ble_eq_true h3;obtain⟨hc,h1c⟩:=Ht (cT x.2) h1;have hs:(ρ x.2).cells.size=o.2:=by rw[←h2,hc.1];simp
   have hz:o.1+o.2≤arr.size:=by have:=h.1;simp at this;omega
   have Li:=LZ o.1 (ρ x.2).cells.toList 0 arr (by simp;omega);have GF:Instr.fill cplace arr ((x.1,ρ x.2)::ps.map fun x=>(x.1,ρ x.2))=Instr.fill cplace ((ρ x.2).cells.zipIdx.foldl (fun cs (x:Value × Nat)=>cs.setIfInBounds (o.1+x.2) x.1) arr) (ps.map fun x=>(x.1,ρ x.2)):=by
    rw[Instr.fill,hp _ _ ho];have e:((ρ x.2).cells.size≠o.2||o.1+(ρ x.2).cells.size>arr.size)=false:=by simp[hs];omega
    simp only[e];rfl
   have e2:((ρ x.2).cells.zipIdx.foldl (fun cs (x:Value × Nat)=>cs.setIfInBounds (o.1+x.2) x.1) arr).toList=arr.toList.take o.1++((ρ x.2).cells.toList++arr.toList.drop (o.1+o.2)):=by
    rw[←Array.foldl_toList,Array.toList_zipIdx,Li];simp[hs]
   simp only[List.map_cons];rw[GF];refine L6 hp cT ps ?_ jF;rw[e2];exact(h.take _).append (hc.append (h.drop _))
  cases jF
theorem Wp:∀{l:List (Nat × Nat)},DR l=true→∀x∈l,x.2≠0
 | [],_,x,hx=>by simp at hx
 | y::l,h,x,hx=>by
  simp only[DR]at h;split at h
  ·cases h
  rename_i hb;rcases List.mem_cons.1 hx with rfl|hx
  ·intro e;rw[e]at hb;cases hb
  exact Wp h x hx
theorem aak {fs:List Field}(h:∀f∈fs,P.cellsOf f.type≠0):fs.mapM (fun f=>(P.info? f.type).map fun i=>(f.offset,i.size))=some (fs.map fun f=>(f.offset,P.cellsOf f.type)):=by
 induction fs with
 | nil=>rfl
 | cons f fs ih=>
  have hf:=h f (by simp);cases hi:P.info? f.type with
  | none=>simp[Program.cellsOf,hi]at hf
  | some i=>
   have hc:P.cellsOf f.type=i.size:=by simp[Program.cellsOf,hi]
   simp[List.mapM_cons,hi,hc,ih (fun f hf=>h f (by simp[hf]))]
theorem ahd (hh:bp rd φ O w0 σ w) {t:Nat}{v:AV}{ev:Operand→AV}{ρ:Operand→Value}(cT:∀x,aL rd φ (ev x) (ρ x)) {parts:Array (Nat × Operand)}
  (ha:AN P t (parts.toList.map fun x=>(x.1,ev x.2))=some v):kE rd φ O w0 σ v ((Instr.build t (parts.map fun(i,x)=>(i,ρ x))).run P w):=by
 unfold AN at ha;obtain⟨i,hi,cN⟩:=cw ha;obtain⟨z,hz,cA⟩:=cw cN;clear ha cN;obtain⟨inf,dj,h1,h2,h3,h4,h5,h6,h7,h8,h9,Ab⟩:=o6 hi;rw[h6]at hz;obtain⟨zv,sm,rfl⟩:=cJ hz;have e0:(parts.map fun(x:Nat × Operand)=>(x.1,ρ x.2)).toList=parts.toList.map fun x=>(x.1,ρ x.2):=by simp
 split at cA
 ·rename_i hk;rw[Ab]at hk;cases dj with
  | struct fs=>
   split at cA
   ·rename_i gZ;obtain⟨aO,hf,rfl⟩:=cJ cA;rw[h7]at hf gZ;have g9:=aak (P:=P) (fs:=fs.toList) (fun f hf=>Wp gZ (f.offset,P.cellsOf f.type) (List.mem_map.2 ⟨f,hf,rfl⟩));obtain⟨rI,k1,k2⟩:=L6 (rd:=rd) (φ:=φ) (cplace:=fun k=>(fs.toList.map fun f=>(f.offset,P.cellsOf f.type)).toArray[k]?) (fun k o h=>by simpa using h) cT parts.toList (PW.kW zv.cells.toList) hf;have hb:P.built t (parts.map fun(x:Nat × Operand)=>(x.1,ρ x.2)).toList=some rI:=by
     unfold Program.built;rw[h1,h2];simp only[sm,g9,e0];exact k1
    exact .same hh (run_build w t _ rI hb) (PW.agg k2)
   cases cA
  | _=>simp[kP]at hk
 ·rename_i hk;rw[Ab]at hk;cases dj with
  | array n el=>
   obtain⟨e,he,fZ⟩:=cw cA;obtain⟨aO,hf,rfl⟩:=cJ fZ;obtain⟨Sg,Me,k1,k2,k3,_⟩:=o6 he;have CT:i.el=el:=h8;rw[CT]at k1;obtain⟨rI,m1,m2⟩:=L6 (rd:=rd) (φ:=φ) (cplace:=fun k=>some (k * Sg.size,Sg.size)) (fun k o h=>by rw[←h,k3]) cT parts.toList (PW.kW zv.cells.toList) hf;have hb:P.built t (parts.map fun(x:Nat × Operand)=>(x.1,ρ x.2)).toList=some rI:=by
    unfold Program.built;rw[h1,h2];simp only[sm,k1,e0];exact m1
   exact .same hh (run_build w t _ rI hb) (PW.agg m2)
  | _=>simp[kP]at hk
 cases cA
def Flat (rd:RD) (φ:b9) (sz:Nat) (es:List (List AV)) (arr:Array Value):Prop:=
 arr.size=es.length * sz∧(∀e∈es,e.length=sz)∧∀i j c,(es[i]?).bind (·[j]?)=some c→∃v,arr[i * sz+j]?=some v∧aL rd φ c v
theorem V5 {sz:Nat}{ev:Operand→AV}{ρ:Operand→Value}(cT:∀x,aL rd φ (ev x) (ρ x)):∀(ps:List (Nat × Operand)) {es ig:List (List AV)}{arr:Array Value},Flat rd φ sz es arr→
  DK sz es (ps.map fun x=>(x.1,ev x.2))=some ig→ig.length=es.length∧∃rI,Instr.fill (fun i=>some (i * sz,sz)) arr (ps.map fun x=>(x.1,ρ x.2))=some rI∧Flat rd φ sz ig rI
 | [],es,ig,arr,h,hf=>by cases hf;exact⟨rfl,arr,rfl,h⟩
 | x::ps,es,ig,arr,h,hf=>by
  simp only[List.map_cons,DK]at hf;split at hf
  ·rename_i h1 h2 h3;have h2:=Nat.eq_of_beq_eq_true h2;have h3:x.1<es.length:=Nat.le_of_ble_eq_true h3;obtain⟨hc,h1c⟩:=Ht (cT x.2) h1;have hs:(ρ x.2).cells.size=sz:=by rw[←h2,hc.1];simp
   have hz:x.1 * sz+sz≤arr.size:=by
    rw[h.1];have:=Nat.mul_le_mul_right sz (show x.1+1≤es.length from h3)
    rwa[Nat.succ_mul]at this
   have Li:=LZ (x.1 * sz) (ρ x.2).cells.toList 0 arr (by simp;omega);have GF:Instr.fill (fun i=>some (i * sz,sz)) arr ((x.1,ρ x.2)::ps.map fun x=>(x.1,ρ x.2))=Instr.fill (fun i=>some (i * sz,sz)) ((ρ x.2).cells.zipIdx.foldl (fun cs (y:Value × Nat)=>cs.setIfInBounds (x.1 * sz+y.2) y.1) arr) (ps.map fun x=>(x.1,ρ x.2)):=by
    rw[Instr.fill];have e:((ρ x.2).cells.size≠sz||x.1 * sz+(ρ x.2).cells.size>arr.size)=false:=by simp[hs];omega
    simp only[e];rfl
   have e2:((ρ x.2).cells.zipIdx.foldl (fun cs (y:Value × Nat)=>cs.setIfInBounds (x.1 * sz+y.2) y.1) arr).toList=arr.toList.take (x.1 * sz)++((ρ x.2).cells.toList++arr.toList.drop (x.1 * sz+sz)):=by
    rw[←Array.foldl_toList,Array.toList_zipIdx,Li];simp[hs]
   generalize (ρ x.2).cells.zipIdx.foldl (fun cs (y:Value × Nat)=>cs.setIfInBounds (x.1 * sz+y.2) y.1) arr=HX at GF e2;have CI:Flat rd φ sz (es.set x.1 (ji (ev x.2))) HX:=by
    have acB:HX.size=arr.size:=by
     have:=congrArg List.length e2;simp only[Array.length_toList,List.length_append,List.length_take,List.length_drop]at this;omega
    refine⟨by rw[acB,h.1];simp,fun e he=>?_,fun i j c aU=>?_⟩
    ·rcases List.mem_or_eq_of_mem_set he with he|rfl
     ·exact h.2.1 e he
     exact h2
    have kA:∀k:Nat,HX[k]?=HX.toList[k]?:=fun k=>(Array.getElem?_toList ..).symm
    rw[kA,e2];by_cases hi:x.1=i
    ·subst hi;rw[List.getElem?_set_self h3,Option.bind_some]at aU;obtain⟨v,hv,hr⟩:=hc.2 j c aU;refine⟨v,?_,hr⟩;have hj:j<(ρ x.2).cells.toList.length:=by
      rcases bm j (ρ x.2).cells.toList.length with hx|hx
      ·exact hx
      rw[List.getElem?_eq_none hx]at hv;cases hv
     rw[List.getElem?_append_right (by simp;omega),List.getElem?_append_left (by simp at hj ⊢;omega)];rw[←hv];congr 1;simp;omega
    rw[List.getElem?_set_ne hi]at aU;obtain⟨v,hv,hr⟩:=h.2.2 i j c aU;refine⟨v,?_,hr⟩;have hj:j<sz:=by
     cases he:es[i]? with
     | none=>rw[he]at aU;cases aU
     | some e=>
      rw[he]at aU;rw[←h.2.1 e (dh he)];rcases bm j e.length with hx|hx
      ·exact hx
      rw[Option.bind_some,List.getElem?_eq_none hx]at aU;cases aU
    rcases Nat.lt_or_gt_of_ne hi with hx|hx
    ·have hm:=Nat.mul_le_mul_right sz (show x.1+1≤i from hx);rw[Nat.succ_mul]at hm;rw[List.getElem?_append_right (by simp;omega),List.getElem?_append_right (by simp;omega),List.getElem?_drop,←hv];have:arr[i * sz+j]?=arr.toList[i * sz+j]?:=by simp
     rw[this];congr 1;simp;omega
    have hm:=Nat.mul_le_mul_right sz (show i+1≤x.1 from hx);rw[Nat.succ_mul]at hm;rw[List.getElem?_append_left (by simp;omega),List.getElem?_take,if_pos (by omega),←hv];simp
   simp only[List.map_cons];rw[GF];obtain⟨l1,l2⟩:=V5 cT ps CI hf;exact⟨by simpa using l1,l2⟩
  cases hf
theorem V4 {t len:Nat}{ev:Operand→AV}{ρ:Operand→Value}(cT:∀x,aL rd φ (ev x) (ρ x)) {parts:Array (Nat × Operand)}{x:Nat × List (List AV)}
  (ha:D5 P t len (parts.toList.map fun x=>(x.1,ev x.2))=some x):∃(arr:Array Value) (T:TypeId),x.2.length=len∧Flat rd φ x.1 x.2 arr∧1≤x.1∧
   (Instr.buildSlice t len (parts.map fun(i,x)=>(i,ρ x))).run P w=.ok (.slice (some ⟨w.heap.size,0,none⟩) len len) (w.alloc (.cells arr T)):=by
 unfold D5 at ha;obtain⟨i,hi,cN⟩:=cw ha;obtain⟨e,he,cA⟩:=cw cN;obtain⟨z,hz,fZ⟩:=cw cA;clear ha cN cA;split at fZ
 ·rename_i hk lK j5 yf;obtain⟨es,hf,rfl⟩:=cJ fZ;have lK:=Nat.eq_of_beq_eq_true lK;have j5:=Nat.le_of_ble_eq_true j5;have yf:=Nat.le_of_ble_eq_true yf;have hu:=qJ hi hk;obtain⟨inf,dj,e1,e2,e3,e4,e5,e6,-⟩:=o6 he;rw[e6]at hz;obtain⟨zv,sm,rfl⟩:=cJ hz;have xJ:zv.cells.size=e.sz:=by simpa using lK
  have e0:(parts.map fun(x:Nat × Operand)=>(x.1,ρ x.2)).toList=parts.toList.map fun x=>(x.1,ρ x.2):=by simp
  have ac5:Flat rd φ e.sz (List.replicate len (zv.cells.toList.map kW)) ((Array.range (len * e.sz)).map (zv.cells[·%zv.cells.size]!)):=by
   refine⟨by simp,fun x hx=>by rw[(List.mem_replicate.1 hx).2];simpa using xJ,fun a b c hc=>?_⟩;rw[List.getElem?_replicate]at hc;split at hc
   ·rename_i ab;simp only[Option.bind_some]at hc;obtain⟨u,hu,hr⟩:=(PW.kW (rd:=rd) (φ:=φ) zv.cells.toList).2 b c hc;have hb:b<zv.cells.size:=by
     rcases bm b zv.cells.size with hx|hx
     ·exact hx
     rw[List.getElem?_eq_none (by simpa using hx)]at hu;cases hu
    refine⟨u,?_,hr⟩;have h1:a * e.sz+b<len * e.sz:=by
     have:=Nat.mul_le_mul_right e.sz (show a+1≤len from ab);rw[Nat.succ_mul]at this;omega
    have h2:(a * e.sz+b)%zv.cells.size=b:=by rw[xJ,Nat.mul_comm,Nat.mul_add_mod];exact Nat.mod_eq_of_lt (by omega)
    have cM:zv.cells[b]?=some u:=by simpa using hu
    simp only[Array.getElem?_map,Array.getElem?_range,if_pos h1,Option.map_some,h2];rw[getElem!_pos zv.cells b hb];rw[Array.getElem?_eq_getElem hb]at cM;exact cM
   cases hc
  obtain⟨l1,arr,l2,l3⟩:=V5 cT parts.toList ac5 hf;refine⟨arr,i.el,by simpa using l1,l3,j5,?_⟩;have ait:¬len * e.sz>2 ^ 24:=by omega
  by_cases jd:len * e.sz=0
  ·have:len=0:=by
    rcases Nat.mul_eq_zero.1 jd with h|h
    ·exact h
    omega
   subst this;have zU:Array.range 0=#[]:=rfl;rw[Nat.zero_mul,zU]at l2;have Kv:Instr.fill (fun i=>some (i * e.sz,e.sz)) #[] (parts.toList.map fun x=>(x.1,ρ x.2))=some arr:=by simpa using l2
   simp[Instr.buildSlice,run_underlying hu,pV he,newRow,zU,Kv]
  have Kv:Instr.fill (fun i=>some (i * e.sz,e.sz)) ((Array.range (len * e.sz)).map (zv.cells[·%zv.cells.size]!)) (parts.toList.map fun x=>(x.1,ρ x.2))=some arr:=l2;have ais:¬16777216<len * e.sz:=by omega
  have hz1:¬(len=0∨e.sz=0):=fun hh=>jd (Nat.mul_eq_zero.2 hh)
  have zP:(zeroValue i.el).run P w=.ok zv w:=by simp[zeroValue,typeInfo,e1,sm]
  simp only[Instr.buildSlice,Sem.run_bind,run_underlying hu,pV he,Result.andThen_ok];rw[if_neg (show ¬len * e.sz>2 ^ 24 by omega),if_neg jd];simp only[Sem.run_bind,zP,Result.andThen_ok,Sem.run_pure,e0,Kv];simp[newRow]
 cases fZ
theorem bp.aaW (h:bp rd φ O w0 σ w) (arr:Array Value) (T:TypeId):∃rd',Ext O w0 rd rd'∧bp rd' φ O w0 σ (w.alloc (.cells arr T))∧(∀o,rd' w.heap.size o=arr[o]?):=by
 have ab:∀{r g p row pl b q},rowAt σ r g p=some row→φ r g p=some pl→pl.ad=some (b,q)→b<w.heap.size:=fun h1 h2 h3=>(h.own _ _ _ _ _ _ _ h1 h2 h3).2
 have gb:∀k,(w.alloc (.cells arr T)).cell? (cI w.heap.size k)=arr[k]?:=by
  intro k;show(match (w.heap.push _)[w.heap.size]? with|some (.cells c _ _)=>if (cI w.heap.size k).spot.isSome then none else c[k]?|_=>none)=_
  rw[Array.getElem?_push_size];rfl
 have eH:∀o,rd w.heap.size o=none:=fun o=>by
  cases hr:rd w.heap.size o with
  | none=>rfl
  | some v=>exact absurd (sZ (w:=w) (b:=w.heap.size) (k:=o) (by rw[h.eh _ _ _ hr];rfl)) (Nat.lt_irrefl _)
 refine⟨fun b o=>if b=w.heap.size then arr[o]? else rd b o,⟨fun b o v e=>?_,fun b o hb S6=>?_⟩,⟨?_,h.sep,?_,?_,?_,?_,?_,h.os,h.tape,h.output⟩,fun o=>if_pos rfl⟩
 ·show(if b=w.heap.size then arr[o]? else rd b o)=some v
  split
  ·rename_i hb;subst hb;rw[eH]at e;cases e
  exact e
 ·refine if_neg ?_;have:=h.size;omega
 ·intro r g p row hr;obtain⟨pl,h1,h2⟩:=h.rows _ _ _ _ hr;refine⟨pl,h1,?_⟩;have hm:=h2.of_same (w':=w.alloc (.cells arr T)) (fun b q aK k=>⟨vM (ab hr h1 aK),G5 (ab hr h1 aK)⟩) fun b q aK es ck e=>by rw[Below.heap_alloc _ _ _ (ab hr h1 aK)];exact e
  exact hm.mono (fun b o v e=>by
   show(if b=w.heap.size then arr[o]? else rd b o)=some v
   split
   ·rename_i hb;subst hb;rw[eH]at e;cases e
   exact e) (fun _ _ _ _ h=>h)
 ·intro b o v e;replace e:(if b=w.heap.size then arr[o]? else rd b o)=some v:=e;split at e
  ·rename_i hb;subst hb;rw[gb];exact e
  have:=h.eh b o v e;rw[vM (sZ (by rw[this];rfl))];exact this
 ·intro r g p row pl b q h1 h2 h3 k dD;refine(if_neg (by have:=ab h1 h2 h3;omega)).trans ?_;exact h.et _ _ _ _ _ _ _ h1 h2 h3 k dD
 ·intro r g p row pl b q h1 h2 h3;rw[World.size_alloc];obtain⟨ha,hb⟩:=h.own _ _ _ _ _ _ _ h1 h2 h3;exact⟨ha,by omega⟩
 ·intro b hb hO;rw[Below.heap_alloc _ _ _ (Nat.lt_of_lt_of_le hb h.size)];exact h.frame b hb hO
 rw[World.size_alloc];exact Nat.le_succ_of_le h.size
end
section
variable {P:Program}{rd:RD}{φ:b9}{O:Nat→Prop}{w0 w:World}{σ:aj}{d G:Nat}
theorem ahe (h:bp rd φ O w0 σ w) {t len:Nat}{v:AV}{ev:Operand→AV}{ρ:Operand→Value}(cT:∀x,aL rd φ (ev x) (ρ x)) {parts:Array (Nat × Operand)}
  (ha:AM P t len (parts.toList.map fun x=>(x.1,ev x.2))=some v):∃cv w' rd',(Instr.buildSlice t len (parts.map fun(i,x)=>(i,ρ x))).run P w=.ok cv w'∧Ext O w0 rd rd'∧bp rd' φ O w0 σ w'∧aL rd' φ v cv:=by
 unfold AM at ha;obtain⟨x,hx,cN⟩:=cw ha;split at cN
 ·rename_i fA;have fA:=Nat.le_of_ble_eq_true fA;cases cN;obtain⟨arr,T,h1,h2,h3,h4⟩:=V4 (P:=P) (w:=w) cT hx;obtain⟨rd',k1,k2,k3⟩:=h.aaW arr T;refine⟨_,_,rd',h4,k1,k2,?_⟩;have iR:∀i j c,(x.2[i]?).bind (·[j]?)=some c→gE c=true∧∃v,arr[i * x.1+j]?=some v∧aL rd φ c v:=by
   intro i j c hc;refine⟨?_,h2.2.2 i j c hc⟩;cases he:x.2[i]? with
   | none=>rw[he]at hc;cases hc
   | some e=>rw[he]at hc;exact(G9 e (dh he)).1 fA c (dh hc)
  have:=aL.ro (rd:=rd') (φ:=φ) x.1 x.2 w.heap.size 0 len (fun i j=>(arr[i * x.1+j]?).getD undef) (by omega) (fun i j c hc=>(iR i j c hc).1)
   (fun i j c hc=>by obtain⟨_,v,hv,_⟩:=iR i j c hc;rw[k3,Nat.zero_add,hv];rfl)
   (fun i j c hc=>by obtain⟨_,v,hv,hr⟩:=iR i j c hc;rw[hv];exact hr.mono k1.1 (fun _ _ _ _ h=>h))
  rw[h1]at this;exact this
 cases cN
theorem VV:∀{es:List (List AV)}{l:List UInt8}{news:List Value},bytesOf es=some l→news.length=es.length→(∀i j c,(es[i]?).bind (·[j]?)=some c→∃v,news[i * 1+j]?=some v∧aL rd φ c v)→
  ∃ns:List Int,news=ns.map (Value.int .u8)∧l=ns.map fun n=>UInt8.ofNat n.toNat
 | [],l,news,hb,hl,h=>by cases hb;exact⟨[],by simpa using List.eq_nil_of_length_eq_zero hl,rfl⟩
 | e::es,l,news,hb,hl,h=>by
  unfold bytesOf at hb;split at hb
  ·rename_i heq;cases heq
  ·rename_i n ig heq;cases heq;obtain⟨l',qs,rfl⟩:=cJ hb;cases news with
   | nil=>simp at hl
   | cons v news=>
    obtain⟨u,hu,hr⟩:=h 0 0 _ rfl;simp only[Nat.zero_mul,Nat.add_zero,List.getElem?_cons_zero,Option.some.injEq]at hu;subst hu;have hv:=fq hr;obtain⟨ns,h1,h2⟩:=VV (news:=news) qs (by simpa using hl) (fun i j c hc=>by
     have:=h (i+1) j c (by simpa using hc)
     rwa[show(i+1) * 1+j=(i * 1+j)+1 by omega,List.getElem?_cons_succ]at this)
    exact⟨n::ns,by rw[List.map_cons,hv,h1],by rw[List.map_cons,h2]⟩
  cases hb
theorem ahE (h:bp rd φ O w0 σ w) {s dst:Nat}(hd:tk P dst=some .string) {x v:AV}{cx:Value}(hs:tk P s=some .slice) (hx:aL rd φ x cx) (ha:Ia P σ s x=some v):kE rd φ O w0 σ v ((convert s dst cx).run P w):=by
 unfold Ia at ha;obtain⟨i,hi,cN⟩:=cw ha;split at cN
 ·rename_i sD;obtain⟨es,mH,cA⟩:=cw cN;obtain⟨l,hl,rfl⟩:=cJ cA;have hu:P.underlying s=some (.slice i.el):=by
   obtain⟨i',fK,bW⟩:=jM hs;rw[hi]at fK;cases fK;exact qJ hi bW
  have he:P.underlying i.el=some (.int .u8):=by
   obtain⟨e,he,hk⟩:=jM sD;obtain⟨dj,h1,h2,_⟩:=mW he;rw[hk]at h2;cases dj<;>simp[kP]at h2;rw[h1,h2]
  have GJ:=Bg hd;obtain⟨news,k1,k2,k3,k4,k6,k5⟩:=I4 h hx mH;obtain⟨ns,m1,m2⟩:=VV hl (by rw[k1.newsLen,Nat.mul_one]) k2;have ac4:∃A n cap,cx=.slice A n cap:=by
   unfold wE at mH;split at mH
   ·cases hx;exact⟨_,_,_,rfl⟩
   ·cases hx<;>exact⟨_,_,_,rfl⟩
   ·cases hx;exact⟨_,_,_,rfl⟩
   ·rename_i hk;rw[hs]at hk;cases hk
   cases mH
  obtain⟨A,n,cap,rfl⟩:=ac4;have hn:=k1.len w;simp only[Builtin.lenOf,Sem.run_pure,Result.ok.injEq,and_true]at hn;subst hn;cases A with
  | none=>
   have hc:=k1.cells;simp only[Builtin.firstCells,Sem.run_pure,Result.ok.injEq,and_true]at hc;have bO:news=[]:=by simpa using hc.symm
   have hns:ns=[]:=by rw[m1]at bO;simpa using bO
   subst hns;refine .same h (cv:=.string ByteArray.empty) (run_convert_bytes_nil w s i.el hu he _ _ dst GJ) ?_;rw[m2];exact .sc _ rfl
  | some a=>
   have hc:=k1.cells;simp only[Builtin.firstCells,Nat.mul_one]at hc;rw[m1]at hc;have:=run_bytesToString (P:=P) w a _ cap ns hc;refine .same h (cv:=.string _) (by rw[run_convert_bytes_string w s dst i.el _ _ cap hu he GJ];exact this) ?_;rw[foldl_push_bytes,m2];have e:(⟨ByteArray.empty.data++(ns.map fun n=>UInt8.ofNat n.toNat).toArray⟩:ByteArray)=⟨(ns.map fun n=>UInt8.ofNat n.toNat).toArray⟩:=by
    congr 1;show #[]++_=_
    simp
   rw[e];exact .sc _ rfl
 cases cN
end
end
section
open Go Go.RowKit
set_option linter.unusedVariables false
def jJ (P:Program) (d G:Nat) (ev:Operand→AV) (σ:aj):Op→Option (AV × aj)
 | .move x=>some (ev x,σ)
 | .assign x=>some (ev x,σ)
 | .pick c a b=>(H3 (ev c) (ev a) (ev b)).map fun v=>(v,σ)
 | .alloc t=>D8 P d G σ t
 | .box t x=>D6 P d G σ t (ev x)
 | .load t a=>(yJ P σ t (ev a)).map fun v=>(v,σ)
 | .store t a x=>(AH P σ t (ev a) (ev x)).map fun σ'=>(.dead,σ')
 | .fieldAddr t x f=>(D2 P t (ev x) f).map fun v=>(v,σ)
 | .extract x i=>(D4 (ev x) i).map fun v=>(v,σ)
 | .nilCheck x=>(H4 (ev x)).map fun v=>(v,σ)
 | .binOp op t x y _=>(D7 P op t (ev x) (ev y)).map fun v=>(v,σ)
 | .unOp op _ x=>(DX op (ev x)).map fun v=>(v,σ)
 | .convert s t x=>(H8 P σ s t (ev x)).map fun v=>(v,σ)
 | .slice t x lo hi mx=>(AI P t (ev x) (lo.map ev) (hi.map ev) (mx.map ev)).map fun v=>(v,σ)
 | .index t x y=>(D1 P t (ev x) (ev y)).map fun v=>(v,σ)
 | .field t x f=>(D3 P t (ev x) f).map fun v=>(v,σ)
 | .build t parts=>(AN P t (parts.toList.map fun x=>(x.1,ev x.2))).map fun v=>(v,σ)
 | .buildSlice t len parts=>(AM P t len (parts.toList.map fun x=>(x.1,ev x.2))).map fun v=>(v,σ)
 | .indexAddr t x y=>(D0 P σ t (ev x) (ev y)).map fun v=>(v,σ)
 | .makeSlice t l c=>DY P d G σ t (ev l) (ev c)
 | .call c=>match c.callee,c.args.toList,c.argTypes.toList with
  | .builtin .len,[x],[t]=>(DZ P t (ev x)).map fun v=>(v,σ)
  | .builtin .min,[x,y],_=>(H5 (ev x) (ev y)).map fun v=>(v,σ)
  | .builtin .max,[x,y],_=>(H6 (ev x) (ev y)).map fun v=>(v,σ)
  | _,_,_=>none
 | _=>none
section
variable {P:Program}{rd:RD}{φ:b9}{O:Nat→Prop}{w0 w:World}{σ:aj}{d G:Nat}
def uv:Op→Bool
 | .alloc _|.box ..|.makeSlice ..=>true
 | _=>false
def yM (rd:RD) (φ:b9) (O:Nat→Prop) (w0:World) (d G:Nat) (b:Bool) (σ':aj) (v:AV) (r:Result Next):Prop:=
 ∃nx cv w' rd' φ',r=.ok nx w'∧(nx=.value cv∨(nx=.skip∧cv=undef))∧Ext O w0 rd rd'∧bp rd' φ' O w0 σ' w'∧aL rd' φ' v cv∧(∀r g p pl,φ r g p=some pl→φ' r g p=some pl)∧(∀r g p,φ' r g p≠none→φ r g p≠none∨(b=true∧r=d∧g=G))
theorem tl.next {σ':aj}{v:AV}{s:Sem Value}(h:tl rd φ O w0 d G σ' v (s.run P w)):yM rd φ O w0 d G true σ' v ((do pure (.value (←s)):Sem Next).run P w):=by
 obtain⟨cv,w',φ',h1,h2,h3,h4,h5⟩:=h;exact⟨.value cv,cv,w',rd,φ',by rw[Sem.run_bind,h1];rfl,.inl rfl,.refl,h2,h3,h4,fun r g p hp=>(h5 r g p hp).imp id fun h=>⟨rfl,h⟩⟩
theorem kE.next {σ':aj}{v:AV}{b:Bool}{s:Sem Value}(h:kE rd φ O w0 σ' v (s.run P w)):yM rd φ O w0 d G b σ' v ((do pure (.value (←s)):Sem Next).run P w):=by
 obtain⟨cv,w',h1,h2,h3⟩:=h;exact⟨.value cv,cv,w',rd,φ,by rw[Sem.run_bind,h1];rfl,.inl rfl,.refl,h2,h3,fun _ _ _ _ h=>h,fun _ _ _ h=>.inl h⟩
theorem ahR (h:bp rd φ O w0 σ w) (dJ:∀p,φ d G p=none) {ev:Operand→AV}{ρ:Operand→Value}(cT:∀x,aL rd φ (ev x) (ρ x)) {o:Oper}{v:AV}{σ':aj}
  (ha:jJ P d G ev σ o.op=some (v,σ')):yM rd φ O w0 d G (uv o.op) σ' v ((execOp ρ o).run P w):=by
 have hN:∀{a b:AV × aj},some a=some b→a=b:=fun e=>Option.some.inj e
 unfold execOp;cases dV:o.op with
 | move x=>
  rw[dV]at ha;cases ha;exact⟨_,_,w,rd,φ,rfl,.inl rfl,.refl,h,cT x,fun _ _ _ _ h=>h,fun _ _ _ h=>.inl h⟩
 | assign x=>
  rw[dV]at ha;cases ha;exact⟨_,_,w,rd,φ,rfl,.inl rfl,.refl,h,cT x,fun _ _ _ _ h=>h,fun _ _ _ h=>.inl h⟩
 | pick c a b=>
  rw[dV]at ha;simp only[jJ]at ha;obtain⟨u,hu,e⟩:=cJ ha;cases e;unfold H3 at hu;have hc:=cT c;split at hu
  ·rename_i heq;rw[heq]at hc;cases hu;exact⟨_,_,w,rd,φ,by simp[fq hc,asBool],.inl rfl,.refl,h,cT a,fun _ _ _ _ h=>h,fun _ _ _ h=>.inl h⟩
  ·rename_i heq;rw[heq]at hc;cases hu;exact⟨_,_,w,rd,φ,by simp[fq hc,asBool],.inl rfl,.refl,h,cT b,fun _ _ _ _ h=>h,fun _ _ _ h=>.inl h⟩
  cases hu
 | alloc t=>
  rw[dV]at ha;exact(ahL h dJ ha _).next
 | box t x=>
  rw[dV]at ha;exact(ahg h dJ (cT x) ha).next
 | load t a=>
  rw[dV]at ha;obtain⟨u,hu,e⟩:=cJ ha;cases e;exact(abJ h (cT a) hu).next
 | store t a x=>
  rw[dV]at ha;obtain⟨u,hu,e⟩:=cJ ha;cases e;obtain⟨w',rd',h1,hx,h2⟩:=Yq h (cT a) (cT x) hu;exact⟨.skip,undef,w',rd',φ,by simp only[Sem.run_bind,h1];rfl,.inr ⟨rfl,rfl⟩,hx,h2,.dead _,fun _ _ _ _ h=>h,fun _ _ _ h=>.inl h⟩
 | fieldAddr t x f=>
  rw[dV]at ha;obtain⟨u,hu,e⟩:=cJ ha;cases e;exact(aea h (cT x) hu).next
 | extract x i=>
  rw[dV]at ha;obtain⟨u,hu,e⟩:=cJ ha;cases e;exact(aee h (cT x) hu).next
 | nilCheck x=>
  rw[dV]at ha;obtain⟨u,hu,e⟩:=cJ ha;cases e;have hx:=cT x;unfold H4 at hu;split at hu
  ·rename_i heq;rw[heq]at hx;cases hu;cases hc:ρ x with
   | pointer A=>
    cases A with
    | none=>rw[hc]at hx;cases hx
    | some A=>rw[hc]at hx;exact⟨_,_,w,rd,φ,by simp only[hc];rfl,.inl rfl,.refl,h,hx,fun _ _ _ _ h=>h,fun _ _ _ h=>.inl h⟩
   | _=>rw[hc]at hx;cases hx
  ·rename_i heq;rw[heq]at hx;cases hu;cases hc:ρ x with
   | pointer A=>
    cases A with
    | none=>rw[hc]at hx;cases hx
    | some A=>rw[hc]at hx;exact⟨_,_,w,rd,φ,by simp only[hc];rfl,.inl rfl,.refl,h,hx,fun _ _ _ _ h=>h,fun _ _ _ h=>.inl h⟩
   | _=>rw[hc]at hx;cases hx
  cases hu
 | binOp op t x y yt=>
  rw[dV]at ha;obtain⟨u,hu,e⟩:=cJ ha;cases e;exact(ahw h (cT x) (cT y) hu).next
 | unOp op t x=>
  rw[dV]at ha;obtain⟨u,hu,e⟩:=cJ ha;cases e;exact(X1 h (cT x) hu).next
 | convert s t x=>
  rw[dV]at ha;obtain⟨u,hu,e⟩:=cJ ha;cases e;unfold H8 at hu;split at hu
  ·rename_i h1 h2;exact(ahE h h2 h1 (cT x) hu).next
  exact(ae6 h (cT x) hu).next
 | slice t x lo hi mx=>
  rw[dV]at ha;obtain⟨u,hu,e⟩:=cJ ha;cases e;have aux:∀(o:Option Operand) (a:AV),o.map ev=some a→∃c,o.map ρ=some c∧aL rd φ a c:=by
   intro o a h;cases o with
   | none=>cases h
   | some x=>cases h;exact⟨_,rfl,cT x⟩
  have ND:∀(o:Option Operand),o.map ev=none→o.map ρ=none:=by
   intro o h;cases o with
   | none=>rfl
   | some x=>cases h
  exact(YH h (cT x) (aux lo) (ND lo) (aux hi) (ND hi) (ND mx) hu).next
 | index t x y=>
  rw[dV]at ha;obtain⟨u,hu,e⟩:=cJ ha;cases e;exact(acu h (cT x) (cT y) hu).next
 | field t x f=>
  rw[dV]at ha;obtain⟨u,hu,e⟩:=cJ ha;cases e;exact(ad9 h (cT x) hu).next
 | build t parts=>
  rw[dV]at ha;obtain⟨u,hu,e⟩:=cJ ha;cases e;exact(ahd h cT hu).next
 | buildSlice t len parts=>
  rw[dV]at ha;obtain⟨u,hu,e⟩:=cJ ha;cases e;obtain⟨cv,w',rd',h1,h2,h3,h4⟩:=ahe h cT hu;exact⟨.value cv,cv,w',rd',φ,by simp only[Sem.run_bind,h1,Result.andThen_ok,Sem.run_pure],.inl rfl,h2,h3,h4,fun _ _ _ _ h=>h,fun _ _ _ h=>.inl h⟩
 | indexAddr t x y=>
  rw[dV]at ha;obtain⟨u,hu,e⟩:=cJ ha;cases e;exact(acv h (cT x) (cT y) hu).next
 | makeSlice t l c=>
  rw[dV]at ha;exact(abi h dJ (cT l) (cT c) ha).next
 | call c=>
  rw[dV]at ha;simp only[jJ]at ha;split at ha
  ·rename_i x t j0 eY jr;obtain⟨u,hu,e⟩:=cJ ha;cases e;have h1:c.args=#[x]:=by rw[←Array.toList_inj,eY]
   have h2:c.argTypes=#[t]:=by rw[←Array.toList_inj,jr]
   have key:=(abK h (cT x) hu c.argTypes (by rw[h2];rfl) o.type (c.args.map ρ) (by rw[h1];simp)).next (d:=d) (G:=G) (b:=uv (.call c))
   simp only[resolve,j0];exact key
  ·rename_i x y j0 eY;obtain⟨u,hu,e⟩:=cJ ha;cases e;have h1:c.args=#[x,y]:=by rw[←Array.toList_inj,eY]
   unfold H5 at hu;split at hu
   ·rename_i k a k' b CQ qs;have e1:=cT x;have e2:=cT y;rw[CQ]at e1;rw[qs]at e2;cases hu;have c1:=fq e1;have c2:=fq e2;refine⟨.value (.int k (min a b)),.int k (min a b),w,rd,φ,?_,.inl rfl,.refl,h,.sc _ rfl,fun _ _ _ _ h=>h,fun _ _ _ h=>.inl h⟩;have e3:(min a b:Int)=if b<a then b else a:=by omega
    simp[resolve,j0,h1,invoke,builtin,Builtin.min_,c1,c2,Builtin.min2,e3]
   cases hu
  ·rename_i x y j0 eY;obtain⟨u,hu,e⟩:=cJ ha;cases e;have h1:c.args=#[x,y]:=by rw[←Array.toList_inj,eY]
   unfold H6 at hu;split at hu
   ·rename_i k a k' b CQ qs;have e1:=cT x;have e2:=cT y;rw[CQ]at e1;rw[qs]at e2;cases hu;have c1:=fq e1;have c2:=fq e2;refine⟨.value (.int k (max a b)),.int k (max a b),w,rd,φ,?_,.inl rfl,.refl,h,.sc _ rfl,fun _ _ _ _ h=>h,fun _ _ _ h=>.inl h⟩;have e3:(max a b:Int)=if b>a then b else a:=by omega
    simp[resolve,j0,h1,invoke,builtin,Builtin.max_,c1,c2,Builtin.max2,e3]
   cases hu
  cases ha
 | _=>rw[dV]at ha;cases ha
end
structure St where
 n:Nat
 tm:List (Nat × AV)
 σ:aj
 G:Nat
def ev (s:St):Operand→AV
 | .tmp t=>match bI s.tm t with
  | some v=>v
  | none=>.dead
 | .const v=>v8 v
 | .func f=>.sc (.func (.func f) #[] #[])
 | .global _=>.dead
structure Rel (rd:RD) (φ:b9) (O:Nat→Prop) (w0:World) (s:St) (a:Act) (w:World):Prop where
 heap:bp rd φ O w0 s.σ w
 tm:∀t v,bI s.tm t=some v→aL rd φ v (a.tmps.getD t undef)
 size:a.tmps.size=s.n
 defers:a.defers=[]
 gen:∀r g p,φ r g p≠none→g<s.G
abbrev kD:=RD × b9
def mT (O:Nat→Prop) (w0:World) (E:kD) (rd:RD) (φ:b9):Prop:=Ext O w0 E.1 rd∧∀r p pl,E.2 r 0 p=some pl→1000000≤r→φ r 0 p=some pl
theorem mT.refl {O:Nat→Prop}{w0:World}{rd:RD}{φ:b9}:mT O w0 (rd,φ) rd φ:=⟨.refl,fun _ _ _ h _=>h⟩
theorem mT.step {O:Nat→Prop}{w0:World}{E:kD}{rd rd':RD}{φ φ':b9}(h:mT O w0 E rd φ) (hx:Ext O w0 rd rd') (hφ:∀r g p pl,φ r g p=some pl→φ' r g p=some pl):mT O w0 E rd' φ':=
 ⟨h.1.trans hx,fun r p pl e hr=>hφ _ _ _ _ (h.2 r p pl e hr)⟩
def ik (E:kD) (O:Nat→Prop) (w0:World) (s:St) (a:Act) (w:World):Prop:=∃rd' φ,mT O w0 E rd' φ∧Rel rd' φ O w0 s a w
def s9:Bool→Nat→Nat
 | true,G=>G+1
 | false,G=>G
def put (s:St) (dst:Option Nat) (v:AV) (σ:aj) (b:Bool) (K:St→Prop):Prop:=
 match dst with
 | none=>K ⟨s.n,s.tm,σ,s9 b s.G⟩
 | some d=>match Nat.blt d s.n with
  | true=>K ⟨s.n,(d,v)::s.tm,σ,s9 b s.G⟩
  | false=>False
section
variable {P:Program}{rd:RD}{φ:b9}{O:Nat→Prop}{w0 w:World}{s:St}{a:Act}
theorem Rel.ev (h:Rel rd φ O w0 s a w) (x:Operand):aL rd φ (ev s x) (a.eval x):=by
 cases x with
 | tmp t=>
  simp only[E.ev,Act.eval];cases hl:bI s.tm t with
  | none=>exact .dead _
  | some v=>exact h.tm t v hl
 | const v=>exact NU v
 | func f=>exact .sc _ rfl
 | global g=>exact .dead _
theorem GV (a:Act) (d t:Nat) (v:Value) (hd:d<a.tmps.size):(a.put (some d) v).tmps.getD t undef=if t=d then v else a.tmps.getD t undef:=by
 simp only[Act.put,Array.getD_eq_getD_getElem?,Array.getElem?_setIfInBounds];by_cases h:t=d
 ·subst h;simp[hd]
 have h':¬d=t:=fun e=>h e.symm
 simp[h,h']
theorem Rel.put (h:Rel rd φ O w0 s a w) {dst:Option Nat}{v:AV}{σ:aj}{b:Bool}{K:St→Prop}(hk:E.put s dst v σ b K) {rd':RD}(hx:∀b o v,rd b o=some v→rd' b o=some v) {φ':b9}{w':World}{cv:Value}(hh:bp rd' φ' O w0 σ w')
  (hv:aL rd' φ' v cv) (h4:∀r g p pl,φ r g p=some pl→φ' r g p=some pl) (h5:∀r g p,φ' r g p≠none→φ r g p≠none∨(b=true∧r=dst.getD 0∧g=s.G)):
  ∃s',K s'∧Rel rd' φ' O w0 s' (a.put dst cv) w':=by
 have hg:∀r g p,φ' r g p≠none→g<s9 b s.G:=fun r g p hp=>(h5 r g p hp).elim (fun h'=>by have:=h.gen r g p h';cases b<;>simp only[s9]<;>omega) (fun⟨hb,_,h'⟩=>by subst hb;simp only[s9];omega)
 unfold E.put at hk;cases dst with
 | none=>exact⟨_,hk,hh,fun t v hl=>(h.tm t v hl).mono hx h4,h.size,h.defers,hg⟩
 | some d=>
  simp only at hk;split at hk
  ·rename_i hd;have hd:d<s.n:=Nat.le_of_ble_eq_true hd;refine⟨_,hk,hh,fun t u hl=>?_,by simp[Act.put,h.size],h.defers,hg⟩;rw[GV _ _ _ _ (by rw[h.size];exact hd)];simp only[gx]at hl;by_cases ht:d=t
   ·rw[if_pos ht]at hl;rw[if_pos ht.symm];cases hl;exact hv
   rw[if_neg ht]at hl;rw[if_neg (fun e=>ht e.symm)];exact(h.tm t u hl).mono hx h4
  exact hk.elim
end
def lX:List (List Nat × Row)→dZ
 | [],_=>none
 | (q,row)::l,p=>if p=q then some row else lX l p
def kK:List (List Nat × Row)→aj
 | []=>[]
 | l=>[(0,(0,lX l))]
def jQ (ψ:List Nat→Option Pl):b9:=fun r g p=>match r,g with
 | 0,0=>ψ p
 | _,_=>none
def th (P:Program) (n:Nat):Prop:=∃fn,P.funcs[n]?=some fn∧(fn.name== "runtime.NumGoroutine")=false∧fn.body.isNone=false
def aR (P:Program) (n:Nat) (args:List AV) (res:AV) (rf:List (List Nat × Row)):Prop:=
 th P n∧∀(w:World) (rd:RD) (eg:Array Value),(∀b o v,rd b o=some v→w.cell? (cI b o)=some v)→PW rd (fun _ _ _=>none) args eg.toList→
  Calls P n eg w fun e w'=>∃v rd' ψ,e=.returned v∧Ext (fun _=>False) w rd rd'∧bp rd' (jQ ψ) (fun _=>False) w (kK rf) w'∧aL rd' (jQ ψ) res v
def FA (d G:Nat):AV→AV
 | .au _ _ p sz off len=>.au d G p sz off len
 | .ptr _ _ p sz i o=>.ptr d G p sz i o
 | .mr _ _ p=>.mr d G p
 | .agg _|.ba _=>.dead
 | v=>v
def FB (d G:Nat):AV→AV
 | .agg cs=>.agg (cs.map (FA d G))
 | v=>FA d G v
def nm (d G:Nat):AV→AV
 | .ba vs=>.ba (vs.map (FB d G))
 | v=>FB d G v
def Bz (rf:List (List Nat × Row)):Bool:=rf.all fun x=>Nat.ble 1 x.2.fl
def np (σ:aj) (d G:Nat) (rf:List (List Nat × Row)):aj:=
 match rf with
 | []=>σ
 | rf=>bQ σ d (G,lX rf)
def Br (b:Bool) (X Y:Prop):Prop:=match b with
 | true=>X
 | false=>Y
theorem wc {X Y:Prop}:Br true X Y=X:=rfl
theorem we {X Y:Prop}:Br false X Y=Y:=rfl
theorem aij {b:Bool}{X Y:Prop}(h:b=true→X) (k:b=false→Y):Br b X Y:=by
 cases b with
 | true=>exact h rfl
 | false=>exact k rfl
def cZ {α:Type} (x:Option α) (K:α→Prop):Prop:=match x with
 | some v=>K v
 | none=>False
theorem aau {α:Type}{v:α}{K:α→Prop}:cZ (some v) K=K v:=rfl
theorem f7 {α:Type}{x:Option α}{K:α→Prop}(h:cZ x K):∃v,x=some v∧K v:=by
 cases x with
 | none=>cases h
 | some v=>exact⟨v,rfl,h⟩
theorem ml {α:Type}{x:Option α}{K:α→Prop}{v:α}(e:x=some v) (h:K v):cZ x K:=by rw[e];exact h
def aq (P:Program) (n:Nat) (args:List AV) (K:AV→List (List Nat × Row)→Prop):Prop:=∃res rf,aR P n args res rf∧K res rf
theorem aq.intro {P:Program}{n:Nat}{args:List AV}{K:AV→List (List Nat × Row)→Prop}{res:AV}{rf:List (List Nat × Row)}(h:aR P n args res rf) (k:K res rf):aq P n args K:=⟨res,rf,h,k⟩
def pM (s:St) (dst:Option Nat) (b:Bool) (K:St→Prop) (x:AV × aj):Prop:=put s dst x.1 x.2 b K
def Ee (s:St) (d:Option Nat) (K:St→Prop) (σ:aj) (res:AV) (rf:List (List Nat × Row)):Prop:=
 Bz rf=true∧put s d (nm (d.getD 0) s.G res) (np σ (d.getD 0) s.G rf) true K
def ahV (P:Program) (s:St) (d:Option Nat) (n:Nat) (K:St→Prop) (x:aj × List AV):Prop:=aq P n x.2 (Ee s d K x.1)
def IL (P:Program) (s:St) (o:Oper) (n:Nat) (args:List AV) (K:St→Prop):Prop:=
 cZ (oP s.σ args) (ahV P s o.dst n K)
def II (P:Program) (o:Oper) (s:St) (K:St→Prop):Prop:=
 match o.op with
 | .call c=>match c.callee with
  | .value (.func n)=>IL P s o n (c.args.toList.map (ev s)) K
  | _=>cZ (jJ P (o.dst.getD 0) s.G (ev s) s.σ o.op) (pM s o.dst (uv o.op) K)
 | _=>cZ (jJ P (o.dst.getD 0) s.G (ev s) s.σ o.op) (pM s o.dst (uv o.op) K)
def mh (ops:Array Oper) (j:Nat):Option Nat:=match ops[j]? with
 | some o=>o.dst
 | none=>none
def XB (P:Program) (ops:Array Oper) (o:Oper) (s:St) (K:St→Prop):Prop:=
 match o.guard with
 | none=>II P o s K
 | some (j,want)=>match mh ops j with
  | none=>False
  | some t=>match bI s.tm t with
   | some (.sc (.bool b))=>Br b (Br want (II P o s K) (put s o.dst (.ba []) s.σ false K)) (Br want (put s o.dst (.ba []) s.σ false K) (II P o s K))
   | some (.ba [])=>put s o.dst (.ba []) s.σ false K
   | _=>False
def XE (P:Program) (ops:Array Oper):List Oper→St→(St→Prop)→Prop
 | [],s,Q=>Q s
 | o::os,s,Q=>XB P ops o s fun s'=>XE P ops os s' Q
section
variable {P:Program}{rd:RD}{φ:b9}{O:Nat→Prop}{w0 w:World}{s:St}{a:Act}
theorem QO {ψ:List Nat→Option Pl}{d G:Nat}{c:AV}{v:Value}(h:aL rd (jQ ψ) c v):aL rd (dz φ d G ψ) (FA d G c) v:=by
 have h0:∀{r g:Nat} {p:List Nat} {pl:Pl},jQ ψ r g p=some pl→dz φ d G ψ d G p=some pl:=by
  intro r g p pl hp;unfold jQ at hp;split at hp
  ·simp[dz,hp]
  cases hp
 cases h with
 | au r g p sz off len pl A hφ hA hl=>exact .au d G p sz off len pl A (h0 hφ) hA hl
 | ptr r g p sz i o pl b q hφ aK=>exact .ptr d G p sz i o pl b q (h0 hφ) aK
 | dead v=>exact .dead v
 | sc v h=>exact .sc v h
 | aG=>exact .aG
 | ir sz A cap=>exact .ir sz A cap
 | ro sz es b q cap f hc hs hr hv=>exact(aL.ro sz es b q cap f hc hs hr hv).lT rfl
 | rp cs b q f hs hr hv=>exact(aL.rp cs b q f hs hr hv).lT rfl
 | agg=>exact .dead _
 | ba=>exact .dead _
 | it r=>exact .it r
 | mr r g p pl b hφ aK=>exact .mr d G p pl b (h0 hφ) aK
theorem PW.map {φ':b9}{g:AV→AV}(hg:∀{c v},aL rd φ c v→aL rd φ' (g c) v) {cs:List AV}{vs:List Value}(h:PW rd φ cs vs):PW rd φ' (cs.map g) vs:=
 ⟨by simp[h.1],fun j c hc=>by
  rw[List.getElem?_map]at hc;obtain⟨c',sF,rfl⟩:=cJ hc;obtain⟨v,hv,hr⟩:=h.2 j c' sF;exact⟨v,hv,hg hr⟩⟩
theorem QP {ψ:List Nat→Option Pl}{d G:Nat}{c:AV}{v:Value}(h:aL rd (jQ ψ) c v):aL rd (dz φ d G ψ) (FB d G c) v:=by
 cases c with
 | agg cs=>
  obtain⟨arr,rfl,hp⟩:=PW.mq h;exact PW.agg (hp.map QO)
 | _=>exact QO h
theorem QN {ψ:List Nat→Option Pl}{d G:Nat}{c:AV}{v:Value}(h:aL rd (jQ ψ) c v):aL rd (dz φ d G ψ) (nm d G c) v:=by
 cases c with
 | ba cs=>
  obtain⟨arr,rfl,hp⟩:=PW.tE h;exact PW.ba (hp.map QP)
 | _=>exact QP h
end
end
section
open Go Go.RowKit
set_option linter.unusedVariables false
section
variable {P:Program}{rd:RD}{φ:b9}{O:Nat→Prop}{w0 w:World}{s:St}{a:Act}
theorem Km {l:List (List Nat × Row)}{p:List Nat}{row:Row}(h:lX l p=some row):∃q,(q,row)∈l:=by
 induction l with
 | nil=>cases h
 | cons x l ih=>
  obtain⟨q,r⟩:=x;simp only[lX]at h;split at h
  ·cases h;exact⟨q,by simp⟩
  obtain⟨q',hq⟩:=ih h;exact⟨q',by simp[hq]⟩
theorem bp.join {rd':RD}{σ:aj}{w':World}{d G:Nat}{ψ:List Nat→Option Pl}{rf:List (List Nat × Row)}(h:bp rd φ O w0 σ w) (dJ:∀p,φ d G p=none)
  (hx:Ext (fun _=>False) w rd rd') (k:bp rd' (jQ ψ) (fun _=>False) w (kK rf) w')
  (fo:∀p row,lX rf p=some row→1≤row.fl):
  bp rd' (dz φ d G ψ) O w0 (np σ d G rf) w'∧(∀r g p pl,φ r g p=some pl→dz φ d G ψ r g p=some pl):=by
 have fL:∀r g p pl,φ r g p=some pl→dz φ d G ψ r g p=some pl:=by
  intro r g p pl hp;unfold dz;rw[if_neg (by rintro⟨rfl,rfl⟩;rw[dJ]at hp;cases hp)];exact hp
 have hold:∀b,b<w.heap.size→w'.heap[b]?=w.heap[b]?:=fun b hb=>k.frame b hb (fun h=>h)
 have iR:∀b q,b<w.heap.size→w'.cell? (cI b q)=w.cell? (cI b q):=fun b q hb=>World.cell?_of_block (hold b hb)
 have ac3:∀b q,b<w.heap.size→w'.frozen? (cI b q)=w.frozen? (cI b q):=fun b q hb=>World.frozen?_of_block (hold b hb)
 have cj:∀p row,lX rf p=some row→rowAt (kK rf) 0 0 p=some row:=by
  intro p row hp;cases rf with
  | nil=>cases hp
  | cons x l=>simp[rowAt,kK,bI,hp]
 have ch:∀{r g p row},rowAt (np σ d G rf) r g p=some row→(d=r∧G=g∧lX rf p=some row)∨(rowAt σ r g p=some row∧(rf=[]∨r≠d)):=by
  intro r g p row hr;cases rf with
  | nil=>exact .inr ⟨hr,.inl rfl⟩
  | cons x l=>
   simp only[np,jy]at hr;by_cases hd:r=d
   ·rw[if_pos hd]at hr;by_cases hg:G=g
    ·rw[if_pos hg]at hr;exact .inl ⟨hd.symm,hg,hr⟩
    rw[if_neg hg]at hr;cases hr
   rw[if_neg hd]at hr;exact .inr ⟨hr,.inr hd⟩
 have lE:∀p,dz φ d G ψ d G p=ψ p:=fun p=>by simp[dz]
 have zV:∀{r g p row},rowAt σ r g p=some row→dz φ d G ψ r g p=φ r g p:=by
  intro r g p row hr;obtain⟨pl,hp,_⟩:=h.rows _ _ _ _ hr;rw[fL _ _ _ _ hp,hp]
 have ab:∀{r g p row pl b q},rowAt σ r g p=some row→φ r g p=some pl→pl.ad=some (b,q)→b<w.heap.size:=fun h1 h2 h3=>(h.own _ _ _ _ _ _ _ h1 h2 h3).2
 have gb:∀{p row pl b q},lX rf p=some row→ψ p=some pl→pl.ad=some (b,q)→w.heap.size≤b∧b<w'.heap.size:=by
  intro p row pl b q h1 h2 h3;obtain⟨h4,h5⟩:=k.own 0 0 p row pl b q (cj _ _ h1) (by simpa[jQ]using h2) h3;exact⟨h4.elim (fun h=>h.elim) id,h5⟩
 refine⟨⟨?_,?_,?_,?_,?_,?_,?_,k.os.trans h.os,k.tape.trans h.tape,k.output.trans h.output⟩,fL⟩
 ·intro r g p row hr;rcases ch hr with ⟨rfl,rfl,hp⟩|⟨js,_⟩
  ·obtain⟨pl,h1,h2⟩:=k.rows _ _ _ _ (cj _ _ hp);refine⟨pl,by rw[lE];simpa[jQ]using h1,h2.wide,h2.len,h2.kind,h2.nil,h2.room,fun b q aK i j c hc=>?_,h2.ic,h2.mp⟩;obtain⟨v,hv,eR⟩:=h2.cells b q aK i j c hc;refine⟨v,hv,?_⟩;have jF:=fo p row hp;have hm:∃e∈row.es,c∈e:=by
    cases he:row.es[i]? with
    | none=>rw[he]at hc;cases hc
    | some e=>rw[he]at hc;exact⟨e,dh he,dh hc⟩
   obtain⟨e,he,LC⟩:=hm;have hs:=(h2.kind e he).1 jF c LC;have xP:sf c=true:=by cases c<;>first|rfl|cases hs
   exact eR.lT xP
  obtain⟨pl,h1,h2⟩:=h.rows _ _ _ _ js;refine⟨pl,fL _ _ _ _ h1,(h2.of_same (fun b q aK k=>⟨iR b k (ab js h1 aK),ac3 b k (ab js h1 aK)⟩) fun b q aK es ck e=>by rw[k.frame b (ab js h1 aK) (fun h=>h)];exact e).mono hx.1 fL⟩
 ·intro r g p row r' g' p' cq pl cV b q q' h1 h2 h3 h4 h5 h6;rcases ch h1 with ⟨e3,e4,k1⟩|⟨k1,hd⟩<;>rcases ch h2 with ⟨e1,e2,k2⟩|⟨k2,qo⟩
  ·subst e1;subst e2;subst e3;rw[←e4,lE]at h3;rw[lE]at h4;exact⟨rfl,(k.sep 0 0 p row 0 0 p' cq pl cV b q q' (cj _ _ k1) (cj _ _ k2) (by simpa[jQ]using h3) (by simpa[jQ]using h4) h5 h6).2⟩
  ·subst e3;subst e4;rw[lE]at h3;rw[zV k2]at h4;have:=(gb k1 h3 h5).1;have:=ab k2 h4 h6;omega
  ·subst e1;subst e2;rw[lE]at h4;rw[zV k1]at h3;have:=(gb k2 h4 h6).1;have:=ab k1 h3 h5;omega
  rw[zV k1]at h3;rw[zV k2]at h4;exact h.sep _ _ _ _ _ _ _ _ _ _ _ _ _ k1 k2 h3 h4 h5 h6
 ·exact k.eh
 ·intro r g p row pl b q h1 h2 h3 i dD;rcases ch h1 with ⟨rfl,rfl,k1⟩|⟨k1,hd⟩
  ·rw[lE]at h2;exact k.et 0 0 p row pl b q (cj _ _ k1) (by simpa[jQ]using h2) h3 i dD
  rw[zV k1]at h2;rw[hx.2 b i (ab k1 h2 h3) (fun h=>h)];exact h.et _ _ _ _ _ _ _ k1 h2 h3 i dD
 ·intro r g p row pl b q h1 h2 h3;rcases ch h1 with ⟨rfl,rfl,k1⟩|⟨k1,hd⟩
  ·rw[lE]at h2;obtain⟨ha,hb⟩:=gb k1 h2 h3;exact⟨.inr (Nat.le_trans h.size ha),hb⟩
  rw[zV k1]at h2;obtain⟨ha,hb⟩:=h.own _ _ _ _ _ _ _ k1 h2 h3;exact⟨ha,Nat.lt_of_lt_of_le hb k.size⟩
 ·intro b hb hO;rw[hold b (Nat.lt_of_lt_of_le hb h.size)];exact h.frame b hb hO
 exact Nat.le_trans h.size k.size
theorem XJ {la:kD}(gW:mT O w0 la rd φ) {o:Oper}{n:Nat}{args:List AV}{K:St→Prop}(h:Rel rd φ O w0 s a w) {eg:Array Value}(eY:PW rd φ args eg.toList) (hv:IL P s o n args K):
  th P n∧Calls P n eg w fun e w'=>∃v s',e=.returned v∧K s'∧ik la O w0 s' (a.put o.dst v) w':=by
 unfold IL at hv;obtain⟨⟨σ1,qF⟩,hl,hv⟩:=f7 hv;obtain⟨res,rf,⟨nU,hc⟩,aF,hk⟩:=hv;refine⟨nU,?_⟩;obtain⟨d9,x1,h1,l1⟩:=G4 h.heap eY hl;have dJ:∀p,φ (o.dst.getD 0) s.G p=none:=fun p=>by
  cases hp:φ (o.dst.getD 0) s.G p with
  | none=>rfl
  | some x=>exact absurd (h.gen _ s.G p (by rw[hp];simp)) (Nat.lt_irrefl _)
 refine(hc w d9 eg h1.eh (l1 _)).mono ?_;rintro e w' ⟨v,rd',ψ,rfl,x2,h2,h4⟩;obtain⟨j1,j2⟩:=h1.join dJ x2 h2 (fun p row hp=>by
  obtain⟨q,hq⟩:=Km hp;exact Nat.le_of_ble_eq_true (List.all_eq_true.1 aF _ hq))
 have hr:=QN (φ:=φ) (d:=o.dst.getD 0) (G:=s.G) h4;have x3:Ext O w0 d9 rd':=⟨x2.1,fun b k hb hO=>x2.2 b k (Nat.lt_of_lt_of_le hb h1.size) (fun h=>h)⟩;obtain⟨s',hs,eR⟩:=h.put hk (x1.trans x3).1 j1 hr j2 (fun r g p hp=>(rV r g p hp).imp id fun h=>⟨rfl,h⟩);exact⟨v,s',rfl,hs,rd',_,gW.step (x1.trans x3) j2,eR⟩
abbrev nt (rd:kD) (O:Nat→Prop) (w0:World) (Q:Exit→St→Prop):Exit→Act→World→Prop:=fun e a w=>∃s,Q e s∧ik rd O w0 s a w
theorem Rel.known (h:Rel rd φ O w0 s a w) {t:Nat}{b:Bool}(hl:bI s.tm t=some (.sc (.bool b))):
  a.tmps[t]?=some (.bool b)∧Rel rd φ O w0 ⟨s.n,(t,.sc (.bool b))::s.tm,s.σ,s.G⟩ a w:=by
 have hv:=fq (h.tm t _ hl);have ab:t<a.tmps.size:=by
  rcases bm t a.tmps.size with hx|hx
  ·exact hx
  simp[Array.getElem?_eq_none hx,undef]at hv
 refine⟨?_,h.heap,fun t' v l0=>?_,h.size,h.defers,h.gen⟩
 ·have:a.tmps.getD t undef=a.tmps[t]:=by simp[ab]
  rw[this]at hv;rw[Array.getElem?_eq_getElem ab,hv]
 simp only[gx]at l0;split at l0
 ·rename_i e;subst e;cases l0;exact h.tm _ _ hl
 exact h.tm _ _ l0
end
end
end Go.Proofs.YtobpfkgabdeefaaGreat.E
