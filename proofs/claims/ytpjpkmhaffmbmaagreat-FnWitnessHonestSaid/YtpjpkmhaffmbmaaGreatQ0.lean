/- An evaluator of the model's code, proved sound (E1): A B C S D M Y F G. -/
import Derived.WalkKit
import Derived.Orders
import Derived.Deep.MidRow
import Derived.ChangeKeysEq
import Derived.Laws.StructEq
import Derived.DeepKeys
import Derived.Laws.MakeOwn
import Derived.Laws.Entries
import Derived.Deep.AppendSrc
import Derived.Laws.BytesArg
import Derived.Laws.Tables
section
namespace Go.Proofs.YtpjpkmhaffmbmaaGreat.E
open Go Go.RowKit
set_option linter.unusedVariables false
inductive AV where
 | dead
 | sc (v:Value)
 | nilS
 | blk (r g:Nat) (p:List Nat) (sz off len:Nat)
 | ptr (r g:Nat) (p:List Nat) (sz i o:Nat)
 | ro (sz:Nat) (es:List (List AV))
 | rp (cs:List AV)
 | agg (cs:List AV)
 | tup (vs:List AV)
 | it (r:Nat)
 | mr (r g:Nat) (p:List Nat)
 deriving Inhabited
structure Pl where
 ad:Option (Nat × Nat)
 cap:Nat
abbrev Phi:=Nat→Nat→List Nat→Option Pl
abbrev RD:=Nat→Nat→Option Value
abbrev mkA (b o:Nat):Addr:=⟨b,o,none⟩
theorem xy (b o n:Nat):(mkA b o).add n=mkA b (o+n):=by
 unfold Addr.add;split<;>simp_all
def zrc:Value→Bool
 | .agg a=>a.isEmpty
 | _=>false
def zlI:Value→Bool
 | .bool _ | .int .. | .string _ | .nilIface | .nilFunc | .pointer none=>true
 | .func (.func _) first captured=>first.toList.all zrc&&captured.isEmpty
 | _=>false
theorem zlH {v:Value} (h:zlI v=true):v.oneCell'=true:=by
 cases v<;>simp_all [zlI,Value.oneCell']
def sfc:AV→Bool
 | .sc _ | .nilS | .ro _ _=>true
 | _=>false
inductive VRel (rd:RD) (φ:Phi):AV→Value→Prop
 | dead (v:Value):VRel rd φ .dead v
 | sc (v:Value) (h:zlI v=true):VRel rd φ (.sc v) v
 | nilS:VRel rd φ .nilS (.slice none 0 0)
 | blk (r g:Nat) (p:List Nat) (sz off len:Nat) (pl:Pl) (A:Option Addr) (hφ:φ r g p=some pl)
   (hA:pl.cap - off=0∨A=pl.ad.map fun x=>mkA x.1 (x.2+off * sz)) (hl:len≤pl.cap - off):
   VRel rd φ (.blk r g p sz off len) (.slice A len (pl.cap - off))
 | ptr (r g:Nat) (p:List Nat) (sz i o:Nat) (pl:Pl) (b q:Nat) (hφ:φ r g p=some pl) (had:pl.ad=some (b,q)):
   VRel rd φ (.ptr r g p sz i o) (.pointer (some (mkA b (q+i * sz+o))))
 | ro0 (sz:Nat) (A:Option Addr) (cap:Nat):VRel rd φ (.ro sz []) (.slice A 0 cap)
 | ro (sz:Nat) (es:List (List AV)) (b q cap:Nat) (f:Nat→Nat→Value) (hc:es.length≤cap)
   (hs:∀(i j:Nat) (c:AV),(es[i]?).bind (·[j]?)=some c→sfc c=true)
   (hr:∀(i j:Nat) (c:AV),(es[i]?).bind (·[j]?)=some c→rd b (q+i * sz+j)=some (f i j))
   (hv:∀(i j:Nat) (c:AV),(es[i]?).bind (·[j]?)=some c→VRel rd φ c (f i j)):
   VRel rd φ (.ro sz es) (.slice (some (mkA b q)) es.length cap)
 | rp (cs:List AV) (b q:Nat) (f:Nat→Value) (hs:∀(j:Nat) (c:AV),cs[j]?=some c→sfc c=true)
   (hr:∀(j:Nat) (c:AV),cs[j]?=some c→rd b (q+j)=some (f j))
   (hv:∀(j:Nat) (c:AV),cs[j]?=some c→VRel rd φ c (f j)):
   VRel rd φ (.rp cs) (.pointer (some (mkA b q)))
 | agg (cs:List AV) (arr:Array Value) (f:Nat→Value) (hs:arr.size=cs.length)
   (hg:∀(j:Nat) (c:AV),cs[j]?=some c→arr[j]?=some (f j))
   (hv:∀(j:Nat) (c:AV),cs[j]?=some c→VRel rd φ c (f j)):
   VRel rd φ (.agg cs) (.agg arr)
 | tup (vs:List AV) (arr:Array Value) (f:Nat→Value) (hs:arr.size=vs.length)
   (hg:∀(j:Nat) (c:AV),vs[j]?=some c→arr[j]?=some (f j))
   (hv:∀(j:Nat) (c:AV),vs[j]?=some c→VRel rd φ c (f j)):
   VRel rd φ (.tup vs) (.tuple arr)
 | it (r:Nat):VRel rd φ (.it r) (.pointer (some ⟨r,0,none⟩))
 | mr (r g:Nat) (p:List Nat) (pl:Pl) (b:Nat) (hφ:φ r g p=some pl) (had:pl.ad=some (b,0)):VRel rd φ (.mr r g p) (.map (some b))
theorem VRel.mono {rd rd':RD} {φ φ':Phi} (h1:∀b o v,rd b o=some v→rd' b o=some v) (h2:∀r g p pl,φ r g p=some pl→φ' r g p=some pl)
  {a:AV} {v:Value} (h:VRel rd φ a v):VRel rd' φ' a v:=by
 induction h with
 | dead v=>exact .dead v
 | sc v h=>exact .sc v h
 | nilS=>exact .nilS
 | blk r g p sz off len pl A hφ hA hl=>exact .blk r g p sz off len pl A (h2 _ _ _ _ hφ) hA hl
 | ptr r g p sz i o pl b q hφ had=>exact .ptr r g p sz i o pl b q (h2 _ _ _ _ hφ) had
 | ro0 sz A cap=>exact .ro0 sz A cap
 | ro sz es b q cap f hc hs hr hv ih=>exact .ro sz es b q cap f hc hs (fun i j c h=>h1 _ _ _ (hr i j c h)) ih
 | rp cs b q f hs hr hv ih=>exact .rp cs b q f hs (fun j c h=>h1 _ _ _ (hr j c h)) ih
 | agg cs arr f hs hg hv ih=>exact .agg cs arr f hs hg ih
 | tup cs arr f hs hg hv ih=>exact .tup cs arr f hs hg ih
 | it r=>exact .it r
 | mr r g p pl b hφ had=>exact .mr r g p pl b (h2 _ _ _ _ hφ) had
def sf:AV→Bool
 | .sc _ | .nilS | .ro _ _ | .rp _ | .dead=>true
 | .agg cs | .tup cs=>cs.all fun c=>sfc c
 | _=>false
theorem VRel.of_sf {rd:RD} {φ φ':Phi} {a:AV} {v:Value} (h:VRel rd φ a v):sf a=true→VRel rd φ' a v:=by
 have hcell:∀{c:AV},sfc c=true→sf c=true:=by intro c hc;cases c<;>first | rfl | cases hc
 induction h with
 | dead v=>intro _;exact .dead v
 | sc v h=>intro _;exact .sc v h
 | nilS=>intro _;exact .nilS
 | blk=>intro h;cases h
 | ptr=>intro h;cases h
 | ro0 sz A cap=>intro _;exact .ro0 sz A cap
 | ro sz es b q cap f hc hs hr hv ih=>intro _;exact .ro sz es b q cap f hc hs hr (fun i j c h=>ih i j c h (hcell (hs i j c h)))
 | rp cs b q f hs hr hv ih=>intro _;exact .rp cs b q f hs hr (fun j c h=>ih j c h (hcell (hs j c h)))
 | agg cs arr f hz hg hv ih=>intro h;exact .agg cs arr f hz hg (fun j c hc=>ih j c hc (hcell (List.all_eq_true.1 h c (List.mem_of_getElem? hc))))
 | tup cs arr f hz hg hv ih=>intro h;exact .tup cs arr f hz hg (fun j c hc=>ih j c hc (hcell (List.all_eq_true.1 h c (List.mem_of_getElem? hc))))
 | it r=>intro h;cases h
 | mr=>intro h;cases h
def jP:AV→Bool
 | .dead | .agg _ | .tup _ | .it _=>false
 | _=>true
theorem VRel.one {rd:RD} {φ:Phi} {a:AV} {v:Value} (h:VRel rd φ a v) (hc:jP a=true):v.oneCell'=true:=by
 cases h<;>first | rfl | (simp [jP] at hc;done) | (rename_i h;exact zlH h)
def plc:AV→Bool
 | .sc _ | .nilS=>true
 | _=>false
theorem zhV {c:AV} (h:plc c=true):sfc c=true:=by cases c<;>first | rfl | cases h
structure Row where
 sz:Nat
 es:List (List AV)
 fl:Nat
 ao:Bool
def KOK (fl:Nat) (cs:List AV):Prop:=(1≤fl→∀c∈cs,sfc c=true)∧(2≤fl→∀c∈cs,plc c=true)
def flC (cs:List AV):Nat:=
 match cs.all plc with
 | true=>2
 | false=>match cs.all sfc with
  | true=>1
  | false=>0
theorem zkE (cs:List AV):flC cs<3:=by
 unfold flC
 split
 ·decide
 ·split<;>decide
theorem KOK.ofC (cs:List AV):KOK (flC cs) cs:=by
 unfold flC
 split
 ·rename_i h
  exact ⟨fun _ c hc=>zhV (List.all_eq_true.1 h c hc),fun _ c hc=>List.all_eq_true.1 h c hc⟩
 ·split
  ·rename_i h
   exact ⟨fun _ c hc=>List.all_eq_true.1 h c hc,fun h=>by omega⟩
  ·exact ⟨fun h=>by omega,fun h=>by omega⟩
theorem KOK.min {a b:Nat} {cs ds:List AV} (h:KOK a cs) (k:KOK b ds) {es:List AV} (he:∀c∈es,c∈cs∨c∈ds):KOK (min a b) es:=
 ⟨fun hm c hc=>(he c hc).elim (h.1 (by omega) c) (k.1 (by omega) c),fun hm c hc=>(he c hc).elim (h.2 (by omega) c) (k.2 (by omega) c)⟩
theorem KOK.le {a b:Nat} {cs:List AV} (h:KOK a cs) (hb:b≤a):KOK b cs:=⟨fun hm=>h.1 (by omega),fun hm=>h.2 (by omega)⟩
abbrev jQ:=List Nat→Option Row
def zz {α:Type}:List (Nat × α)→Nat→Option α
 | [],_=>none
 | (k,v)::l,n=>match k==n with
  | true=>some v
  | false=>zz l n
def yD {α:Type}:List (Nat × α)→Nat→α→List (Nat × α)
 | [],n,x=>[(n,x)]
 | (k,v)::l,n,x=>match k==n with
  | true=>(k,x)::l
  | false=>(k,v)::yD l n x
theorem zA {α:Type} (k:Nat) (v:α) (l:List (Nat × α)) (n:Nat):zz ((k,v)::l) n=if k=n then some v else zz l n:=by
 simp only [zz]
 by_cases h:k=n
 ·simp [h]
 ·have:(k==n)=false:=by simpa using h
  simp [this,h]
theorem zjk {α:Type} (k:Nat) (v:α) (l:List (Nat × α)) (n:Nat) (x:α):yD ((k,v)::l) n x=if k=n then (k,x)::l else (k,v)::yD l n x:=by
 simp only [yD]
 by_cases h:k=n
 ·simp [h]
 ·have:(k==n)=false:=by simpa using h
  simp [this,h]
theorem zaC {α:Type} (l:List (Nat × α)) (n m:Nat) (x:α):zz (yD l n x) m=if m=n then some x else zz l m:=by
 induction l with
 | nil=>simp only [yD,zA,zz];by_cases h:m=n
        ·simp [h]
        ·have h':¬n=m:=fun e=>h e.symm
         simp [h,h']
 | cons y l ih=>
  obtain ⟨k,v⟩:=y
  rw [zjk]
  by_cases hk:k=n
  ·subst hk
   simp only [if_true,zA]
   by_cases h:m=k
   ·simp [h]
   ·have h':¬k=m:=fun e=>h e.symm
    simp [h,h']
  ·simp only [hk,if_false,zA,ih]
   by_cases h:k=m
   ·subst h;simp [hk]
   ·simp [h]
abbrev Sig:=List (Nat × (Nat × jQ))
def zo (σ:Sig) (r g:Nat) (p:List Nat):Option Row:=
 match zz σ r with
 | some (g',f)=>if g'=g then f p else none
 | none=>none
def kc:IntKind→Nat
 | .i8=>0 | .i16=>1 | .i32=>2 | .i64=>3 | .u8=>4 | .u16=>5 | .u32=>6 | .u64=>7
def zig:Int→Nat
 | .ofNat n=>2 * n
 | .negSucc n=>2 * n+1
theorem zq1 {a b:IntKind} (h:kc a=kc b):a=b:=by cases a<;>cases b<;>first | rfl | (simp [kc] at h;done)
theorem zou (a:IntKind):kc a<8:=by cases a<;>decide
theorem znQ {a b:Int} (h:zig a=zig b):a=b:=by
 cases a<;>cases b<;>simp only [zig] at h<;>first | (congr 1;omega) | omega
def zhx:Value→Option (List Nat)
 | .int k n=>some [kc k,zig n]
 | .bool b=>some [9,b.toNat]
 | _=>none
def znl:List Value→Option (List Nat)
 | []=>some []
 | v::l=>match zhx v,znl l with
  | some a,some b=>some (a++b)
  | _,_=>none
def zrO:Value→Option (List Nat)
 | .agg arr=>(znl arr.toList).map (10::·)
 | v=>zhx v
def zcT:List AV→Option (List Nat)
 | []=>some []
 | .sc v::l=>match zhx v,zcT l with
  | some a,some b=>some (a++b)
  | _,_=>none
 | _::_=>none
def zcU:AV→Option (List Nat)
 | .sc v=>zhx v
 | .agg cs=>(zcT cs).map (10::·)
 | _=>none
theorem qR {v:Value} {c:List Nat} (h:zhx v=some c):∃a b,c=[a,b]∧a<10:=by
 cases v<;>simp only [zhx,Option.some.injEq,reduceCtorEq] at h
 ·exact ⟨_,_,h.symm,by decide⟩
 ·exact ⟨_,_,h.symm,by have:=zou ‹_›;omega⟩
theorem zhw {u v:Value} {c:List Nat} (h:zhx u=some c) (k:zhx v=some c):u=v:=by
 cases u<;>cases v<;>simp only [zhx,Option.some.injEq,reduceCtorEq] at h k<;>subst h<;>simp only [List.cons.injEq,and_true] at k
 ·rename_i a b
  cases a<;>cases b<;>simp_all
 ·have:=zou ‹_›;omega
 ·have:=zou ‹_›;omega
 ·rw [zq1 k.1,znQ k.2]
abbrev MC:=List (AV × AV)
def zea:MC→List Nat
 | []=>[]
 | e::C=>((zcU e.1).getD []).length::((zcU e.1).getD []++(((zcU e.2).getD []).length::((zcU e.2).getD []++zea C)))
def zmt:List Nat→Nat
 | []=>0
 | a::l=>2 ^ a * (2 * zmt l+1)
theorem zjJ:∀{a b x y:Nat},2 ^ a * (2 * x+1)=2 ^ b * (2 * y+1)→a=b∧x=y
 | 0,0,x,y,h=>by simp at h;exact ⟨rfl,by omega⟩
 | 0,b+1,x,y,h=>by
  rw [Nat.pow_succ,Nat.mul_comm (2 ^ b) 2,Nat.mul_assoc] at h
  omega
 | a+1,0,x,y,h=>by
  rw [Nat.pow_succ,Nat.mul_comm (2 ^ a) 2,Nat.mul_assoc] at h
  omega
 | a+1,b+1,x,y,h=>by
  rw [Nat.pow_succ,Nat.pow_succ,Nat.mul_comm (2 ^ a) 2,Nat.mul_comm (2 ^ b) 2,Nat.mul_assoc,Nat.mul_assoc] at h
  obtain ⟨h1,h2⟩:=zjJ (a:=a) (b:=b) (x:=x) (y:=y) (by omega)
  exact ⟨by omega,h2⟩
theorem zht:∀{l m:List Nat},zmt l=zmt m→l=m
 | [],[],h=>rfl
 | [],b::m,h=>by
  have:=Nat.mul_pos (Nat.pow_pos (n:=b) (show 0<2 by omega)) (show 0<2 * zmt m+1 by omega)
  simp only [zmt] at h
  omega
 | a::l,[],h=>by
  have:=Nat.mul_pos (Nat.pow_pos (n:=a) (show 0<2 by omega)) (show 0<2 * zmt l+1 by omega)
  simp only [zmt] at h
  omega
 | a::l,b::m,h=>by
  simp only [zmt] at h
  obtain ⟨h1,h2⟩:=zjJ h
  rw [h1,zht h2]
def mfl (C:MC):Nat:=3+zmt (zea C)
theorem zon {C D:MC} (h:mfl C=mfl D):zea C=zea D:=zht (by unfold mfl at h;omega)
theorem zjY (C:MC):3≤mfl C:=Nat.le_add_right _ _
def CodE (v:Value) (a:AV):Prop:=∃c,zcU a=some c∧zrO v=some c
inductive MR:List MapEntry→MC→Prop
 | nil:MR [] []
 | cons {e:MapEntry} {x:AV × AV} {l:List MapEntry} {C:MC} (h1:CodE e.key x.1) (h2:CodE e.val x.2) (t:MR l C):MR (e::l) (x::C)
def MapAt (w:World) (b:Nat) (C:MC):Prop:=∃es ck,w.heap[b]?=some (.map es ck)∧MR es.toList C
theorem zkO {a:AV} {c:List Nat} (h:zcU a=some c):c≠[]:=by
 cases a<;>simp only [zcU,reduceCtorEq] at h
 ·obtain ⟨_,_,rfl,_⟩:=qR h;simp
 ·obtain ⟨_,_,rfl⟩:=Option.map_eq_some_iff.1 h;simp
theorem zdE {a b x y:List Nat} (h:a.length::(a++x)=b.length::(b++y)):a=b∧x=y:=by
 simp only [List.cons.injEq] at h
 exact List.append_inj h.2 h.1
theorem zhq {a:AV} {c:List Nat} (hc:c≠[]) (h:c=(zcU a).getD []):zcU a=some c:=by
 cases ha:zcU a with
 | none=>rw [ha] at h;exact absurd h hc
 | some d=>rw [ha] at h;exact congrArg some h.symm
theorem MR.flat {l:List MapEntry} {C:MC} (h:MR l C):∀{D:MC},zea C=zea D→MR l D:=by
 induction h with
 | nil=>
  intro D hD
  cases D with
  | nil=>exact .nil
  | cons y D=>simp [zea] at hD
 | cons h1 h2 _ ih=>
  intro D hD
  cases D with
  | nil=>simp [zea] at hD
  | cons y D=>
   obtain ⟨c1,a1,b1⟩:=h1
   obtain ⟨c2,a2,b2⟩:=h2
   simp only [zea,a1,a2,Option.getD_some] at hD
   obtain ⟨e1,hD⟩:=zdE hD
   obtain ⟨e2,hD⟩:=zdE hD
   exact .cons ⟨c1,zhq (zkO a1) e1,b1⟩ ⟨c2,zhq (zkO a2) e2,b2⟩ (ih hD)
theorem MapAt.enc {w:World} {b:Nat} {C D:MC} (h:MapAt w b C) (e:mfl C=mfl D):MapAt w b D:=by
 obtain ⟨es,ck,h1,h2⟩:=h
 exact ⟨es,ck,h1,h2.flat (zon e)⟩
structure RowOK (rd:RD) (φ:Phi) (w:World) (pl:Pl) (row:Row):Prop where
 wide:∀e∈row.es,e.length=row.sz
 len:row.es.length≤pl.cap
 kind:∀e∈row.es,KOK row.fl e
 nil:pl.ad=none→pl.cap=0
 room:∀b q,pl.ad=some (b,q)→∀k,k<pl.cap * row.sz→(w.cell? (mkA b (q+k))).isSome=true∧w.frozen? (mkA b (q+k))=false
 cells:∀b q,pl.ad=some (b,q)→∀i j c,(row.es[i]?).bind (·[j]?)=some c→∃v,w.cell? (mkA b (q+i * row.sz+j))=some v∧VRel rd φ c v
 frz:row.ao=true→1≤row.fl∧∀b q,pl.ad=some (b,q)→∀k,k<row.es.length * row.sz→rd b (q+k)=w.cell? (mkA b (q+k))
 mp:∀C,row.fl=mfl C→row.sz=0∧∃b,pl.ad=some (b,0)∧MapAt w b C
theorem zm4 {fl:Nat} (h:fl<3) {X:MC→Prop}:∀C,fl=mfl C→X C:=fun C e=>by have:=zjY C;omega
def Ext (O:Nat→Prop) (w0:World) (rd rd':RD):Prop:=(∀b o v,rd b o=some v→rd' b o=some v)∧∀b o,b<w0.heap.size→¬O b→rd' b o=rd b o
theorem Ext.refl {O:Nat→Prop} {w0:World} {rd:RD}:Ext O w0 rd rd:=⟨fun _ _ _ h=>h,fun _ _ _ _=>rfl⟩
theorem Ext.trans {O:Nat→Prop} {w0:World} {rd rd' rd'':RD} (h:Ext O w0 rd rd') (k:Ext O w0 rd' rd''):Ext O w0 rd rd'':=
 ⟨fun b o v e=>k.1 b o v (h.1 b o v e),fun b o hb hO=>(k.2 b o hb hO).trans (h.2 b o hb hO)⟩
structure HRel (rd:RD) (φ:Phi) (O:Nat→Prop) (w0:World) (σ:Sig) (w:World):Prop where
 rows:∀r g p row,zo σ r g p=some row→∃pl,φ r g p=some pl∧RowOK rd φ w pl row
 sep:∀r g p row r' g' p' row' pl pl' b q q',zo σ r g p=some row→zo σ r' g' p'=some row'→φ r g p=some pl→φ r' g' p'=some pl'→
  pl.ad=some (b,q)→pl'.ad=some (b,q')→r=r'∧p=p'
 rdok:∀b o v,rd b o=some v→w.cell? (mkA b o)=some v
 rdsep:∀r g p row pl b q,zo σ r g p=some row→φ r g p=some pl→pl.ad=some (b,q)→∀k,row.ao=false∨q+row.es.length * row.sz≤k→rd b k=none
 own:∀r g p row pl b q,zo σ r g p=some row→φ r g p=some pl→pl.ad=some (b,q)→(O b∨w0.heap.size≤b)∧b<w.heap.size
 frame:∀b,b<w0.heap.size→¬O b→w.heap[b]?=w0.heap[b]?
 size:w0.heap.size≤w.heap.size
 os:w.os=w0.os
 tape:w.tape=w0.tape
 output:w.output=w0.output
end Go.Proofs.YtpjpkmhaffmbmaaGreat.E
end
section
namespace Go.Proofs.YtpjpkmhaffmbmaaGreat.E
open Go Go.RowKit
set_option linter.unusedVariables false
def one (row:Row):jQ:=fun p=>match p with
 | []=>some row
 | _=>none
theorem wH {row row':Row} {p:List Nat} (h:one row p=some row'):p=[]∧row'=row:=by
 unfold one at h
 split at h
 ·exact ⟨rfl,(Option.some.inj h).symm⟩
 ·cases h
def jg (f:jQ) (p:List Nat) (row:Row):jQ:=fun q=>if q=p then some row else f q
theorem zhs (row row':Row):jg (one row) [] row'=one row':=by
 funext q
 unfold jg one
 cases q<;>simp
def zB (φ:Phi) (r g:Nat) (ψ:List Nat→Option Pl):Phi:=fun r' g' p=>if r'=r∧g'=g then ψ p else φ r' g' p
theorem xj (b:Nat):∀(vs:List Value) (o:Nat) (w:World) (b' k:Nat),
  (w.setCells b o vs).cell? (mkA b' k)=if b'=b∧o≤k∧k<o+vs.length∧(w.cell? (mkA b' k)).isSome=true then vs[k - o]? else w.cell? (mkA b' k)
 | [],o,w,b',k=>by
  simp only [World.setCells,List.length_nil,Nat.add_zero]
  rw [if_neg (by omega)]
 | v::vs,o,w,b',k=>by
  rw [World.setCells,xj b vs]
  by_cases h:mkA b o=mkA b' k
  ·have hb:b'=b:=by injection h with h1;exact h1.symm
   have hk:k=o:=by injection h with _ h2;exact h2.symm
   subst hb;subst hk
   rw [if_neg (by omega)]
   cases hc:w.cell? (mkA b' k) with
   | none=>
    rw [if_neg (by simp)]
    unfold World.cell? at hc ⊢
    simp only [World.setCell,Array.getElem?_modify] at hc ⊢
    cases hh:w.heap[b']? with
    | none=>simp
    | some x=>cases x<;>simp_all
   | some u=>
    rw [if_pos ⟨rfl,Nat.le_refl _,by simp,by simp⟩]
    simp [World.cell?_setCell_same _ _ _ hc]
  ·rw [World.cell?_setCell_other _ _ _ _ h]
   by_cases hc:b'=b∧o+1≤k∧k<o+1+vs.length∧(w.cell? (mkA b' k)).isSome=true
   ·rw [if_pos hc,if_pos ⟨hc.1,by omega,by simp;omega,hc.2.2.2⟩]
    rw [show k - o=(k - (o+1))+1 by omega,List.getElem?_cons_succ]
   ·rw [if_neg hc]
    by_cases hc2:b'=b∧o≤k∧k<o+(v::vs).length∧(w.cell? (mkA b' k)).isSome=true
    ·exfalso
     obtain ⟨h1,h2,h3,h4⟩:=hc2
     simp only [List.length_cons] at h3
     have:k≠o:=fun e=>h (by rw [e,h1])
     exact hc ⟨h1,by omega,by omega,h4⟩
    ·rw [if_neg hc2]
theorem xO (b:Nat):∀(vs:List Value) (o:Nat) (w:World) (a:Addr),(w.setCells b o vs).frozen? a=w.frozen? a
 | [],_,_,_=>rfl
 | v::vs,o,w,a=>by rw [World.setCells,xO b vs,World.frozen?_setCell]
theorem qP (b:Nat):∀(vs:List Value) (o:Nat) (w:World) (k:Nat),k≠b→(w.setCells b o vs).heap[k]?=w.heap[k]?
 | [],_,_,_,_=>rfl
 | v::vs,o,w,k,h=>by rw [World.setCells,qP b vs _ _ _ h,Below.heap_setCell _ _ _ _ h]
theorem qH (b:Nat):∀(vs:List Value) (o:Nat) (w:World),(w.setCells b o vs).heap.size=w.heap.size
 | [],_,_=>rfl
 | v::vs,o,w=>by rw [World.setCells,qH b vs,World.size_setCell]
theorem xD (b:Nat):∀(vs:List Value) (o:Nat) (w:World),(w.setCells b o vs).os=w.os∧(w.setCells b o vs).tape=w.tape∧(w.setCells b o vs).output=w.output
 | [],_,_=>⟨rfl,rfl,rfl⟩
 | v::vs,o,w=>by rw [World.setCells];exact xD b vs _ _
theorem ql {w:World} {b k:Nat} (h:(w.cell? (mkA b k)).isSome=true):b<w.heap.size:=by
 obtain ⟨v,hv⟩:=Option.isSome_iff_exists.1 h
 exact World.block_lt_of_cell? _ _ hv
theorem RowOK.of_same {rd:RD} {φ:Phi} {w w':World} {pl:Pl} {row:Row} (h:RowOK rd φ w pl row)
  (hc:∀b q,pl.ad=some (b,q)→∀k,w'.cell? (mkA b k)=w.cell? (mkA b k)∧w'.frozen? (mkA b k)=w.frozen? (mkA b k))
  (hm:∀b q,pl.ad=some (b,q)→∀es ck,w.heap[b]?=some (.map es ck)→w'.heap[b]?=some (.map es ck)):RowOK rd φ w' pl row:=
 ⟨h.wide,h.len,h.kind,h.nil,fun b q had k hk=>by rw [(hc b q had _).1,(hc b q had _).2];exact h.room b q had k hk,
  fun b q had i j c hcc=>by rw [(hc b q had _).1];exact h.cells b q had i j c hcc,fun ha=>⟨(h.frz ha).1,fun b q had k hk=>by rw [(hc b q had _).1];exact (h.frz ha).2 b q had k hk⟩,
  fun C e=>by obtain ⟨hz,b,had,es,ck,h1,h2⟩:=h.mp C e;exact ⟨hz,b,had,es,ck,hm _ _ had _ _ h1,h2⟩⟩
theorem RowOK.mono {rd rd':RD} {φ φ':Phi} {w:World} {pl:Pl} {row:Row} (h:RowOK rd φ w pl row)
  (h1:∀b o v,rd b o=some v→rd' b o=some v) (h2:∀r g p pl,φ r g p=some pl→φ' r g p=some pl):RowOK rd' φ' w pl row:=
 ⟨h.wide,h.len,h.kind,h.nil,h.room,fun b q had i j c hcc=>by obtain ⟨v,hv,hr⟩:=h.cells b q had i j c hcc;exact ⟨v,hv,hr.mono h1 h2⟩,
  fun ha=>⟨(h.frz ha).1,fun b q had k hk=>by
   have e:=(h.frz ha).2 b q had k hk
   obtain ⟨v,hv⟩:=Option.isSome_iff_exists.1 (h.room b q had k (Nat.lt_of_lt_of_le hk (Nat.mul_le_mul_right _ h.len))).1
   rw [hv] at e ⊢
   exact h1 _ _ _ e⟩,h.mp⟩
theorem HRel.drew {rd:RD} {φ:Phi} {O:Nat→Prop} {w0 w:World} {σ:Sig} (h:HRel rd φ O w0 σ w):HRel rd φ O w0 σ w.drew:=
 ⟨fun r g p row hr=>by obtain ⟨pl,h1,h2⟩:=h.rows r g p row hr;exact ⟨pl,h1,h2.of_same (fun _ _ _ _=>⟨rfl,rfl⟩) fun _ _ _ _ _ e=>e⟩,h.sep,h.rdok,h.rdsep,h.own,h.frame,h.size,h.os,h.tape,h.output⟩
theorem yo (σ:Sig) (d G:Nat) (f:jQ) (r g:Nat) (p:List Nat):
  zo (yD σ d (G,f)) r g p=if r=d then (if G=g then f p else none) else zo σ r g p:=by
 unfold zo
 rw [zaC]
 by_cases h:r=d<;>simp [h]
theorem yf {w:World} {o:Obj} {b k:Nat} (h:b<w.heap.size):(w.alloc o).cell? (mkA b k)=w.cell? (mkA b k):=
 World.cell?_alloc_lt _ _ _ h
theorem yX {w:World} {o:Obj} {b k:Nat} (h:b<w.heap.size):(w.alloc o).frozen? (mkA b k)=w.frozen? (mkA b k):=
 World.frozen?_alloc_old _ _ _ (by show b≠w.heap.size;omega)
theorem HRel.newRow {rd:RD} {φ:Phi} {O:Nat→Prop} {w0 w:World} {σ:Sig} (h:HRel rd φ O w0 σ w) {d G:Nat} (hfr:∀p,φ d G p=none)
  (row:Row) (hao:row.ao=false) (hnm:row.fl<3) (cap:Nat) (arr:Array Value) (T:TypeId) (fz:Nat × Nat) (hfz:arr.size≤fz.1∨fz.2≤fz.1) (hwide:∀e∈row.es,e.length=row.sz) (hlen:row.es.length≤cap) (hsz:cap * row.sz≤arr.size)
  (hflat:∀e∈row.es,KOK row.fl e)
  (hc:∀i j c,(row.es[i]?).bind (·[j]?)=some c→∃v,arr[i * row.sz+j]?=some v∧VRel rd φ c v):
  HRel rd (zB φ d G fun p=>match p with | []=>some ⟨some (w.heap.size,0),cap⟩ | _=>none) O w0 (yD σ d (G,one row)) (w.alloc (.cells arr T fz))∧
  (∀r g p pl,φ r g p=some pl→zB φ d G (fun p=>match p with | []=>some ⟨some (w.heap.size,0),cap⟩ | _=>none) r g p=some pl):=by
 have hext:∀r g p pl,φ r g p=some pl→zB φ d G (fun p=>match p with | []=>some ⟨some (w.heap.size,0),cap⟩ | _=>none) r g p=some pl:=by
  intro r g p pl hp
  unfold zB
  rw [if_neg (by rintro ⟨rfl,rfl⟩;rw [hfr] at hp;cases hp)]
  exact hp
 have hlt:∀{r g p row pl b q},zo σ r g p=some row→φ r g p=some pl→pl.ad=some (b,q)→b<w.heap.size:=fun h1 h2 h3=>(h.own _ _ _ _ _ _ _ h1 h2 h3).2
 have hnew:∀k,(w.alloc (.cells arr T fz)).cell? (mkA w.heap.size k)=arr[k]?:=by
  intro k
  show (match (w.heap.push _)[w.heap.size]? with | some (.cells c _ _)=>if (mkA w.heap.size k).spot.isSome then none else c[k]? | _=>none)=_
  rw [Array.getElem?_push_size]
  rfl
 have hnewF:∀k,k<arr.size→(w.alloc (.cells arr T fz)).frozen? (mkA w.heap.size k)=false:=by
  intro k hk
  show (match (w.heap.push _)[w.heap.size]? with | some (.cells _ _ (lo,hi))=>lo≤k&&k<hi | _=>false)=false
  rw [Array.getElem?_push_size]
  simp
  omega
 have hcase:∀{r g p row'},zo (yD σ d (G,one row)) r g p=some row'→(d=r∧G=g∧[]=p∧row=row')∨(zo σ r g p=some row'∧r≠d):=by
  intro r g p row' hr
  rw [yo] at hr
  by_cases hd:r=d
  ·rw [if_pos hd] at hr
   by_cases hg:G=g
   ·rw [if_pos hg] at hr
    obtain ⟨h1,h2⟩:=wH hr
    exact .inl ⟨hd.symm,hg,h1.symm,h2.symm⟩
   ·rw [if_neg hg] at hr;cases hr
  ·rw [if_neg hd] at hr
   exact .inr ⟨hr,hd⟩
 have hphi:zB φ d G (fun p=>match p with | []=>some ⟨some (w.heap.size,0),cap⟩ | _=>none) d G []=some ⟨some (w.heap.size,0),cap⟩:=by simp [zB]
 have hold:∀{r g p},r≠d→zB φ d G (fun p=>match p with | []=>some ⟨some (w.heap.size,0),cap⟩ | _=>none) r g p=φ r g p:=by
  intro r g p hr
  unfold zB
  rw [if_neg (fun hh=>hr hh.1)]
 refine ⟨⟨?_,?_,?_,?_,?_,?_,?_,h.os,h.tape,h.output⟩,hext⟩
 ·intro r g p row' hr
  rcases hcase hr with ⟨rfl,rfl,rfl,rfl⟩ | ⟨hr,hd⟩
  ·refine ⟨_,hphi,hwide,hlen,hflat,by simp,?_,?_,fun ha=>(by rw [hao] at ha;cases ha),zm4 hnm⟩
   ·intro b q hb k hk
    simp only [Option.some.injEq,Prod.mk.injEq] at hb
    obtain ⟨rfl,rfl⟩:=hb
    have hk':k<arr.size:=Nat.lt_of_lt_of_le hk hsz
    rw [hnew,Nat.zero_add]
    exact ⟨by simp [hk'],hnewF k hk'⟩
   ·intro b q hb i j c hcc
    simp only [Option.some.injEq,Prod.mk.injEq] at hb
    obtain ⟨rfl,rfl⟩:=hb
    obtain ⟨v,hv,hrel⟩:=hc i j c hcc
    rw [hnew,Nat.zero_add]
    exact ⟨v,hv,hrel.mono (fun _ _ _ h=>h) hext⟩
  ·obtain ⟨pl,h1,h2⟩:=h.rows r g p row' hr
   refine ⟨pl,by rw [hold hd];exact h1,(h2.of_same (fun b q had k=>⟨yf (hlt hr h1 had),yX (hlt hr h1 had)⟩) fun b q had es ck e=>by rw [Below.heap_alloc _ _ _ (hlt hr h1 had)];exact e).mono (fun _ _ _ h=>h) hext⟩
 ·intro r g p row' r' g' p' row'' pl pl' b q q' h1 h2 h3 h4 h5 h6
  rcases hcase h1 with ⟨rfl,rfl,rfl,rfl⟩ | ⟨h1,hd⟩<;>rcases hcase h2 with ⟨rfl,rfl,rfl,rfl⟩ | ⟨h2,hd'⟩
  ·exact ⟨rfl,rfl⟩
  ·rw [hphi] at h3
   cases h3
   cases h5
   rw [hold hd'] at h4
   exact absurd (hlt h2 h4 h6) (Nat.lt_irrefl _)
  ·rw [hphi] at h4
   cases h4
   cases h6
   rw [hold hd] at h3
   exact absurd (hlt h1 h3 h5) (Nat.lt_irrefl _)
  ·rw [hold hd] at h3
   rw [hold hd'] at h4
   exact h.sep _ _ _ _ _ _ _ _ _ _ _ _ _ h1 h2 h3 h4 h5 h6
 ·intro b o v hv
  have:=h.rdok b o v hv
  rw [yf (ql (by rw [this];rfl))]
  exact this
 ·intro r g p row' pl b q h1 h2 h3 k hor
  rcases hcase h1 with ⟨rfl,rfl,rfl,rfl⟩ | ⟨h1,hd⟩
  ·rw [hphi] at h2
   cases h2
   cases h3
   cases hk:rd w.heap.size k with
   | none=>rfl
   | some v=>
    have:=ql (w:=w) (b:=w.heap.size) (k:=k) (by rw [h.rdok _ _ _ hk];rfl)
    exact absurd this (Nat.lt_irrefl _)
  ·rw [hold hd] at h2
   exact h.rdsep _ _ _ _ _ _ _ h1 h2 h3 k hor
 ·intro r g p row' pl b q h1 h2 h3
  rw [World.size_alloc]
  rcases hcase h1 with ⟨rfl,rfl,rfl,rfl⟩ | ⟨h1,hd⟩
  ·rw [hphi] at h2
   cases h2
   cases h3
   exact ⟨.inr h.size,Nat.lt_succ_self _⟩
  ·rw [hold hd] at h2
   obtain ⟨ha,hb⟩:=h.own _ _ _ _ _ _ _ h1 h2 h3
   exact ⟨ha,by omega⟩
 ·intro b hb hO
  rw [Below.heap_alloc _ _ _ (Nat.lt_of_lt_of_le hb h.size)]
  exact h.frame b hb hO
 ·rw [World.size_alloc];exact Nat.le_succ_of_le h.size
theorem HRel.store {rd:RD} {φ:Phi} {O:Nat→Prop} {w0 w:World} {σ:Sig} (h:HRel rd φ O w0 σ w) {r g:Nat} {p:List Nat} {f:jQ} {row:Row}
  (hl:zz σ r=some (g,f)) (hf:f p=some row) {pl:Pl} {b q:Nat} (hφ:φ r g p=some pl) (had:pl.ad=some (b,q)) (hmu:row.ao=false) (row':Row) (hmu':row'.ao=false) (hnm:row'.fl<3) (hs:row'.sz=row.sz)
  (hwide:∀e∈row'.es,e.length=row'.sz) (hlen:row'.es.length≤pl.cap) (hflat:∀e∈row'.es,KOK row'.fl e) (o:Nat) (vs:List Value)
  (hc:∀i j c,(row'.es[i]?).bind (·[j]?)=some c→(if o≤q+i * row.sz+j∧q+i * row.sz+j<o+vs.length then ∃v,vs[q+i * row.sz+j - o]?=some v∧VRel rd φ c v else ∃v,w.cell? (mkA b (q+i * row.sz+j))=some v∧VRel rd φ c v)):
  HRel rd φ O w0 (yD σ r (g,jg f p row')) (w.setCells b o vs):=by
 have hat:zo σ r g p=some row:=by unfold zo;rw [hl];simp [hf]
 obtain ⟨pl0,hp0,hok⟩:=h.rows r g p row hat
 rw [hφ] at hp0
 cases hp0
 have hcase:∀{r2 g2 p2 row2},zo (yD σ r (g,jg f p row')) r2 g2 p2=some row2→(r=r2∧g=g2∧p=p2∧row'=row2)∨(zo σ r2 g2 p2=some row2∧¬(r2=r∧p2=p)):=by
  intro r2 g2 p2 row2 hr
  rw [yo] at hr
  by_cases hd:r2=r
  ·rw [if_pos hd] at hr
   by_cases hg:g=g2
   ·rw [if_pos hg] at hr
    unfold jg at hr
    by_cases hp:p2=p
    ·rw [if_pos hp] at hr
     exact .inl ⟨hd.symm,hg,hp.symm,Option.some.inj hr⟩
    ·rw [if_neg hp] at hr
     refine .inr ⟨?_,fun hh=>hp hh.2⟩
     unfold zo
     rw [hd,hl]
     simp [hg,hr]
   ·rw [if_neg hg] at hr;cases hr
  ·rw [if_neg hd] at hr
   exact .inr ⟨hr,fun hh=>hd hh.1⟩
 have hblock:∀{r2 g2 p2 row2 pl2 b2 q2},zo σ r2 g2 p2=some row2→¬(r2=r∧p2=p)→φ r2 g2 p2=some pl2→pl2.ad=some (b2,q2)→b2≠b:=by
  intro r2 g2 p2 row2 pl2 b2 q2 h1 h2 h3 h4 e
  subst e
  exact h2 (h.sep _ _ _ _ _ _ _ _ _ _ _ _ _ h1 hat h3 hφ h4 had)
 refine ⟨?_,?_,?_,?_,?_,?_,?_,?_,?_,?_⟩
 ·intro r2 g2 p2 row2 hr
  rcases hcase hr with ⟨rfl,rfl,rfl,rfl⟩ | ⟨hr,hne⟩
  ·refine ⟨pl,hφ,hwide,hlen,hflat,hok.nil,?_,?_,fun ha=>(by rw [hmu'] at ha;cases ha),zm4 hnm⟩
   ·intro b2 q2 hb k hk
    rw [had] at hb
    simp only [Option.some.injEq,Prod.mk.injEq] at hb
    obtain ⟨rfl,rfl⟩:=hb
    rw [hs] at hk
    obtain ⟨h1,h2⟩:=hok.room _ _ had k hk
    rw [xO]
    refine ⟨?_,h2⟩
    rw [xj]
    split
    ·rename_i hh
     rw [List.getElem?_eq_getElem (by omega)]
     rfl
    ·exact h1
   ·intro b2 q2 hb i j c hcc
    rw [had] at hb
    simp only [Option.some.injEq,Prod.mk.injEq] at hb
    obtain ⟨rfl,rfl⟩:=hb
    rw [hs]
    have hz:=hc i j c hcc
    rw [xj]
    by_cases hin:o≤q+i * row.sz+j∧q+i * row.sz+j<o+vs.length
    ·rw [if_pos hin] at hz
     have hi:i<row'.es.length∧j<row'.sz:=by
      cases he:row'.es[i]? with
      | none=>simp [he] at hcc
      | some e=>
       have hi:i<row'.es.length:=by
        rcases Nat.lt_or_ge i row'.es.length with hx | hx
        ·exact hx
        ·rw [List.getElem?_eq_none hx] at he;cases he
       refine ⟨hi,?_⟩
       have:=hwide e (List.mem_of_getElem? he)
       rw [←this]
       simp only [he,Option.bind_some] at hcc
       rcases Nat.lt_or_ge j e.length with hx | hx
       ·exact hx
       ·rw [List.getElem?_eq_none hx] at hcc;cases hcc
     have hk:i * row.sz+j<pl.cap * row.sz:=by
      have h1:(i+1) * row.sz≤pl.cap * row.sz:=Nat.mul_le_mul_right _ (by omega)
      have h2:(i+1) * row.sz=i * row.sz+row.sz:=Nat.succ_mul _ _
      have h3:j<row.sz:=hs▸hi.2
      omega
     have h4:=(hok.room _ _ had _ hk).1
     rw [←Nat.add_assoc] at h4
     rw [if_pos ⟨rfl,hin.1,hin.2,h4⟩]
     exact hz
    ·rw [if_neg hin] at hz
     rw [if_neg (fun hh=>hin ⟨hh.2.1,hh.2.2.1⟩)]
     exact hz
  ·obtain ⟨pl2,h1,h2⟩:=h.rows r2 g2 p2 row2 hr
   refine ⟨pl2,h1,h2.of_same (fun b2 q2 had2 k=>?_) fun b2 q2 had2 es ck e=>by rw [qP _ _ _ _ _ (hblock hr hne h1 had2)];exact e⟩
   have hb:=hblock hr hne h1 had2
   rw [xj,xO,if_neg (fun hh=>hb hh.1)]
   exact ⟨rfl,rfl⟩
 ·intro r1 g1 p1 row1 r2 g2 p2 row2 pl1 pl2 b1 q1 q2 h1 h2 h3 h4 h5 h6
  have e1:∃x,zo σ r1 g1 p1=some x:=by
   rcases hcase h1 with ⟨rfl,rfl,rfl,rfl⟩ | ⟨h1,_⟩
   ·exact ⟨_,hat⟩
   ·exact ⟨_,h1⟩
  have e2:∃x,zo σ r2 g2 p2=some x:=by
   rcases hcase h2 with ⟨rfl,rfl,rfl,rfl⟩ | ⟨h2,_⟩
   ·exact ⟨_,hat⟩
   ·exact ⟨_,h2⟩
  obtain ⟨x1,e1⟩:=e1
  obtain ⟨x2,e2⟩:=e2
  exact h.sep _ _ _ _ _ _ _ _ _ _ _ _ _ e1 e2 h3 h4 h5 h6
 ·intro b2 o2 v hv
  rw [xj,if_neg]
  ·exact h.rdok _ _ _ hv
  ·rintro ⟨rfl,_⟩
   have:=h.rdsep _ _ _ _ _ _ _ hat hφ had o2 (.inl hmu)
   rw [this] at hv
   cases hv
 ·intro r2 g2 p2 row2 pl2 b2 q2 h1 h2 h3 k hor
  rcases hcase h1 with ⟨rfl,rfl,rfl,rfl⟩ | ⟨h1,_⟩
  ·exact h.rdsep _ _ _ _ _ _ _ hat h2 h3 k (.inl hmu)
  ·exact h.rdsep _ _ _ _ _ _ _ h1 h2 h3 k hor
 ·intro r2 g2 p2 row2 pl2 b2 q2 h1 h2 h3
  rw [qH]
  rcases hcase h1 with ⟨rfl,rfl,rfl,rfl⟩ | ⟨h1,_⟩
  ·exact h.own _ _ _ _ _ _ _ hat h2 h3
  ·exact h.own _ _ _ _ _ _ _ h1 h2 h3
 ·intro k hk hO
  rw [qP]
  ·exact h.frame k hk hO
  ·rintro rfl
   rcases (h.own _ _ _ _ _ _ _ hat hφ had).1 with hh | hh
   ·exact hO hh
   ·omega
 ·rw [qH];exact h.size
 ·rw [(xD b vs o w).1];exact h.os
 ·rw [(xD b vs o w).2.1];exact h.tape
 ·rw [(xD b vs o w).2.2];exact h.output
theorem xH {σ:Sig} {r g:Nat} {p:List Nat} {f:jQ} {row':Row} (hl:zz σ r=some (g,f)) {r2 g2:Nat} {p2:List Nat} {row2:Row}
  (hr:zo (yD σ r (g,jg f p row')) r2 g2 p2=some row2):(r=r2∧g=g2∧p=p2∧row'=row2)∨(zo σ r2 g2 p2=some row2∧¬(r2=r∧p2=p)):=by
 rw [yo] at hr
 by_cases hd:r2=r
 ·rw [if_pos hd] at hr
  by_cases hg:g=g2
  ·rw [if_pos hg] at hr
   unfold jg at hr
   by_cases hp:p2=p
   ·rw [if_pos hp] at hr
    exact .inl ⟨hd.symm,hg,hp.symm,Option.some.inj hr⟩
   ·rw [if_neg hp] at hr
    refine .inr ⟨?_,fun hh=>hp hh.2⟩
    unfold zo
    rw [hd,hl]
    simp [hg,hr]
  ·rw [if_neg hg] at hr;cases hr
 ·rw [if_neg hd] at hr
  exact .inr ⟨hr,fun hh=>hd hh.1⟩
theorem HRel.freeze {rd:RD} {φ:Phi} {O:Nat→Prop} {w0 w:World} {σ:Sig} (h:HRel rd φ O w0 σ w) {r g:Nat} {p:List Nat} {f:jQ} {row:Row}
  (hl:zz σ r=some (g,f)) (hf:f p=some row) (hfl:1≤row.fl):
  ∃rd',Ext O w0 rd rd'∧HRel rd' φ O w0 (yD σ r (g,jg f p ⟨row.sz,row.es,row.fl,true⟩)) w:=by
 have hat:zo σ r g p=some row:=by unfold zo;rw [hl];simp [hf]
 obtain ⟨pl,hφ,hok⟩:=h.rows r g p row hat
 have hcase:=fun {r2 g2 p2 row2} (hr:zo (yD σ r (g,jg f p ⟨row.sz,row.es,row.fl,true⟩)) r2 g2 p2=some row2)=>xH hl hr
 have hsome:∀{r2 g2 p2 row2},zo (yD σ r (g,jg f p ⟨row.sz,row.es,row.fl,true⟩)) r2 g2 p2=some row2→∃x,zo σ r2 g2 p2=some x:=by
  intro r2 g2 p2 row2 hr
  rcases hcase hr with ⟨rfl,rfl,rfl,rfl⟩ | ⟨h1,_⟩
  ·exact ⟨_,hat⟩
  ·exact ⟨_,h1⟩
 have sep':∀r1 g1 p1 row1 r2 g2 p2 row2 pl1 pl2 b q1 q2,zo (yD σ r (g,jg f p ⟨row.sz,row.es,row.fl,true⟩)) r1 g1 p1=some row1→
   zo (yD σ r (g,jg f p ⟨row.sz,row.es,row.fl,true⟩)) r2 g2 p2=some row2→φ r1 g1 p1=some pl1→φ r2 g2 p2=some pl2→pl1.ad=some (b,q1)→pl2.ad=some (b,q2)→r1=r2∧p1=p2:=by
  intro r1 g1 p1 row1 r2 g2 p2 row2 pl1 pl2 b q1 q2 h1 h2 h3 h4 h5 h6
  obtain ⟨x1,e1⟩:=hsome h1
  obtain ⟨x2,e2⟩:=hsome h2
  exact h.sep _ _ _ _ _ _ _ _ _ _ _ _ _ e1 e2 h3 h4 h5 h6
 have own':∀r1 g1 p1 row1 pl1 b q1,zo (yD σ r (g,jg f p ⟨row.sz,row.es,row.fl,true⟩)) r1 g1 p1=some row1→φ r1 g1 p1=some pl1→pl1.ad=some (b,q1)→(O b∨w0.heap.size≤b)∧b<w.heap.size:=by
  intro r1 g1 p1 row1 pl1 b q1 h1 h2 h3
  obtain ⟨x1,e1⟩:=hsome h1
  exact h.own _ _ _ _ _ _ _ e1 h2 h3
 cases had:pl.ad with
 | none=>
  refine ⟨rd,.refl,?_,sep',h.rdok,?_,own',h.frame,h.size,h.os,h.tape,h.output⟩
  ·intro r2 g2 p2 row2 hr
   rcases hcase hr with ⟨rfl,rfl,rfl,rfl⟩ | ⟨hr,hne⟩
   ·exact ⟨pl,hφ,hok.wide,hok.len,hok.kind,hok.nil,hok.room,hok.cells,fun _=>⟨hfl,fun b q hb=>by rw [had] at hb;cases hb⟩,hok.mp⟩
   ·exact h.rows _ _ _ _ hr
  ·intro r2 g2 p2 row2 pl2 b2 q2 h1 h2 h3 k hor
   rcases hcase h1 with ⟨rfl,rfl,rfl,rfl⟩ | ⟨h1,_⟩
   ·rw [hφ] at h2;cases h2;rw [had] at h3;cases h3
   ·exact h.rdsep _ _ _ _ _ _ _ h1 h2 h3 k hor
 | some bq=>
  obtain ⟨b,q⟩:=bq
  obtain ⟨hO,hlt⟩:=h.own _ _ _ _ _ _ _ hat hφ had
  have hgrow:∀b' k v,rd b' k=some v→(if b'=b∧q≤k∧k<q+row.es.length * row.sz then w.cell? (mkA b' k) else rd b' k)=some v:=by
   intro b' k v hv
   split
   ·exact h.rdok _ _ _ hv
   ·exact hv
  refine ⟨fun b' k=>if b'=b∧q≤k∧k<q+row.es.length * row.sz then w.cell? (mkA b' k) else rd b' k,⟨hgrow,?_⟩,?_,sep',?_,?_,own',h.frame,h.size,h.os,h.tape,h.output⟩
  ·intro b' o hb hOb
   refine if_neg ?_
   rintro ⟨rfl,_⟩
   rcases hO with hh | hh
   ·exact hOb hh
   ·omega
  ·intro r2 g2 p2 row2 hr
   rcases hcase hr with ⟨rfl,rfl,rfl,rfl⟩ | ⟨hr,hne⟩
   ·have hm:=hok.mono (rd':=fun b' k=>if b'=b∧q≤k∧k<q+row.es.length * row.sz then w.cell? (mkA b' k) else rd b' k) (φ':=φ) hgrow (fun _ _ _ _ h=>h)
    refine ⟨pl,hφ,hm.wide,hm.len,hm.kind,hm.nil,hm.room,hm.cells,fun _=>⟨hfl,fun b2 q2 hb k hk=>?_⟩,hm.mp⟩
    rw [had] at hb
    simp only [Option.some.injEq,Prod.mk.injEq] at hb
    obtain ⟨rfl,rfl⟩:=hb
    have hk:k<row.es.length * row.sz:=hk
    exact if_pos ⟨rfl,by omega,by omega⟩
   ·obtain ⟨pl2,e1,e2⟩:=h.rows _ _ _ _ hr
    exact ⟨pl2,e1,e2.mono hgrow (fun _ _ _ _ h=>h)⟩
  ·intro b' k v hv
   split at hv
   ·exact hv
   ·exact h.rdok _ _ _ hv
  ·intro r2 g2 p2 row2 pl2 b2 q2 h1 h2 h3 k hor
   rcases hcase h1 with ⟨rfl,rfl,rfl,rfl⟩ | ⟨h1,hne⟩
   ·rw [hφ] at h2
    cases h2
    rw [had] at h3
    simp only [Option.some.injEq,Prod.mk.injEq] at h3
    obtain ⟨rfl,rfl⟩:=h3
    simp only [false_or,Bool.true_eq_false] at hor
    exact (if_neg (by omega)).trans (h.rdsep _ _ _ _ _ _ _ hat hφ had k (.inr hor))
   ·have hb:b2≠b:=by
     rintro rfl
     exact hne (h.sep _ _ _ _ _ _ _ _ _ _ _ _ _ h1 hat h2 hφ h3 had)
    exact (if_neg (fun hh=>hb hh.1)).trans (h.rdsep _ _ _ _ _ _ _ h1 h2 h3 k hor)
end Go.Proofs.YtpjpkmhaffmbmaaGreat.E
end
section
namespace Go.Proofs.YtpjpkmhaffmbmaaGreat.E
open Go Go.RowKit
set_option linter.unusedVariables false
inductive TK where
 | bool | int (k:IntKind) | string | slice | array | struct | pointer | map | other
 deriving DecidableEq
def xe:TypeDesc→TK
 | .bool=>.bool
 | .int k=>.int k
 | .string=>.string
 | .slice _=>.slice
 | .array _ _=>.array
 | .struct _=>.struct
 | .pointer _=>.pointer
 | .map _ _=>.map
 | _=>.other
def zic:TypeDesc→Bool
 | .struct _ | .array _ _=>true
 | _=>false
def elOf:TypeDesc→Nat
 | .slice e | .array _ e | .pointer e=>e
 | _=>0
def zkg:TypeDesc→Nat
 | .array n _=>n
 | _=>0
def absC (v:Value):AV:=
 match v with
 | .slice none 0 0=>.nilS
 | v=>match zlI v with
  | true=>.sc v
  | false=>.dead
def znF:Value→AV
 | .agg cs=>.agg (cs.toList.map absC)
 | .tuple cs=>.tup (cs.toList.map absC)
 | v=>absC v
structure TI where
 sz:Nat
 bytes:Nat
 ag:Bool
 zero:Option (List AV)
 flds:List (Nat × Nat)
 el:Nat
 n:Nat
 k:TK
def ti (P:Program) (t:TypeId):Option TI:=
 match P.info? t,P.underlying t with
 | some i,some d=>some ⟨i.size,i.bytes,zic d,i.zero.map (fun z=>z.cells.toList.map absC),
   (match d with | .struct fs=>fs.toList.map fun f=>(f.offset,P.cellsOf f.type) | _=>[]),elOf d,zkg d,xe d⟩
 | _,_=>none
theorem xn {P:Program} {t:TypeId} {x:TI} (h:ti P t=some x):∃i d,P.info? t=some i∧P.underlying t=some d∧x.sz=i.size∧x.bytes=i.bytes∧x.ag=zic d∧
  x.zero=i.zero.map (fun z=>z.cells.toList.map absC)∧x.flds=(match d with | .struct fs=>fs.toList.map fun f=>(f.offset,P.cellsOf f.type) | _=>[])∧
  x.el=elOf d∧x.n=zkg d∧x.k=xe d:=by
 unfold ti at h
 split at h
 ·rename_i i d h1 h2
  have h:=Option.some.inj h
  subst h
  exact ⟨i,d,h1,h2,rfl,rfl,rfl,rfl,rfl,rfl,rfl,rfl⟩
 ·simp at h
section
variable {rd:RD} {φ:Phi}
theorem zhG (v:Value):VRel rd φ (absC v) v:=by
 unfold absC
 split
 ·exact .nilS
 ·split
  ·exact .sc _ ‹_›
  ·exact .dead _
def PW (rd:RD) (φ:Phi) (cs:List AV) (vs:List Value):Prop:=cs.length=vs.length∧∀(j:Nat) (c:AV),cs[j]?=some c→∃v,vs[j]?=some v∧VRel rd φ c v
theorem PW.agg {cs:List AV} {arr:Array Value} (h:PW rd φ cs arr.toList):VRel rd φ (.agg cs) (.agg arr):=by
 refine .agg cs arr (fun j=>arr.getD j undef) (by rw [h.1];simp) (fun j c hc=>?_) (fun j c hc=>?_)
 ·obtain ⟨v,hv,_⟩:=h.2 j c hc
  have hv':arr[j]?=some v:=by simpa using hv
  simp [hv']
 ·obtain ⟨v,hv,hr⟩:=h.2 j c hc
  have hv':arr[j]?=some v:=by simpa using hv
  simpa [hv'] using hr
theorem PW.tup {cs:List AV} {arr:Array Value} (h:PW rd φ cs arr.toList):VRel rd φ (.tup cs) (.tuple arr):=by
 refine .tup cs arr (fun j=>arr.getD j undef) (by rw [h.1];simp) (fun j c hc=>?_) (fun j c hc=>?_)
 ·obtain ⟨v,hv,_⟩:=h.2 j c hc
  have hv':arr[j]?=some v:=by simpa using hv
  simp [hv']
 ·obtain ⟨v,hv,hr⟩:=h.2 j c hc
  have hv':arr[j]?=some v:=by simpa using hv
  simpa [hv'] using hr
theorem PW.of_agg {cs:List AV} {v:Value} (h:VRel rd φ (.agg cs) v):∃arr,v=.agg arr∧PW rd φ cs arr.toList:=by
 cases h with
 | agg _ arr f hs hg hv=>exact ⟨arr,rfl,by simp [hs],fun j c hc=>⟨f j,by simpa using hg j c hc,hv j c hc⟩⟩
theorem PW.of_tup {cs:List AV} {v:Value} (h:VRel rd φ (.tup cs) v):∃arr,v=.tuple arr∧PW rd φ cs arr.toList:=by
 cases h with
 | tup _ arr f hs hg hv=>exact ⟨arr,rfl,by simp [hs],fun j c hc=>⟨f j,by simpa using hg j c hc,hv j c hc⟩⟩
theorem PW.absC (vs:List Value):PW rd φ (vs.map absC) vs:=
 ⟨by simp,fun j c hc=>by
  rw [List.getElem?_map] at hc
  cases hv:vs[j]? with
  | none=>rw [hv] at hc;cases hc
  | some v=>rw [hv] at hc;cases hc;exact ⟨v,rfl,zhG v⟩⟩
theorem zen (v:Value):VRel rd φ (znF v) v:=by
 unfold znF
 split
 ·exact PW.agg (PW.absC _)
 ·exact PW.tup (PW.absC _)
 ·exact zhG _
def yB:AV→List AV
 | .agg cs=>cs
 | v=>[v]
theorem jK {a:AV} {v:Value} (h:VRel rd φ a v) (hc:(yB a).all jP=true):PW rd φ (yB a) v.cells.toList∧∀x∈v.cells.toList,x.oneCell'=true:=by
 have key:jP a=true→PW rd φ [a] v.cells.toList∧∀x∈v.cells.toList,x.oneCell'=true:=by
  intro hb
  have h1:=h.one hb
  have yi:v.cells=#[v]:=by cases v<;>first | rfl | (simp [Value.oneCell'] at h1;done)
  rw [yi]
  refine ⟨⟨rfl,fun j c hj=>?_⟩,fun x hx=>?_⟩
  ·cases j with
   | zero=>simp at hj;subst hj;exact ⟨v,rfl,h⟩
   | succ j=>simp at hj
  ·simp at hx;subst hx;exact h1
 cases a with
 | agg cs=>
  obtain ⟨arr,rfl,hp⟩:=PW.of_agg h
  refine ⟨hp,fun x hx=>?_⟩
  replace hx:x∈arr.toList:=hx
  obtain ⟨j,hj⟩:=List.getElem?_of_mem hx
  have hj':j<cs.length:=by
   rw [hp.1]
   rcases Nat.lt_or_ge j arr.toList.length with h' | h'
   ·exact h'
   ·rw [List.getElem?_eq_none h'] at hj;cases hj
  have hcj:cs[j]?=some cs[j]:=List.getElem?_eq_getElem hj'
  obtain ⟨u,hu,hr⟩:=hp.2 j _ hcj
  rw [hj] at hu
  cases hu
  exact hr.one (List.all_eq_true.1 hc _ (List.mem_of_getElem? hcj))
 | dead=>simp [yB,jP] at hc
 | tup vs=>simp [yB,jP] at hc
 | it r=>simp [yB,jP] at hc
 | _=>exact key rfl
theorem PW.drop {cs:List AV} {vs:List Value} (h:PW rd φ cs vs) (n:Nat):PW rd φ (cs.drop n) (vs.drop n):=
 ⟨by simp [h.1],fun j c hc=>by rw [List.getElem?_drop] at hc ⊢;exact h.2 _ _ hc⟩
theorem PW.take {cs:List AV} {vs:List Value} (h:PW rd φ cs vs) (n:Nat):PW rd φ (cs.take n) (vs.take n):=
 ⟨by simp [h.1],fun j c hc=>by
  rw [List.getElem?_take] at hc ⊢
  split at hc
  ·rw [if_pos ‹_›];exact h.2 _ _ hc
  ·cases hc⟩
theorem PW.append {cs ds:List AV} {vs us:List Value} (h:PW rd φ cs vs) (k:PW rd φ ds us):PW rd φ (cs++ds) (vs++us):=
 ⟨by simp [h.1,k.1],fun j c hc=>by
  rw [List.getElem?_append] at hc ⊢
  rw [←h.1]
  split at hc
  ·rw [if_pos ‹_›];exact h.2 _ _ hc
  ·rw [if_neg ‹_›];exact k.2 _ _ hc⟩
theorem PW.nil:PW rd φ [] []:=⟨rfl,fun j c h=>by simp at h⟩
end
def ldC (i:TI) (cs:List AV) (o:Nat):Option AV:=
 match i.ag with
 | true=>match Nat.ble (o+i.sz) cs.length with
  | true=>some (.agg ((cs.drop o).take i.sz))
  | false=>none
 | false=>cs[o]?
def stC (i:TI) (cs:List AV) (o:Nat) (v:AV):Option (List AV):=
 match (yB v).all jP,Nat.beq (yB v).length i.sz,Nat.ble (o+i.sz) cs.length with
 | true,true,true=>some (cs.take o++yB v++cs.drop (o+i.sz))
 | _,_,_=>none
def zam (P:Program) (d G:Nat) (σ:Sig) (t:Nat):Option (AV × Sig):=
 (ti P t).bind fun i=>i.zero.bind fun z=>match Nat.beq z.length i.sz with
  | true=>some (.ptr d G [] i.sz 0 0,yD σ d (G,one ⟨i.sz,[z],0,false⟩))
  | false=>none
def zfB (P:Program) (d G:Nat) (σ:Sig) (t:Nat) (v:AV):Option (AV × Sig):=
 (ti P t).bind fun i=>match (yB v).all jP,Nat.beq (yB v).length i.sz with
  | true,true=>some (.ptr d G [] i.sz 0 0,yD σ d (G,one ⟨i.sz,[yB v],0,false⟩))
  | _,_=>none
def wB (P:Program) (σ:Sig) (t:Nat) (a:AV):Option AV:=
 (ti P t).bind fun i=>match a with
  | .ptr r g p sz k o=>(zo σ r g p).bind fun row=>match Nat.beq sz row.sz with
   | true=>(row.es[k]?).bind fun cs=>ldC i cs o
   | false=>none
  | .rp cs=>ldC i cs 0
  | _=>none
def sub (off len:Nat) (es:List (List AV)):List (List AV):=(es.drop off).take len
def ziJ {α:Type} (a b:Nat) (x:Option α):Option α:=match Nat.ble a b with
 | true=>x
 | false=>none
def zni (σ:Sig):AV→Option (Sig × AV)
 | .blk r g p sz off len=>(zz σ r).bind fun gf=>match Nat.beq gf.1 g with
  | true=>(gf.2 p).bind fun row=>match Nat.beq sz row.sz,Nat.ble 1 row.fl with
   | true,true=>ziJ (off+len) row.es.length (match row.ao with
    | true=>some (σ,.ro sz (sub off len row.es))
    | false=>some (yD σ r (g,jg gf.2 p ⟨row.sz,row.es,row.fl,true⟩),.ro sz (sub off len row.es)))
   | _,_=>none
  | false=>none
 | .ptr .. | .dead | .agg _ | .tup _ | .rp _ | .it _ | .mr ..=>none
 | v=>some (σ,v)
def zrx (σ:Sig):List AV→Option (Sig × List AV)
 | []=>some (σ,[])
 | c::cs=>(zni σ c).bind fun x=>(zrx x.1 cs).map fun y=>(y.1,x.2::y.2)
def frz (σ:Sig):AV→Option (Sig × AV)
 | .agg cs=>(zrx σ cs).map fun x=>(x.1,.agg x.2)
 | v=>zni σ v
def qx (σ:Sig):List AV→Option (Sig × List AV)
 | []=>some (σ,[])
 | c::cs=>(frz σ c).bind fun x=>(qx x.1 cs).map fun y=>(y.1,x.2::y.2)
def zrb (σ:Sig) (r g:Nat) (p:List Nat):Bool:=match zo σ r g p with
 | some row=>Nat.beq row.fl 0
 | none=>true
def zjb (i:TI) (σ:Sig) (r g:Nat) (p:List Nat) (sz k o:Nat) (v:AV):Option Sig:=
 (zz σ r).bind fun gf=>match Nat.beq gf.1 g with
  | true=>(gf.2 p).bind fun row=>match Nat.beq sz row.sz,row.ao with
   | true,false=>(row.es[k]?).bind fun cs=>(stC i cs o v).bind fun cs'=>some (yD σ r (g,jg gf.2 p ⟨row.sz,row.es.set k cs',min row.fl (flC (yB v)),false⟩))
   | _,_=>none
  | false=>none
def jL (P:Program) (σ:Sig) (t:Nat) (a v:AV):Option Sig:=
 (ti P t).bind fun i=>match a with
  | .ptr r g p sz k o=>match zrb σ r g p with
   | true=>zjb i σ r g p sz k o v
   | false=>(frz σ v).bind fun x=>zjb i x.1 r g p sz k o x.2
  | _=>none
def xw (P:Program) (t:Nat) (a:AV) (f:Nat):Option AV:=
 (ti P t).bind fun i=>match i.k with
  | .struct=>(i.flds[f]?).bind fun of=>match Nat.beq of.2 0 with
   | true=>none
   | false=>match a with
    | .ptr r g p sz k o=>some (.ptr r g p sz k (o+of.1))
    | .rp cs=>some (.rp (cs.drop of.1))
    | _=>none
  | _=>none
section
variable {P:Program} {rd:RD} {φ:Phi} {O:Nat→Prop} {w0 w:World} {σ:Sig} {d G:Nat}
def After (rd:RD) (φ:Phi) (O:Nat→Prop) (w0:World) (d G:Nat) (σ':Sig) (v:AV) (r:Result Value):Prop:=
 ∃cv w' φ',r=.ok cv w'∧HRel rd φ' O w0 σ' w'∧VRel rd φ' v cv∧(∀r g p pl,φ r g p=some pl→φ' r g p=some pl)∧(∀r g p,φ' r g p≠none→φ r g p≠none∨(r=d∧g=G))
def After0 (rd:RD) (φ:Phi) (O:Nat→Prop) (w0:World) (σ':Sig) (v:AV) (r:Result Value):Prop:=∃cv w',r=.ok cv w'∧HRel rd φ O w0 σ' w'∧VRel rd φ v cv
theorem After0.same {σ:Sig} (h:HRel rd φ O w0 σ w) {v:AV} {cv:Value} {r:Result Value} (hr:r=.ok cv w) (hv:VRel rd φ v cv):After0 rd φ O w0 σ v r:=⟨cv,w,hr,h,hv⟩
theorem yC {φ:Phi} {d G:Nat} {ψ:List Nat→Option Pl} (r g:Nat) (p:List Nat) (h:zB φ d G ψ r g p≠none):φ r g p≠none∨(r=d∧g=G):=by
 unfold zB at h
 split at h
 ·exact .inr ‹_›
 ·exact .inl h
theorem za9 (h:HRel rd φ O w0 σ w) (hfr:∀p,φ d G p=none) {cs:List AV} {arr:Array Value} (hp:PW rd φ cs arr.toList) (T:TypeId) (sz:Nat) (hs:cs.length=sz):
  After rd φ O w0 d G (yD σ d (G,one ⟨sz,[cs],0,false⟩)) (.ptr d G [] sz 0 0) (.ok (.pointer (some ⟨w.heap.size,0,none⟩)) (w.alloc (.cells arr T))):=by
 have hn:=h.newRow hfr ⟨sz,[cs],0,false⟩ rfl (by show (0:Nat)<3;decide) 1 arr T (0,0) (.inr (Nat.le_refl _)) (by simp [hs]) (by simp) (by have:=hp.1;simp at this;simp;omega)
  (fun e he=>⟨fun h=>absurd h (by simp),fun h=>absurd h (by simp)⟩)
  (fun i j c hc=>by
   cases i with
   | zero=>
    simp only [List.getElem?_cons_zero,Option.bind_some] at hc
    obtain ⟨v,hv,hr⟩:=hp.2 j c hc
    exact ⟨v,by simpa using hv,hr⟩
   | succ i=>simp at hc)
 refine ⟨_,_,_,rfl,hn.1,?_,hn.2,fun r g p hh=>yC r g p hh⟩
 have:=VRel.ptr (rd:=rd) (φ:=zB φ d G fun p=>match p with | []=>some ⟨some (w.heap.size,0),1⟩ | _=>none) d G [] sz 0 0 ⟨some (w.heap.size,0),1⟩ w.heap.size 0 (by simp [zB]) rfl
 simp only [Nat.zero_mul,Nat.add_zero] at this
 exact this
theorem zgN (h:HRel rd φ O w0 σ w) (hfr:∀p,φ d G p=none) {t:Nat} {v:AV} {σ':Sig} (ha:zam P d G σ t=some (v,σ')) (old:Value):
  After rd φ O w0 d G σ' v ((Instr.alloc t true old).run P w):=by
 unfold zam at ha
 obtain ⟨i,hi,ha⟩:=Option.bind_eq_some_iff.1 ha
 obtain ⟨z,hz,ha⟩:=Option.bind_eq_some_iff.1 ha
 split at ha
 ·cases ha
  obtain ⟨inf,dsc,h1,h2,h3,h4,h5,h6,-⟩:=xn hi
  rw [h6] at hz
  obtain ⟨zv,hzv,rfl⟩:=Option.map_eq_some_iff.1 hz
  have hl:=Nat.eq_of_beq_eq_true ‹Nat.beq _ _=true›
  have hrun:(Instr.alloc t true old).run P w=.ok (.pointer (some ⟨w.heap.size,0,none⟩)) (w.alloc (.cells zv.cells t)):=by
   simp [Instr.alloc,zeroValue,typeInfo,h1,hzv,newVar,newRow]
  rw [hrun]
  exact za9 h hfr (PW.absC _) t _ hl
 ·cases ha
theorem zk0 (h:HRel rd φ O w0 σ w) (hfr:∀p,φ d G p=none) {t:Nat} {x v:AV} {cx:Value} (hx:VRel rd φ x cx) {σ':Sig} (ha:zfB P d G σ t x=some (v,σ')):
  After rd φ O w0 d G σ' v ((Instr.box t cx).run P w):=by
 unfold zfB at ha
 obtain ⟨i,hi,ha⟩:=Option.bind_eq_some_iff.1 ha
 split at ha
 ·cases ha
  have hl:=Nat.eq_of_beq_eq_true ‹Nat.beq _ _=true›
  have hrun:(Instr.box t cx).run P w=.ok (.pointer (some ⟨w.heap.size,0,none⟩)) (w.alloc (.cells cx.cells t)):=by
   simp [Instr.box,newVar,newRow]
  rw [hrun]
  exact za9 h hfr (jK hx ‹_›).1 t _ hl
 ·cases ha
theorem zeI (h:HRel rd φ O w0 σ w) {r g:Nat} {p:List Nat} {row:Row} (hr:zo σ r g p=some row) {k:Nat} {cs:List AV} (hk:row.es[k]?=some cs):
  ∃pl,φ r g p=some pl∧RowOK rd φ w pl row∧cs.length=row.sz∧k<pl.cap∧∀b q,pl.ad=some (b,q)→∀j c,cs[j]?=some c→∃v,w.cell? (mkA b (q+k * row.sz+j))=some v∧VRel rd φ c v:=by
 obtain ⟨pl,hp,hok⟩:=h.rows _ _ _ _ hr
 have hlt:k<row.es.length:=by
  rcases Nat.lt_or_ge k row.es.length with hx | hx
  ·exact hx
  ·rw [List.getElem?_eq_none hx] at hk;cases hk
 exact ⟨pl,hp,hok,hok.wide cs (List.mem_of_getElem? hk),Nat.lt_of_lt_of_le hlt hok.len,fun b q had j c hc=>hok.cells b q had k j c (by rw [hk];exact hc)⟩
theorem zgj (dsc:TypeDesc):dsc.isRow=zic dsc:=by cases dsc<;>rfl
theorem zch {t:Nat} {i:TI} (hi:ti P t=some i) {cs:List AV} {b q:Nat} (hc:∀j c,cs[j]?=some c→∃v,w.cell? (mkA b (q+j))=some v∧VRel rd φ c v) {o:Nat} {v:AV} (hl:ldC i cs o=some v):
  ∃cv,(Instr.loadAt t (.pointer (some (mkA b (q+o))))).run P w=.ok cv w∧VRel rd φ v cv:=by
 obtain ⟨inf,dsc,h1,h2,h3,h4,h5,-⟩:=xn hi
 unfold ldC at hl
 split at hl
 ·rename_i hag
  split at hl
  ·rename_i hle
   cases hl
   have hle:=Nat.le_of_ble_eq_true hle
   have hall:∀j,j<i.sz→∃c v,cs[o+j]?=some c∧w.cell? (mkA b (q+o+j))=some v∧VRel rd φ c v:=by
    intro j hj
    have hlt:o+j<cs.length:=by omega
    obtain ⟨v,hv,hr⟩:=hc (o+j) _ (List.getElem?_eq_getElem hlt)
    exact ⟨_,v,List.getElem?_eq_getElem hlt,by rw [Nat.add_assoc];exact hv,hr⟩
   let vs:List Value:=(List.range i.sz).map fun j=>(w.cell? (mkA b (q+o+j))).getD undef
   have hvs:∀j v,vs[j]?=some v→w.cell? ⟨b,q+o+j,none⟩=some v:=by
    intro j v hj
    simp only [vs,List.getElem?_map] at hj
    obtain ⟨j',hj',hj2⟩:=Option.map_eq_some_iff.1 hj
    have hjj:j<i.sz∧j'=j:=by
     rcases Nat.lt_or_ge j i.sz with hx | hx
     ·rw [List.getElem?_range hx] at hj';cases hj';exact ⟨hx,rfl⟩
     ·rw [List.getElem?_eq_none (by simpa using hx)] at hj';cases hj'
    obtain ⟨hjlt,rfl⟩:=hjj
    obtain ⟨c,u,_,hu,_⟩:=hall j' hjlt
    rw [hu] at hj2
    simp at hj2
    rw [←hj2]
    exact hu
   refine ⟨.agg vs.toArray,run_loadAt_mid w b (q+o) t vs dsc hvs h2 (by rw [zgj,←h5,hag]) (by rw [h1];simp [vs,h3]),PW.agg ⟨?_,?_⟩⟩
   ·simp [vs];omega
   ·intro j c hj
    rw [List.getElem?_take] at hj
    split at hj
    ·rename_i hjlt
     rw [List.getElem?_drop] at hj
     obtain ⟨c',u,hc',hu,hr⟩:=hall j hjlt
     rw [hj] at hc'
     cases hc'
     refine ⟨u,?_,hr⟩
     simp only [vs,List.getElem?_map]
     rw [List.getElem?_range hjlt]
     simp [hu]
    ·cases hj
  ·cases hl
 ·rename_i hag
  obtain ⟨u,hu,hr⟩:=hc o v hl
  refine ⟨u,?_,hr⟩
  have hagg:(isAgg t).run P w=.ok false w:=by
   unfold isAgg
   rw [Sem.run_bind,run_underlying h2 w]
   have:zic dsc=false:=by rw [←h5,hag]
   cases dsc<;>simp_all [zic]
  simp [Instr.loadAt,Instr.sureAddr,loadVar,hagg,hu]
theorem zhl (h:HRel rd φ O w0 σ w) {t:Nat} {x v:AV} {cx:Value} (hx:VRel rd φ x cx) (ha:wB P σ t x=some v):
  ∃cv,(Instr.loadAt t cx).run P w=.ok cv w∧VRel rd φ v cv:=by
 unfold wB at ha
 obtain ⟨i,hi,ha1⟩:=Option.bind_eq_some_iff.1 ha
 clear ha
 cases hx with
 | ptr r g p sz k o pl b q hφ had=>
  simp only at ha1
  obtain ⟨row,hrow,ha2⟩:=Option.bind_eq_some_iff.1 ha1
  clear ha1
  split at ha2
  ·rename_i hsz
   obtain ⟨cs,hcs,ha3⟩:=Option.bind_eq_some_iff.1 ha2
   have hsz:=Nat.eq_of_beq_eq_true hsz
   subst hsz
   obtain ⟨pl',hp',hok,hlen,hk,hcell⟩:=zeI h hrow hcs
   rw [hφ] at hp'
   cases hp'
   obtain ⟨cv,h1,h2⟩:=zch (P:=P) (w:=w) (rd:=rd) (φ:=φ) hi (b:=b) (q:=q+k * row.sz) (hcell b q had) ha3
   exact ⟨cv,h1,h2⟩
  ·cases ha2
 | rp cs b q f hs hr hv=>
  simp only at ha1
  obtain ⟨cv,h1,h2⟩:=zch (P:=P) (w:=w) (rd:=rd) (φ:=φ) hi (b:=b) (q:=q) (fun j c hj=>⟨f j,h.rdok _ _ _ (hr j c hj),hv j c hj⟩) ha1
  exact ⟨cv,by simpa using h1,h2⟩
 | _=>simp at ha1
theorem zib (h:HRel rd φ O w0 σ w) {t:Nat} {x v:AV} {cx:Value} (hx:VRel rd φ x cx) (ha:wB P σ t x=some v):
  After0 rd φ O w0 σ v ((Instr.loadAt t cx).run P w):=by
 obtain ⟨cv,h1,h2⟩:=zhl h hx ha
 exact .same h h1 h2
theorem zbG (h:HRel rd φ O w0 σ w) {t:Nat} {i:TI} (hi:ti P t=some i) {r g:Nat} {p:List Nat} {sz k o:Nat} {y:AV} {cx cy:Value} (hx:VRel rd φ (.ptr r g p sz k o) cx) (hy:VRel rd φ y cy)
  {σ':Sig} (ha1:zjb i σ r g p sz k o y=some σ'):
  ∃w',(Instr.storeAt t cx cy).run P w=.ok () w'∧HRel rd φ O w0 σ' w':=by
 unfold zjb at ha1
 cases hx with
 | ptr _ _ _ _ _ _ pl b q hφ had=>
  obtain ⟨⟨g',f⟩,hl,ha2⟩:=Option.bind_eq_some_iff.1 ha1
  clear ha1
  split at ha2
  ·rename_i hg
   have hg:=Nat.eq_of_beq_eq_true hg
   simp only at hg
   subst hg
   obtain ⟨row,hrow,ha3⟩:=Option.bind_eq_some_iff.1 ha2
   clear ha2
   split at ha3
   ·rename_i hsz hmu
    have hsz:=Nat.eq_of_beq_eq_true hsz
    subst hsz
    obtain ⟨cs,hcs,ha4⟩:=Option.bind_eq_some_iff.1 ha3
    obtain ⟨cs',hst,ha5⟩:=Option.bind_eq_some_iff.1 ha4
    have ha5:=Option.some.inj ha5
    subst ha5
    clear ha3 ha4
    unfold stC at hst
    split at hst
    ·rename_i hb1 hb2 hb3
     cases hst
     have hb2:=Nat.eq_of_beq_eq_true hb2
     have hb3:=Nat.le_of_ble_eq_true hb3
     obtain ⟨hpw,hone⟩:=jK hy hb1
     have hrow':f p=some row:=hrow
     have hat:zo σ r g' p=some row:=by unfold zo;rw [hl];simp [hrow']
     obtain ⟨pl',hp',hok,hlen,hk,hcell⟩:=zeI h hat hcs
     rw [hφ] at hp'
     cases hp'
     obtain ⟨inf,dsc,h1,h2,h3,h4,h5,-⟩:=xn hi
     have yi:cy.cells.toList.length=i.sz:=by rw [←hpw.1];exact hb2
     have hin:∀j,j<i.sz→k * row.sz+o+j<pl.cap * row.sz:=by
      intro j hj
      have e1:(k+1) * row.sz≤pl.cap * row.sz:=Nat.mul_le_mul_right _ hk
      have e2:(k+1) * row.sz=k * row.sz+row.sz:=Nat.succ_mul _ _
      omega
     have hthere:w.there b (q+k * row.sz+o) cy.cells.size:=by
      intro j hj
      have hj':j<i.sz:=by rw [←yi];simpa using hj
      have:=hok.room b q had _ (hin j hj')
      rwa [show q+(k * row.sz+o+j)=q+k * row.sz+o+j by omega] at this
     have hrun:(Instr.storeAt t (.pointer (some (mkA b (q+k * row.sz+o)))) cy).run P w=.ok () (w.setCells b (q+k * row.sz+o) cy.cells.toList):=by
      have e:=run_storeCells_cells (P:=P) b (q+k * row.sz+o) cy.cells.toList 0 w (fun j hj=>by simpa using (hthere j (by simpa using hj)).1) (fun j hj=>by simpa using (hthere j (by simpa using hj)).2) hone
      have hs:cy.cells.size=inf.size:=by rw [←h3,←yi];simp
      simp only [Nat.add_zero] at e
      simp [Instr.storeAt,Instr.sureAddr,storeVar,sizeOf,typeInfo,h1,hs,e]
     refine ⟨_,hrun,?_⟩
     have hklt:k<row.es.length:=by
      rcases Nat.lt_or_ge k row.es.length with hx | hx
      ·exact hx
      ·rw [List.getElem?_eq_none hx] at hcs;cases hcs
     refine h.store hl hrow hφ had hmu ⟨row.sz,row.es.set k (cs.take o++yB y++cs.drop (o+i.sz)),min row.fl (flC (yB y)),false⟩ rfl (Nat.lt_of_le_of_lt (Nat.min_le_right _ _) (zkE _)) rfl ?_ ?_ ?_ (q+k * row.sz+o) cy.cells.toList ?_
     ·intro e he
      rcases List.mem_or_eq_of_mem_set he with he | rfl
      ·exact hok.wide e he
      ·simp [hb2,←hlen];omega
     ·simpa using hok.len
     ·intro e he
      rcases List.mem_or_eq_of_mem_set he with he | rfl
      ·exact (hok.kind e he).le (Nat.min_le_left _ _)
      ·refine KOK.min (hok.kind cs (List.mem_of_getElem? hcs)) (KOK.ofC (yB y)) (fun c hm=>?_)
       rw [List.mem_append,List.mem_append] at hm
       rcases hm with (hm | hm) | hm
       ·exact .inl (List.mem_of_mem_take hm)
       ·exact .inr hm
       ·exact .inl (List.mem_of_mem_drop hm)
     ·intro i2 j2 c hc
      rw [yi]
      by_cases hki:k=i2
      ·subst hki
       rw [List.getElem?_set_self hklt,Option.bind_some] at hc
       have hj2:j2<row.sz:=by
        have:j2<(cs.take o++yB y++cs.drop (o+i.sz)).length:=by
         rcases Nat.lt_or_ge j2 (cs.take o++yB y++cs.drop (o+i.sz)).length with hx | hx
         ·exact hx
         ·rw [List.getElem?_eq_none hx] at hc;cases hc
        simp [hb2] at this
        omega
       by_cases hin2:o≤j2∧j2<o+i.sz
       ·rw [if_pos (by omega)]
        rw [List.append_assoc,List.getElem?_append_right (by simp;omega),List.getElem?_append_left (by simp [hb2];omega)] at hc
        obtain ⟨v,hv,hr⟩:=hpw.2 _ c hc
        refine ⟨v,?_,hr⟩
        rw [←hv]
        congr 1
        simp
        omega
       ·rw [if_neg (by omega)]
        have hcj:cs[j2]?=some c:=by
         rcases Nat.lt_or_ge j2 o with hx | hx
         ·rw [List.append_assoc,List.getElem?_append_left (by simp;omega),List.getElem?_take,if_pos hx] at hc
          exact hc
         ·rw [List.getElem?_append_right (by simp [hb2];omega),List.getElem?_drop] at hc
          rw [←hc]
          congr 1
          simp [hb2]
          omega
        exact hcell b q had j2 c hcj
      ·rw [List.getElem?_set_ne hki] at hc
       have hlt2:j2<row.sz:=by
        cases he:row.es[i2]? with
        | none=>simp [he] at hc
        | some e=>
         simp only [he,Option.bind_some] at hc
         rw [←hok.wide e (List.mem_of_getElem? he)]
         rcases Nat.lt_or_ge j2 e.length with hx | hx
         ·exact hx
         ·rw [List.getElem?_eq_none hx] at hc;cases hc
       rw [if_neg]
       ·exact hok.cells b q had i2 j2 c hc
       ·rintro ⟨e1,e2⟩
        rcases Nat.lt_or_gt_of_ne hki with hx | hx
        ·have:(k+1) * row.sz≤i2 * row.sz:=Nat.mul_le_mul_right _ hx
         rw [Nat.succ_mul] at this
         omega
        ·have:(i2+1) * row.sz≤k * row.sz:=Nat.mul_le_mul_right _ hx
         rw [Nat.succ_mul] at this
         omega
    ·cases hst
   ·cases ha3
  ·cases ha2
theorem zeK {pl:Pl} {row:Row} (hok:RowOK rd φ w pl row) (hrd:∀b o v,rd b o=some v→w.cell? (mkA b o)=some v) (hao:row.ao=true) {off len:Nat} {A:Option Addr}
  (hA:pl.cap - off=0∨A=pl.ad.map fun x=>mkA x.1 (x.2+off * row.sz)) (hlen:len≤pl.cap - off) (h3:off+len≤row.es.length) (φ':Phi):
  VRel rd φ' (.ro row.sz (sub off len row.es)) (.slice A len (pl.cap - off)):=by
 have yi:∀(i j:Nat) (c:AV),(((row.es.drop off).take len)[i]?).bind (·[j]?)=some c→i<len∧(row.es[off+i]?).bind (·[j]?)=some c:=by
  intro i j c hc
  rw [List.getElem?_take] at hc
  split at hc
  ·rw [List.getElem?_drop] at hc
   exact ⟨‹_›,hc⟩
  ·cases hc
 have hll:((row.es.drop off).take len).length=len:=by simp;omega
 obtain ⟨h2,hfz⟩:=hok.frz hao
 have hsf:∀(i j:Nat) (c:AV),(row.es[i]?).bind (·[j]?)=some c→sfc c=true∧i * row.sz+j<row.es.length * row.sz:=by
  intro i j c hc
  cases he:row.es[i]? with
  | none=>rw [he] at hc;cases hc
  | some e=>
   rw [he] at hc
   have hm:=List.mem_of_getElem? he
   refine ⟨(hok.kind e hm).1 h2 c (List.mem_of_getElem? hc),?_⟩
   have hi:i<row.es.length:=by
    rcases Nat.lt_or_ge i row.es.length with hx | hx
    ·exact hx
    ·rw [List.getElem?_eq_none hx] at he;cases he
   have hj:j<row.sz:=by
    rw [←hok.wide e hm]
    rw [Option.bind_some] at hc
    rcases Nat.lt_or_ge j e.length with hx | hx
    ·exact hx
    ·rw [List.getElem?_eq_none hx] at hc;cases hc
   have e1:(i+1) * row.sz≤row.es.length * row.sz:=Nat.mul_le_mul_right _ hi
   have e2:(i+1) * row.sz=i * row.sz+row.sz:=Nat.succ_mul _ _
   omega
 unfold sub
 by_cases hz:len=0
 ·subst hz
  simp only [List.take_zero]
  exact .ro0 _ _ _
 ·have hcap:pl.cap - off≠0:=by omega
  rcases hA with hA | hA
  ·exact absurd hA hcap
  ·cases had:pl.ad with
   | none=>exact absurd (hok.nil had) (by omega)
   | some bq=>
    obtain ⟨b,q⟩:=bq
    rw [had] at hA
    simp only [Option.map_some] at hA
    subst hA
    have:=VRel.ro (rd:=rd) (φ:=φ') row.sz ((row.es.drop off).take len) b (q+off * row.sz) (pl.cap - off)
     (fun i j=>(w.cell? (mkA b (q+off * row.sz+i * row.sz+j))).getD undef) (by rw [hll];exact hlen)
     (fun i j c hc=>by
      obtain ⟨hi,hc⟩:=yi i j c hc
      exact (hsf _ _ _ hc).1)
     (fun i j c hc=>by
      obtain ⟨hi,hc⟩:=yi i j c hc
      obtain ⟨v,hv,_⟩:=hok.cells b q had _ _ _ hc
      have hf:=hfz b q had _ (hsf _ _ _ hc).2
      have e:q+(off+i) * row.sz+j=q+off * row.sz+i * row.sz+j:=by rw [Nat.add_mul];omega
      rw [←Nat.add_assoc,e] at hf
      rw [e] at hv
      rw [hf,hv]
      rfl)
     (fun i j c hc=>by
      obtain ⟨hi,hc⟩:=yi i j c hc
      obtain ⟨v,hv,hr⟩:=hok.cells b q had _ _ _ hc
      have e:q+(off+i) * row.sz+j=q+off * row.sz+i * row.sz+j:=by rw [Nat.add_mul];omega
      rw [e] at hv
      simp only [hv,Option.getD_some]
      have hs:=(hsf _ _ _ hc).1
      exact hr.of_sf (by cases c<;>first | rfl | cases hs))
    rw [hll] at this
    exact this
def jY (rd:RD) (φ:Phi) (O:Nat→Prop) (w0 w:World) (σ':Sig) (R:RD→Prop):Prop:=∃rd',Ext O w0 rd rd'∧HRel rd' φ O w0 σ' w∧R rd'
theorem jI (h:HRel rd φ O w0 σ w) {c c':AV} {v:Value} {σ':Sig} (hv:VRel rd φ c v) (hf:zni σ c=some (σ',c')):
  jY rd φ O w0 w σ' fun rd'=>(∀φ',VRel rd' φ' c' v)∧sfc c'=true:=by
 cases hv with
 | blk r g p sz off len pl A hφ hA hlen=>
  simp only [zni] at hf
  obtain ⟨⟨g',f⟩,hl,hf⟩:=Option.bind_eq_some_iff.1 hf
  simp only at hf
  split at hf
  ·rename_i hg
   have hg:=Nat.eq_of_beq_eq_true hg
   subst hg
   obtain ⟨row,hrow,hf⟩:=Option.bind_eq_some_iff.1 hf
   split at hf
   ·rename_i h1 h2
    have h1:=Nat.eq_of_beq_eq_true h1
    have h2:=Nat.le_of_ble_eq_true h2
    subst h1
    unfold ziJ at hf
    split at hf
    ·rename_i h3
     have h3:=Nat.le_of_ble_eq_true h3
     have hat:zo σ r g' p=some row:=by unfold zo;rw [hl];simp [hrow]
     split at hf
     ·rename_i hao
      cases hf
      obtain ⟨pl',hp',hok⟩:=h.rows _ _ _ _ hat
      rw [hφ] at hp'
      cases hp'
      exact ⟨rd,.refl,h,fun φ'=>zeK hok h.rdok hao hA hlen h3 φ',rfl⟩
     ·cases hf
      obtain ⟨rd',hx,hh⟩:=h.freeze hl hrow h2
      have hat':zo (yD σ r (g',jg f p ⟨row.sz,row.es,row.fl,true⟩)) r g' p=some ⟨row.sz,row.es,row.fl,true⟩:=by rw [yo];simp [jg]
      obtain ⟨pl',hp',hok⟩:=hh.rows _ _ _ _ hat'
      rw [hφ] at hp'
      cases hp'
      exact ⟨rd',hx,hh,fun φ'=>zeK hok hh.rdok rfl hA hlen h3 φ',rfl⟩
    ·cases hf
   ·cases hf
  ·cases hf
 | sc v h1=>cases hf;exact ⟨rd,.refl,h,fun φ'=>.sc v h1,rfl⟩
 | nilS=>cases hf;exact ⟨rd,.refl,h,fun φ'=>.nilS,rfl⟩
 | ro0 sz A cap=>cases hf;exact ⟨rd,.refl,h,fun φ'=>.ro0 _ _ _,rfl⟩
 | ro sz es b q cap f hc hs hr hv=>
  cases hf
  exact ⟨rd,.refl,h,fun φ'=>(VRel.ro (φ:=φ) sz es b q cap f hc hs hr hv).of_sf rfl,rfl⟩
 | _=>cases hf
theorem PW.cons {c:AV} {v:Value} {cs:List AV} {vs:List Value} (a:VRel rd φ c v) (b:PW rd φ cs vs):PW rd φ (c::cs) (v::vs):=
 ⟨by simp [b.1],fun j c hc=>by
  cases j with
  | zero=>cases hc;exact ⟨v,rfl,a⟩
  | succ j=>simpa using b.2 j c (by simpa using hc)⟩
theorem PW.uncons {c:AV} {cs:List AV} {vs:List Value} (h:PW rd φ (c::cs) vs):∃v us,vs=v::us∧VRel rd φ c v∧PW rd φ cs us:=by
 cases vs with
 | nil=>exact absurd h.1 (by simp)
 | cons v us=>
  obtain ⟨v',hv',hr⟩:=h.2 0 c rfl
  cases hv'
  exact ⟨v,us,rfl,hr,by simpa using h.1,fun j c hc=>by simpa using h.2 (j+1) c (by simpa using hc)⟩
theorem PW.mono {rd':RD} {φ':Phi} (h1:∀b o v,rd b o=some v→rd' b o=some v) (h2:∀r g p pl,φ r g p=some pl→φ' r g p=some pl) {cs:List AV} {vs:List Value} (h:PW rd φ cs vs):PW rd' φ' cs vs:=
 ⟨h.1,fun j c hc=>by obtain ⟨v,hv,hr⟩:=h.2 j c hc;exact ⟨v,hv,hr.mono h1 h2⟩⟩
theorem zdx:∀{cs cs':List AV} {vs:List Value} {rd:RD} {σ σ':Sig},HRel rd φ O w0 σ w→PW rd φ cs vs→zrx σ cs=some (σ',cs')→
  jY rd φ O w0 w σ' fun rd'=>(∀φ',PW rd' φ' cs' vs)∧∀c∈cs',sfc c=true
 | [],cs',vs,rd,σ,σ',h,hp,hf=>by
  cases hf
  have:vs=[]:=List.eq_nil_of_length_eq_zero hp.1.symm
  subst this
  exact ⟨rd,.refl,h,fun _=>PW.nil,fun c hc=>by simp at hc⟩
 | c::cs,cs',vs,rd,σ,σ',h,hp,hf=>by
  obtain ⟨v,us,rfl,hr,hp⟩:=hp.uncons
  simp only [zrx] at hf
  obtain ⟨⟨σ1,c1⟩,h1,hf⟩:=Option.bind_eq_some_iff.1 hf
  obtain ⟨⟨σ2,cs2⟩,h2,hf⟩:=Option.map_eq_some_iff.1 hf
  cases hf
  obtain ⟨rd1,x1,k1,v1,s1⟩:=jI h hr h1
  obtain ⟨rd2,x2,k2,v2,s2⟩:=zdx k1 (hp.mono x1.1 (fun _ _ _ _ h=>h)) h2
  refine ⟨rd2,x1.trans x2,k2,fun φ'=>PW.cons ((v1 φ').mono x2.1 (fun _ _ _ _ h=>h)) (v2 φ'),fun c hc=>?_⟩
  rcases List.mem_cons.1 hc with rfl | hc
  ·exact s1
  ·exact s2 c hc
theorem zab (h:HRel rd φ O w0 σ w) {c c':AV} {v:Value} {σ':Sig} (hv:VRel rd φ c v) (hf:frz σ c=some (σ',c')):
  jY rd φ O w0 w σ' fun rd'=>∀φ',VRel rd' φ' c' v:=by
 cases c with
 | agg cs=>
  obtain ⟨arr,rfl,hp⟩:=PW.of_agg hv
  obtain ⟨⟨σ1,cs1⟩,h1,hf⟩:=Option.map_eq_some_iff.1 hf
  cases hf
  obtain ⟨rd1,x1,k1,v1,_⟩:=zdx h hp h1
  exact ⟨rd1,x1,k1,fun φ'=>PW.agg (v1 φ')⟩
 | _=>
  obtain ⟨rd1,x1,k1,v1,_⟩:=jI h hv hf
  exact ⟨rd1,x1,k1,v1⟩
theorem jt:∀{cs cs':List AV} {vs:List Value} {rd:RD} {σ σ':Sig},HRel rd φ O w0 σ w→PW rd φ cs vs→qx σ cs=some (σ',cs')→
  jY rd φ O w0 w σ' fun rd'=>∀φ',PW rd' φ' cs' vs
 | [],cs',vs,rd,σ,σ',h,hp,hf=>by
  cases hf
  have:vs=[]:=List.eq_nil_of_length_eq_zero hp.1.symm
  subst this
  exact ⟨rd,.refl,h,fun _=>PW.nil⟩
 | c::cs,cs',vs,rd,σ,σ',h,hp,hf=>by
  obtain ⟨v,us,rfl,hr,hp⟩:=hp.uncons
  simp only [qx] at hf
  obtain ⟨⟨σ1,c1⟩,h1,hf⟩:=Option.bind_eq_some_iff.1 hf
  obtain ⟨⟨σ2,cs2⟩,h2,hf⟩:=Option.map_eq_some_iff.1 hf
  cases hf
  obtain ⟨rd1,x1,k1,v1⟩:=zab h hr h1
  obtain ⟨rd2,x2,k2,v2⟩:=jt k1 (hp.mono x1.1 (fun _ _ _ _ h=>h)) h2
  exact ⟨rd2,x1.trans x2,k2,fun φ'=>PW.cons ((v1 φ').mono x2.1 (fun _ _ _ _ h=>h)) (v2 φ')⟩
theorem zfS (h:HRel rd φ O w0 σ w) {t:Nat} {x y:AV} {cx cy:Value} (hx:VRel rd φ x cx) (hy:VRel rd φ y cy) {σ':Sig} (ha:jL P σ t x y=some σ'):
  ∃w' rd',(Instr.storeAt t cx cy).run P w=.ok () w'∧Ext O w0 rd rd'∧HRel rd' φ O w0 σ' w':=by
 unfold jL at ha
 obtain ⟨i,hi,ha1⟩:=Option.bind_eq_some_iff.1 ha
 cases x with
 | ptr r g p sz k o=>
  simp only at ha1
  split at ha1
  ·obtain ⟨w',h1,h2⟩:=zbG h hi hx hy ha1
   exact ⟨w',rd,h1,.refl,h2⟩
  ·obtain ⟨⟨σ1,y1⟩,hf,ha2⟩:=Option.bind_eq_some_iff.1 ha1
   obtain ⟨rd1,x1,k1,v1⟩:=zab h hy hf
   obtain ⟨w',h1,h2⟩:=zbG k1 hi (hx.mono x1.1 (fun _ _ _ _ h=>h)) (v1 φ) ha2
   exact ⟨w',rd1,h1,x1,h2⟩
 | _=>simp at ha1
theorem zcs (h:HRel rd φ O w0 σ w) {t:Nat} {x v:AV} {cx:Value} (hx:VRel rd φ x cx) {f:Nat} (ha:xw P t x f=some v):
  After0 rd φ O w0 σ v ((Instr.fieldAt t cx f).run P w):=by
 unfold xw at ha
 obtain ⟨i,hi,ha⟩:=Option.bind_eq_some_iff.1 ha
 obtain ⟨inf,dsc,h1,h2,h3,h4,h5,h6,h7,h8,h9,h10⟩:=xn hi
 split at ha
 ·rename_i hk
  obtain ⟨of,hof,ha⟩:=Option.bind_eq_some_iff.1 ha
  rw [h10] at hk
  cases dsc with
  | struct fs=>
   rw [h7] at hof
   simp only [List.getElem?_map] at hof
   obtain ⟨fl,hfl,rfl⟩:=Option.map_eq_some_iff.1 hof
   have hfl':fs[f]?=some fl:=by simpa using hfl
   have hplace:∀(a:Addr),P.cellsOf fl.type≠0→(fieldPlace a fl).run P w=.ok (a.add fl.offset) w:=by
    intro a hne
    unfold Program.cellsOf at hne
    cases hq:P.info? fl.type with
    | none=>simp [hq] at hne
    | some z=>
     have hz:z.size≠0:=by simpa [hq] using hne
     simp [fieldPlace,sizeOf,typeInfo,hq,hz]
   split at ha
   ·cases ha
   ·rename_i hz
    have hne:P.cellsOf fl.type≠0:=fun e=>by simp [e] at hz
    have hrun:∀a:Addr,(Instr.fieldAt t (.pointer (some a)) f).run P w=.ok (.pointer (some (a.add fl.offset))) w:=by
     intro a
     simp [Instr.fieldAt,run_underlying h2 w,hfl',Instr.sureAddr,hplace a hne]
    cases hx with
    | ptr r g p sz k o pl b q hφ had=>
     have ha:=Option.some.inj ha
     subst ha
     refine .same h (hrun _) ?_
     rw [xy]
     have:=VRel.ptr (rd:=rd) (φ:=φ) r g p sz k (o+fl.offset) pl b q hφ had
     rwa [show q+k * sz+o+fl.offset=q+k * sz+(o+fl.offset) by omega]
    | rp cs b q f' hs hr hv=>
     have ha:=Option.some.inj ha
     subst ha
     refine .same h (hrun _) ?_
     rw [xy]
     exact .rp _ _ _ (fun j=>f' (fl.offset+j)) (fun j c hc=>by rw [List.getElem?_drop] at hc;exact hs _ _ hc) (fun j c hc=>by rw [List.getElem?_drop] at hc;rw [Nat.add_assoc];exact hr _ _ hc)
      (fun j c hc=>by rw [List.getElem?_drop] at hc;exact hv _ _ hc)
    | _=>simp at ha
  | _=>simp [xe] at hk
 ·cases ha
end
end Go.Proofs.YtpjpkmhaffmbmaaGreat.E
end
section
namespace Go.Proofs.YtpjpkmhaffmbmaaGreat.E
open Go Go.RowKit
set_option linter.unusedVariables false
def zim (F:TypeId→Option (List TK)) (P:Program) (off:Nat):List Field→Option (List TK)
 | []=>some []
 | f::fs=>match F f.type with
  | some ks=>if f.name≠ "_" ∧f.offset=off∧P.cellsOf f.type=ks.length then (zim F P (off+ks.length) fs).map (ks++·) else none
  | none=>none
def zbf (P:Program):Nat→TypeId→Option (List TK)
 | 0,_=>none
 | d+1,t=>match P.underlying t with
  | some .bool=>some [.bool]
  | some (.int k)=>some [.int k]
  | some .string=>some [.string]
  | some (.struct fs)=>if P.stoodInHeld t=false then zim (zbf P d) P 0 fs.toList else none
  | _=>none
def wW:TK→Value→Value→Option Bool
 | .bool,.bool x,.bool y=>some (x==y)
 | .string,.string x,.string y=>some (x.toList==y.toList)
 | .int _,.int k x,.int k' y=>if k=k' then some (x==y) else none
 | _,_,_=>none
def eqK:List TK→List Value→List Value→Option Bool
 | [],[],[]=>some true
 | k::ks,x::xs,y::ys=>(wW k x y).bind fun r=>(eqK ks xs ys).map (r&&·)
 | _,_,_=>none
theorem zaI:∀{ks ks':List TK} {xs xs' ys ys':List Value} {a:Bool},xs.length=ks.length→ys.length=ks.length→eqK (ks++ks') (xs++xs') (ys++ys')=some a→∃b c,eqK ks xs ys=some b∧eqK ks' xs' ys'=some c∧a=(b&&c)
 | [],ks',[],xs',[],ys',a,_,_,h=>⟨true,a,rfl,h,by simp⟩
 | k::ks,ks',x::xs,xs',y::ys,ys',a,h1,h2,h=>by
  have h1:xs.length=ks.length:=by simpa using h1
  have h2:ys.length=ks.length:=by simpa using h2
  simp only [List.cons_append,eqK] at h ⊢
  obtain ⟨r,hr,h⟩:=Option.bind_eq_some_iff.1 h
  obtain ⟨q,hq,rfl⟩:=Option.map_eq_some_iff.1 h
  obtain ⟨b,c,e1,e2,rfl⟩:=zaI h1 h2 hq
  exact ⟨r&&b,c,by rw [hr,e1];rfl,e2,by rw [Bool.and_assoc]⟩
 | [],_,_::_,_,_,_,_,h,_,_=>by simp at h
 | [],_,[],_,_::_,_,_,_,h,_=>by simp at h
 | _::_,_,[],_,_,_,_,h,_,_=>by simp at h
 | _::_,_,_::_,_,[],_,_,_,h,_=>by simp at h
theorem zee:∀{ks:List TK} {xs ys:List Value} {a:Bool},eqK ks xs ys=some a→xs.length=ks.length∧ys.length=ks.length
 | [],[],[],_,_=>⟨rfl,rfl⟩
 | k::ks,x::xs,y::ys,a,h=>by
  simp only [eqK] at h
  obtain ⟨r,hr,h⟩:=Option.bind_eq_some_iff.1 h
  obtain ⟨q,hq,rfl⟩:=Option.map_eq_some_iff.1 h
  have:=zee hq
  simp [this.1,this.2]
 | [],_::_,_,_,h=>by cases h
 | [],[],_::_,_,h=>by cases h
 | _::_,[],_,_,h=>by cases h
 | _::_,_::_,[],_,h=>by cases h
theorem zgA {k:TK} {xs ys:List Value} {r:Bool} (h:eqK [k] xs ys=some r):∃x y,xs=[x]∧ys=[y]∧wW k x y=some r:=by
 have hl:=zee h
 match xs,ys,hl with
 | [x],[y],_=>
  simp only [eqK] at h
  obtain ⟨q,hq,h⟩:=Option.bind_eq_some_iff.1 h
  simp at h
  exact ⟨x,y,rfl,rfl,by rw [hq,h]⟩
def mkV (P:Program) (t:TypeId) (xs:List Value):Value:=match P.underlying t with
 | some (.struct _)=>.agg xs.toArray
 | _=>xs.headD undef
theorem zf7 {P:Program} {w:World} {d:Nat} {t:TypeId} {ks:List TK} (h:zbf P d t=some ks) (hc:P.cellsOf t=ks.length) {pre xs post:List Value} (hl:xs.length=ks.length):(part t (pre++xs++post).toArray pre.length).run P w=.ok (mkV P t xs) w:=by
 cases d with
 | zero=>cases h
 | succ d=>
  unfold zbf at h
  unfold mkV
  cases hu:P.underlying t with
  | none=>rw [hu] at h;cases h
  | some dsc=>
   rw [hu] at h
   have one:ks.length=1→(part t (pre++xs++post).toArray pre.length).run P w=.ok (xs.headD undef) w∨dsc.isRow=true:=by
    intro h1
    by_cases hr:dsc.isRow=true
    ·exact .inr hr
    ·refine .inl ?_
     match xs,hl.trans h1 with
     | [x],_=>
      cases dsc<;>simp_all [part,isAgg,run_underlying hu,TypeDesc.isRow]
   cases dsc<;>simp only at h<;>first
    | (cases h;done)
    | (cases h;exact (one rfl).resolve_right (by simp [TypeDesc.isRow]))
    | skip
   obtain ⟨i,hi⟩:=info_of_underlying hu
   have he:(pre++xs++post).toArray.extract pre.length (pre.length+P.cellsOf t)=xs.toArray:=by
    rw [←Array.toList_inj,Array.toList_extract,hc,←hl]
    simp [List.extract]
   simp [part,isAgg,run_underlying hu,run_sizeOf w hi]
   simpa using he
def EqD (P:Program) (d:Nat) (t:TypeId) (ks:List TK):Prop:=∀(D:Nat),d≤D→∀(w:World) (xs ys:List Value) (r:Bool),eqK ks xs ys=some r→(Op.equalIn D t (mkV P t xs) (mkV P t ys)).run P w=.ok r w
theorem zfi {P:Program} {d D:Nat} (IH:∀t ks,zbf P d t=some ks→EqD P d t ks) (hd:d≤D):∀(fs:List Field) (off:Nat) (ks:List TK),zim (zbf P d) P off fs=some ks→∀(w:World) (pre pre' xs ys:List Value) (r:Bool),pre.length=off→pre'.length=off→eqK ks xs ys=some r→
  (Op.eqFields D (pre++xs).toArray (pre'++ys).toArray fs).run P w=.ok r w
 | [],off,ks,h,w,pre,pre',xs,ys,r,h1,h2,he=>by
  cases h
  match xs,ys,he with
  | [],[],he=>cases he;rfl
 | f::fs,off,ks,h,w,pre,pre',xs,ys,r,h1,h2,he=>by
  simp only [zim] at h
  split at h
  ·rename_i k1 hk1
   split at h
   ·rename_i hc
    obtain ⟨hn,ho,hcs⟩:=hc
    obtain ⟨k2,hk2,rfl⟩:=Option.map_eq_some_iff.1 h
    have hlen:=zee he
    rw [List.length_append] at hlen
    have ex:xs=xs.take k1.length++xs.drop k1.length:=(List.take_append_drop _ _).symm
    have ey:ys=ys.take k1.length++ys.drop k1.length:=(List.take_append_drop _ _).symm
    have lx:(xs.take k1.length).length=k1.length:=by rw [List.length_take];omega
    have ly:(ys.take k1.length).length=k1.length:=by rw [List.length_take];omega
    rw [ex,ey] at he
    obtain ⟨b,c,e1,e2,rfl⟩:=zaI lx ly he
    have p1:=zf7 (P:=P) (w:=w) hk1 hcs (pre:=pre) (xs:=xs.take k1.length) (post:=xs.drop k1.length) lx
    have p2:=zf7 (P:=P) (w:=w) hk1 hcs (pre:=pre') (xs:=ys.take k1.length) (post:=ys.drop k1.length) ly
    have q:=IH _ _ hk1 D hd w _ _ b e1
    rw [List.append_assoc,←ex,h1] at p1
    rw [List.append_assoc,←ey,h2] at p2
    simp only [Op.eqFields]
    rw [if_pos hn,ho]
    simp only [Sem.run_bind,p1,p2,q,Result.andThen_ok]
    cases b with
    | false=>simp
    | true=>
     have rc:=zfi IH hd fs (off+k1.length) k2 hk2 w (pre++xs.take k1.length) (pre'++ys.take k1.length) (xs.drop k1.length) (ys.drop k1.length) c (by rw [List.length_append,h1,lx]) (by rw [List.length_append,h2,ly]) e2
     rw [List.append_assoc,←ex,List.append_assoc,←ey] at rc
     simpa using rc
   ·cases h
  ·cases h
theorem zfj {P:Program}:∀(d:Nat) (t:TypeId) (ks:List TK),zbf P d t=some ks→EqD P d t ks
 | 0,t,ks,h=>by cases h
 | d+1,t,ks,h=>by
  intro D hD w xs ys r he
  obtain ⟨D',rfl⟩:∃D',D=D'+1:=⟨D - 1,by omega⟩
  unfold zbf at h
  unfold mkV
  cases hu:P.underlying t with
  | none=>rw [hu] at h;cases h
  | some dsc=>
   rw [hu] at h
   cases dsc<;>simp only at h<;>first
    | (cases h;done)
    | skip
   case bool=>
    cases h
    obtain ⟨x,y,rfl,rfl,hh⟩:=zgA he
    cases x<;>(try (simp [wW] at hh;done))<;>cases y<;>(try (simp [wW] at hh;done))
    simp only [wW,Option.some.injEq] at hh
    subst hh
    simp [run_equalIn_bool' w D' t _ _ hu]
   case int k=>
    cases h
    obtain ⟨x,y,rfl,rfl,hh⟩:=zgA he
    cases x<;>(try (simp [wW] at hh;done))<;>cases y<;>(try (simp [wW] at hh;done))
    simp only [wW] at hh
    split at hh
    ·rename_i hk
     subst hk
     cases hh
     simp [run_equalIn_int w D' t _ k _ _ hu]
    ·cases hh
   case string=>
    cases h
    obtain ⟨x,y,rfl,rfl,hh⟩:=zgA he
    cases x<;>(try (simp [wW] at hh;done))<;>cases y<;>(try (simp [wW] at hh;done))
    simp only [wW,Option.some.injEq] at hh
    subst hh
    simp [run_equalIn_string w D' t _ _ hu]
   case struct fs=>
    split at h
    ·rename_i hp
     have hf:P.fieldsOf t=fs:=by simp [Program.fieldsOf,hu]
     have key:=run_equalIn_struct (P:=P) w D' t xs.toArray ys.toArray (by rw [hf];exact hu) hp
     simp only
     rw [key,hf]
     exact zfi (zfj d) (by omega) fs.toList 0 ks h w [] [] xs ys r rfl rfl he
    ·cases h
def eqA:List TK→List AV→List AV→Option Bool
 | [],[],[]=>some true
 | k::ks,.sc x::xs,.sc y::ys=>(wW k x y).bind fun r=>(eqA ks xs ys).map (r&&·)
 | _,_,_=>none
theorem zae {rd:RD} {φ:Phi}:∀{ks:List TK} {xs ys:List AV} {vx vy:List Value} {r:Bool},PW rd φ xs vx→PW rd φ ys vy→eqA ks xs ys=some r→eqK ks vx vy=some r
 | [],[],[],vx,vy,r,hx,hy,h=>by
  have e1:vx=[]:=List.eq_nil_of_length_eq_zero hx.1.symm
  have e2:vy=[]:=List.eq_nil_of_length_eq_zero hy.1.symm
  subst e1;subst e2
  exact h
 | k::ks,.sc x::xs,.sc y::ys,vx,vy,r,hx,hy,h=>by
  obtain ⟨v,vs,rfl,h1,hx'⟩:=hx.uncons
  obtain ⟨u,us,rfl,h2,hy'⟩:=hy.uncons
  clear hx hy
  simp only [eqA] at h
  obtain ⟨q,hq,h⟩:=Option.bind_eq_some_iff.1 h
  obtain ⟨z,hz,rfl⟩:=Option.map_eq_some_iff.1 h
  cases h1
  cases h2
  simp only [eqK,hq,Option.bind_some,zae hx' hy' hz,Option.map_some]
def zbq (P:Program) (t:TypeId):Option (List TK):=match P.underlying t with
 | some (.struct _)=>if P.eqGuardType P.depth t=false then zbf P 8 t else none
 | _=>none
theorem zaH {P:Program} {t:TypeId} {ks:List TK} (h:zbq P t=some ks) {xs ys:List Value} {r:Bool} (he:eqK ks xs ys=some r) (w:World):(Op.equal t (.agg xs.toArray) (.agg ys.toArray)).run P w=.ok r w∧P.eqGuardType P.depth t=false:=by
 unfold zbq at h
 split at h
 ·rename_i fs hu
  split at h
  ·rename_i hg
   refine ⟨?_,hg⟩
   have key:=zfj 8 t ks h 10000 (by omega) w xs ys r he
   unfold mkV at key
   rw [hu] at key
   exact key
  ·cases h
 ·cases h
end Go.Proofs.YtpjpkmhaffmbmaaGreat.E
end
section
namespace Go.Proofs.YtpjpkmhaffmbmaaGreat.E
open Go Go.RowKit
set_option linter.unusedVariables false
def tk (P:Program) (t:Nat):Option TK:=(ti P t).map fun i=>i.k
def andI (k:IntKind) (x y:Int):Int:=k.wrap (BitVec.ofInt k.bits x&&& BitVec.ofInt k.bits y).toNat
def orI (k:IntKind) (x y:Int):Int:=k.wrap (BitVec.ofInt k.bits x||| BitVec.ofInt k.bits y).toNat
def zqK (k:IntKind) (x:Int):Int:=k.wrap (BitVec.ofInt k.bits (if k.signed then -1 else k.max) ^^^ BitVec.ofInt k.bits x).toNat
def znS (k:IntKind) (x y:Int):Int:=k.wrap (BitVec.ofInt k.bits x ^^^ BitVec.ofInt k.bits y).toNat
def zhF (op:BinOp) (k:IntKind) (x y:Int):Option Value:=
 match op with
 | .add=>some (.int k (k.wrap (x+y)))
 | .sub=>some (.int k (k.wrap (x - y)))
 | .mul=>some (.int k (k.wrap (x * y)))
 | .quo=>match decide (y=0) with | true=>none | false=>some (.int k (k.wrap (x.tdiv y)))
 | .rem=>match decide (y=0) with | true=>none | false=>some (.int k (x.tmod y))
 | .and=>some (.int k (andI k x y))
 | .or=>some (.int k (orI k x y))
 | .xor=>some (.int k (znS k x y))
 | .andNot=>some (.int k (k.wrap (BitVec.ofInt k.bits x&&& ~~~BitVec.ofInt k.bits y).toNat))
 | .eql=>some (.bool (x==y))
 | .neq=>some (.bool (x != y))
 | .lss=>some (.bool (decide (x<y)))
 | .leq=>some (.bool (decide (x≤y)))
 | .gtr=>some (.bool (decide (x>y)))
 | .geq=>some (.bool (decide (x≥y)))
 | _=>none
def zeo (op:BinOp) (k:IntKind) (x y:Int):Option Value:=
 match decide (y<0),op with
 | false,.shl=>some (.int k (k.wrap (x * 2 ^ (min y.toNat k.bits))))
 | false,.shr=>some (.int k (x.fdiv (2 ^ (min y.toNat k.bits))))
 | _,_=>none
def zle (op:BinOp) (x y:ByteArray):Option Value:=
 match op with
 | .add=>match decide (((x.size+y.size:Nat):Int)>9223372036854775807) with | true=>none | false=>some (.string (x++y))
 | .eql=>some (.bool (x.toList==y.toList))
 | .neq=>some (.bool (!(x.toList==y.toList)))
 | _=>none
def zd6:BinOp→Bool
 | .shl | .shr=>true
 | _=>false
def zfC (P:Program) (op:BinOp) (t:Nat) (a b:AV):Option AV:=
 match a,b with
 | .sc (.int k x),.sc (.int k' y)=>match zd6 op with
  | true=>(zeo op k x y).map .sc
  | false=>match decide (k=k') with
   | true=>(zhF op k x y).map .sc
   | false=>none
 | .sc (.string x),.sc (.string y)=>(zle op x y).map .sc
 | .sc (.bool x),.sc (.bool y)=>match op,tk P t with
  | .eql,some .bool=>some (.sc (.bool (x==y)))
  | .neq,some .bool=>some (.sc (.bool (!(x==y))))
  | _,_=>none
 | .agg xs,.agg ys=>match op,zbq P t with
  | .eql,some ks=>(eqA ks xs ys).map fun r=>.sc (.bool r)
  | .neq,some ks=>(eqA ks xs ys).map fun r=>.sc (.bool (!r))
  | _,_=>none
 | _,_=>none
def zld (op:UnOp) (a:AV):Option AV:=
 match op,a with
 | .not,.sc (.bool b)=>some (.sc (.bool (!b)))
 | .neg,.sc (.int k n)=>some (.sc (.int k (k.wrap (0 - n))))
 | .xor,.sc (.int k n)=>some (.sc (.int k (zqK k n)))
 | _,_=>none
def zeq (P:Program) (src dst:Nat) (a:AV):Option AV:=
 match tk P src,tk P dst,a with
 | some _,some (.int k),.sc (.int _ n)=>some (.sc (.int k (k.wrap n)))
 | some _,some .string,.sc (.string s)=>some (.sc (.string s))
 | _,_,_=>none
def qz (a:AV) (i:Nat):Option AV:=
 match a with
 | .tup vs=>vs[i]?
 | _=>none
def qU (a:AV):Option AV:=
 match a with
 | .ptr r g p sz i o=>some (.ptr r g p sz i o)
 | .rp cs=>some (.rp cs)
 | _=>none
def zep (c a b:AV):Option AV:=
 match c with
 | .sc (.bool true)=>some a
 | .sc (.bool false)=>some b
 | _=>none
def zfz (P:Program) (t:Nat) (a:AV):Option AV:=
 match tk P t,a with
 | some .string,.sc (.string s)=>some (.sc (.int .i64 s.size))
 | some .slice,.nilS=>some (.sc (.int .i64 0))
 | some .slice,.blk _ _ _ _ _ len=>some (.sc (.int .i64 len))
 | some .slice,.ro _ es=>some (.sc (.int .i64 es.length))
 | some .array,_=>(ti P t).map fun i=>.sc (.int .i64 i.n)
 | _,_=>none
section
variable {P:Program} {rd:RD} {φ:Phi} {O:Nat→Prop} {w0 w:World} {σ:Sig} {d G:Nat}
theorem zcJ {t:Nat} {k:TK} (h:tk P t=some k):∃i,ti P t=some i∧i.k=k:=by
 unfold tk at h
 cases hi:ti P t with
 | none=>rw [hi] at h;cases h
 | some i=>rw [hi] at h;exact ⟨i,rfl,Option.some.inj h⟩
theorem yO {t:Nat} {i:TI} (h:ti P t=some i):∃dsc,P.underlying t=some dsc∧i.k=xe dsc∧i.el=elOf dsc∧i.n=zkg dsc:=by
 obtain ⟨inf,dsc,h1,h2,h3,h4,h5,h6,h7,h8,h9,h10⟩:=xn h
 exact ⟨dsc,h2,h10,h8,h9⟩
theorem zY {v v':Value} (h:VRel rd φ (.sc v) v'):v'=v:=by cases h;rfl
theorem zfA {op:BinOp} {k:IntKind} {x y:Int} {v:Value} (hs:zd6 op=false) (h:zhF op k x y=some v):
  (binOp op 0 (.int k x) (.int k y)).run P w=.ok v w∧zlI v=true:=by
 cases op<;>simp only [zhF,zd6] at h hs<;>first
  | (cases hs;done)
  | (cases h;done)
  | (cases h;exact ⟨by simp only [binOp,ne_eq,not_true_eq_false,if_false];rfl,rfl⟩)
  | (split at h
     ·cases h
     ·rename_i hy
      cases h
      have hy:=of_decide_eq_false hy
      exact ⟨by simp only [binOp,ne_eq,not_true_eq_false,if_false,Op.intDiv,hy];rfl,rfl⟩)
theorem zgH {op:BinOp} {t t':TypeId} {k:IntKind} {x y:Int}:binOp op t (.int k x) (.int k y)=binOp op t' (.int k x) (.int k y):=by
 cases op<;>rfl
theorem zk2 (h:HRel rd φ O w0 σ w) {op:BinOp} {t:Nat} {x y v:AV} {ox oy:Operand} {cx cy:Value} (hx:VRel rd φ x cx) (hy:VRel rd φ y cy) (ha:zfC P op t x y=some v):
  After0 rd φ O w0 σ v ((do eqGuard op t ox oy cx cy;binOp op t cx cy:Sem Value).run P w):=by
 unfold zfC at ha
 split at ha
 ·rename_i k x k' y
  cases zY hx
  cases zY hy
  have hg:(eqGuard op t ox oy (.int k x) (.int k' y)).run P w=.ok () w:=by
   unfold eqGuard;cases op<;>rfl
  split at ha
  ·rename_i hs
   obtain ⟨u,hu,rfl⟩:=Option.map_eq_some_iff.1 ha
   unfold zeo at hu
   split at hu
   ·have hy:=of_decide_eq_false ‹decide _=false›
    cases hu
    exact .same h (cv:=.int k (k.wrap (x * 2 ^ (min y.toNat k.bits)))) (by rw [Sem.run_bind,hg];simp [binOp,Op.shift,hy]) (.sc _ rfl)
   ·have hy:=of_decide_eq_false ‹decide _=false›
    cases hu
    exact .same h (cv:=.int k (x.fdiv (2 ^ (min y.toNat k.bits)))) (by rw [Sem.run_bind,hg];simp [binOp,Op.shift,hy]) (.sc _ rfl)
   ·cases hu
  ·rename_i hs
   split at ha
   ·rename_i hk
    have hk:=of_decide_eq_true hk
    subst hk
    obtain ⟨u,hu,rfl⟩:=Option.map_eq_some_iff.1 ha
    obtain ⟨h1,h2⟩:=zfA (P:=P) (w:=w) hs hu
    refine .same h (cv:=u) ?_ (.sc _ h2)
    rw [Sem.run_bind,hg,Result.andThen_ok,zgH (t':=0)]
    exact h1
   ·cases ha
 ·rename_i x y
  cases zY hx
  cases zY hy
  have hg:(eqGuard op t ox oy (.string x) (.string y)).run P w=.ok () w:=by
   unfold eqGuard;cases op<;>rfl
  obtain ⟨u,hu,rfl⟩:=Option.map_eq_some_iff.1 ha
  have key:(binOp op t (.string x) (.string y)).run P w=.ok u w∧zlI u=true:=by
   cases op<;>simp only [zle] at hu<;>first
    | (cases hu;done)
    | (cases hu;exact ⟨by simp [binOp,Op.stringOp],rfl⟩)
    | (split at hu
       ·cases hu
       ·rename_i hy
        cases hu
        have hy:=of_decide_eq_false hy
        have hy2:¬((x.size+y.size:Nat):Int)>IntKind.i64.max:=by simpa [IntKind.max,IntKind.bits,IntKind.signed] using hy
        exact ⟨by simp only [binOp,Op.stringOp];rw [if_neg hy2];rfl,rfl⟩)
  exact .same h (cv:=u) (by rw [Sem.run_bind,hg];exact key.1) (.sc _ key.2)
 ·rename_i x y
  cases zY hx
  cases zY hy
  have hg:(eqGuard op t ox oy (.bool x) (.bool y)).run P w=.ok () w:=by
   unfold eqGuard;cases op<;>rfl
  have hrun:∀i,ti P t=some i→i.k=.bool→(Op.equal t (.bool x) (.bool y)).run P w=.ok (x==y) w:=by
   intro i hi hk
   obtain ⟨dsc,h1,h2,-⟩:=yO hi
   rw [hk] at h2
   cases dsc<;>simp [xe] at h2
   have key:∀n,(Op.equalIn (n+1) t (.bool x) (.bool y)).run P w=.ok (x==y) w:=by
    intro n
    simp only [Op.equalIn,Sem.run_bind,run_underlying h1 w,Result.andThen_ok]
    rfl
   exact key 9999
  split at ha
  ·obtain ⟨i,hi,hk⟩:=zcJ ‹_›
   cases ha
   exact .same h (cv:=.bool (x==y)) (by rw [Sem.run_bind,hg];simp [binOp,hrun i hi hk]) (.sc _ rfl)
  ·obtain ⟨i,hi,hk⟩:=zcJ ‹_›
   cases ha
   exact .same h (cv:=.bool (!(x==y))) (by rw [Sem.run_bind,hg];simp [binOp,hrun i hi hk]) (.sc _ rfl)
  ·cases ha
 ·rename_i xs ys
  obtain ⟨ax,rfl,px⟩:=PW.of_agg hx
  obtain ⟨ay,rfl,py⟩:=PW.of_agg hy
  have hg:P.eqGuardType P.depth t=false→(eqGuard op t ox oy (.agg ax) (.agg ay)).run P w=.ok () w:=by
   intro hq
   unfold eqGuard
   cases op<;>simp [hq]
  split at ha
  ·rename_i ks hks
   obtain ⟨r,hr,rfl⟩:=Option.map_eq_some_iff.1 ha
   obtain ⟨k1,k2⟩:=zaH hks (zae px py hr) w
   exact .same h (cv:=.bool r) (by
    have k3:(Op.equal t (.agg ax) (.agg ay)).run P w=.ok r w:=by simpa using k1
    rw [Sem.run_bind,hg k2]
    simp [binOp,k3]) (.sc _ rfl)
  ·rename_i ks hks
   obtain ⟨r,hr,rfl⟩:=Option.map_eq_some_iff.1 ha
   obtain ⟨k1,k2⟩:=zaH hks (zae px py hr) w
   exact .same h (cv:=.bool (!r)) (by
    have k3:(Op.equal t (.agg ax) (.agg ay)).run P w=.ok r w:=by simpa using k1
    rw [Sem.run_bind,hg k2]
    simp [binOp,k3]) (.sc _ rfl)
  ·cases ha
 ·cases ha
theorem zlB (h:HRel rd φ O w0 σ w) {op:UnOp} {x v:AV} {cx:Value} (hx:VRel rd φ x cx) (ha:zld op x=some v):
  After0 rd φ O w0 σ v ((Op.unary op cx).run P w):=by
 unfold zld at ha
 split at ha
 ·cases zY hx
  cases ha
  exact .same h (by simp [Op.unary]) (.sc _ rfl)
 ·cases zY hx
  cases ha
  exact .same h (by simp only [Op.unary,Op.intArith];rfl) (.sc _ rfl)
 ·cases zY hx
  cases ha
  exact .same h (by simp only [Op.unary,Op.intBits];rfl) (.sc _ rfl)
 ·cases ha
theorem zir (h:HRel rd φ O w0 σ w) {src dst:Nat} {x v:AV} {cx:Value} (hx:VRel rd φ x cx) (ha:zeq P src dst x=some v):
  After0 rd φ O w0 σ v ((convert src dst cx).run P w):=by
 unfold zeq at ha
 split at ha
 ·obtain ⟨i,hi,hk⟩:=zcJ ‹tk P dst=_›
  obtain ⟨j,hj,-⟩:=zcJ ‹tk P src=_›
  obtain ⟨dsc,h1,h2,-⟩:=yO hi
  obtain ⟨dsc',h1',-⟩:=yO hj
  rw [hk] at h2
  cases dsc<;>simp [xe] at h2
  subst h2
  cases zY hx
  cases ha
  refine .same h (cv:=.int _ _) ?_ (.sc _ rfl)
  unfold convert
  simp only [Sem.run_bind,run_underlying h1 w,run_underlying h1' w,Result.andThen_ok]
  rfl
 ·obtain ⟨i,hi,hk⟩:=zcJ ‹tk P dst=_›
  obtain ⟨j,hj,-⟩:=zcJ ‹tk P src=_›
  obtain ⟨dsc,h1,h2,-⟩:=yO hi
  obtain ⟨dsc',h1',-⟩:=yO hj
  rw [hk] at h2
  cases dsc<;>simp [xe] at h2
  cases zY hx
  cases ha
  refine .same h (cv:=.string _) ?_ (.sc _ rfl)
  unfold convert
  simp only [Sem.run_bind,run_underlying h1 w,run_underlying h1' w,Result.andThen_ok]
  cases dsc'<;>rfl
 ·cases ha
theorem zed (h:HRel rd φ O w0 σ w) {x v:AV} {cx:Value} (hx:VRel rd φ x cx) {i:Nat} (ha:qz x i=some v):
  After0 rd φ O w0 σ v ((Instr.extract cx i).run P w):=by
 unfold qz at ha
 split at ha
 ·obtain ⟨arr,rfl,hp⟩:=PW.of_tup hx
  obtain ⟨u,hu,hr⟩:=hp.2 _ _ ha
  have hu':arr[i]?=some u:=by simpa using hu
  exact .same h (by simp [Instr.extract,hu']) hr
 ·cases ha
theorem zkf (h:HRel rd φ O w0 σ w) {t:Nat} {x v:AV} {cx:Value} (hx:VRel rd φ x cx) (ha:zfz P t x=some v) (ts:Array Nat) (ht:ts[0]?=some t) (T:TypeId) (args:Array Value) (hargs:args[0]?=some cx):
  After0 rd φ O w0 σ v ((Builtin.len_ ts T args).run P w):=by
 unfold zfz at ha
 split at ha
 ·obtain ⟨i,hi,hk⟩:=zcJ ‹tk P t=_›
  obtain ⟨dsc,h1,h2,-⟩:=yO hi
  rw [hk] at h2
  cases dsc<;>simp [xe] at h2
  cases zY hx
  cases ha
  exact .same h (cv:=.int .i64 _) (by simp only [Builtin.len_,ht,hargs,Sem.run_bind,run_underlying h1 w,Result.andThen_ok];rfl) (.sc _ rfl)
 ·obtain ⟨i,hi,hk⟩:=zcJ ‹tk P t=_›
  obtain ⟨dsc,h1,h2,-⟩:=yO hi
  rw [hk] at h2
  cases dsc<;>simp [xe] at h2
  cases hx
  cases ha
  exact .same h (cv:=.int .i64 0) (by simp only [Builtin.len_,ht,hargs,Sem.run_bind,run_underlying h1 w,Result.andThen_ok];rfl) (.sc _ rfl)
 ·obtain ⟨i,hi,hk⟩:=zcJ ‹tk P t=_›
  obtain ⟨dsc,h1,h2,-⟩:=yO hi
  rw [hk] at h2
  cases dsc<;>simp [xe] at h2
  cases hx
  cases ha
  exact .same h (cv:=.int .i64 _) (by simp only [Builtin.len_,ht,hargs,Sem.run_bind,run_underlying h1 w,Result.andThen_ok];rfl) (.sc _ rfl)
 ·obtain ⟨i,hi,hk⟩:=zcJ ‹tk P t=_›
  obtain ⟨dsc,h1,h2,-⟩:=yO hi
  rw [hk] at h2
  cases dsc<;>simp [xe] at h2
  cases ha
  cases hx with
  | ro0 sz A cap=>exact .same h (cv:=.int .i64 0) (by simp only [Builtin.len_,ht,hargs,Sem.run_bind,run_underlying h1 w,Result.andThen_ok];rfl) (.sc _ rfl)
  | ro sz es b q cap f hc hs hr hv=>exact .same h (cv:=.int .i64 _) (by simp only [Builtin.len_,ht,hargs,Sem.run_bind,run_underlying h1 w,Result.andThen_ok];rfl) (.sc _ rfl)
 ·obtain ⟨i,hi,hk⟩:=zcJ ‹tk P t=_›
  obtain ⟨dsc,h1,h2,-,h4⟩:=yO hi
  rw [hk] at h2
  rw [hi] at ha
  cases dsc<;>simp [xe] at h2
  cases ha
  simp only [h4]
  exact .same h (cv:=.int .i64 _) (by simp only [Builtin.len_,ht,hargs,Sem.run_bind,run_underlying h1 w,Result.andThen_ok];rfl) (.sc _ rfl)
 ·cases ha
end
end Go.Proofs.YtpjpkmhaffmbmaaGreat.E
end
section
namespace Go.Proofs.YtpjpkmhaffmbmaaGreat.E
open Go Go.RowKit
set_option linter.unusedVariables false
def ifP {α:Type} (p:Prop) [Decidable p] (x:Option α):Option α:=if p then x else none
theorem zoA {α:Type} {p:Prop} [Decidable p] {x:Option α} (h:p):ifP p x=x:=if_pos h
theorem yW {α:Type} {p:Prop} [Decidable p] {x:Option α} {v:α} (h:ifP p x=some v):p∧x=some v:=by
 unfold ifP at h
 split at h
 ·exact ⟨‹_›,h⟩
 ·cases h
def xv (P:Program) (σ:Sig) (t:Nat) (a ix:AV):Option AV:=
 (ti P t).bind fun i=>(ti P i.el).bind fun e=>match ix with
  | .sc (.int _ z)=>match i.k,a with
   | .slice,.ro sz es=>match Nat.beq sz e.sz with
    | true=>ifP (0≤z∧z<es.length) ((es[z.toNat]?).map .rp)
    | false=>none
   | .slice,.blk r g p sz off len=>match Nat.beq sz e.sz with
    | true=>(zo σ r g p).bind fun _=>ifP (0≤z∧z<len) (some (.ptr r g p sz (off+z.toNat) 0))
    | false=>none
   | .array,.ptr r g p sz k o=>ifP (0≤z∧z<i.n) (some (.ptr r g p sz k (o+z.toNat * e.sz)))
   | .array,.rp cs=>ifP (0≤z∧z<i.n) (some (.rp (cs.drop (z.toNat * e.sz))))
   | _,_=>none
  | _=>none
def zcG (P:Program) (d G:Nat) (σ:Sig) (t:Nat) (l c:AV):Option (AV × Sig):=
 (ti P t).bind fun i=>(ti P i.el).bind fun e=>e.zero.bind fun z=>match i.k,l,c with
  | .slice,.sc (.int _ n),.sc (.int _ m)=>match Nat.beq z.length e.sz,Nat.ble 1 e.sz with
   | true,true=>ifP (n=m∧0≤n∧(e.bytes:Int) * n≤281474976710656∧n≤9223372036854775807)
    (some (.blk d G [] e.sz 0 n.toNat,yD σ d (G,one ⟨e.sz,List.replicate n.toNat z,flC z,false⟩)))
   | _,_=>none
  | _,_,_=>none
section
variable {P:Program} {rd:RD} {φ:Phi} {O:Nat→Prop} {w0 w:World} {σ:Sig} {d G:Nat}
theorem yg {t:Nat} {i:TI} (hi:ti P t=some i) (hk:i.k=.slice):P.underlying t=some (.slice i.el):=by
 obtain ⟨dsc,h1,h2,h3,_⟩:=yO hi
 rw [hk] at h2
 cases dsc<;>simp [xe] at h2
 rw [h1,h3];rfl
theorem zbC {t:Nat} {i:TI} (hi:ti P t=some i) (hk:i.k=.array):P.underlying t=some (.array i.n i.el):=by
 obtain ⟨dsc,h1,h2,h3,h4⟩:=yO hi
 rw [hk] at h2
 cases dsc<;>simp [xe] at h2
 rw [h1,h3,h4];rfl
theorem yV {e:Nat} {i:TI} (hi:ti P e=some i):(sizeOf e).run P w=.ok i.sz w:=by
 obtain ⟨inf,dsc,h1,h2,h3,_⟩:=xn hi
 simp [sizeOf,typeInfo,h1,h3]
theorem zaS {t:Nat} {i e:TI} (hi:ti P t=some i) (hk:i.k=.slice) (he:ti P i.el=some e) {a:Addr} {len cap:Nat} {k:IntKind} {z:Int} (h:0≤z∧z<len):
  (Instr.indexAt t (.slice (some a) len cap) (.int k z)).run P w=.ok (.pointer (some (a.add (z.toNat * e.sz)))) w:=by
 have hu:=yg hi hk
 simp [Instr.indexAt,run_underlying hu,asIntOf,h.1,h.2,yV he]
theorem zaT {t:Nat} {i e:TI} (hi:ti P t=some i) (hk:i.k=.array) (he:ti P i.el=some e) {a:Addr} {k:IntKind} {z:Int} (h:0≤z∧z<i.n):
  (Instr.indexAt t (.pointer (some a)) (.int k z)).run P w=.ok (.pointer (some (a.add (z.toNat * e.sz)))) w:=by
 have hu:=zbC hi hk
 simp [Instr.indexAt,run_underlying hu,asIntOf,Instr.sureAddr,h.1,h.2,yV he]
theorem zcj (h:HRel rd φ O w0 σ w) {t:Nat} {x y v:AV} {cx cy:Value} (hx:VRel rd φ x cx) (hy:VRel rd φ y cy) (ha:xv P σ t x y=some v):
  After0 rd φ O w0 σ v ((Instr.indexAt t cx cy).run P w):=by
 unfold xv at ha
 obtain ⟨i,hi,ha1⟩:=Option.bind_eq_some_iff.1 ha
 clear ha
 obtain ⟨e,he,ha⟩:=Option.bind_eq_some_iff.1 ha1
 clear ha1
 cases y with
 | sc yv=>
  cases yv with
  | int ky z=>
   have:=zY hy
   subst this
   simp only at ha
   split at ha
   ·rename_i sz es hk
    split at ha
    ·rename_i hsz
     have hsz:=Nat.eq_of_beq_eq_true hsz
     obtain ⟨hz,ha2⟩:=yW ha
     obtain ⟨cs,hcs,rfl⟩:=Option.map_eq_some_iff.1 ha2
     cases hx with
     | ro0 _ A cap=>simp at hz;omega
     | ro _ _ b q cap f hc hs hr hv=>
      refine .same h (zaS hi hk he hz) ?_
      rw [xy,←hsz]
      exact .rp cs b _ (fun j=>f z.toNat j) (fun j c hj=>hs z.toNat j c (by rw [hcs];exact hj)) (fun j c hj=>hr z.toNat j c (by rw [hcs];exact hj)) (fun j c hj=>hv z.toNat j c (by rw [hcs];exact hj))
    ·cases ha
   ·rename_i r g p sz off len hk
    split at ha
    ·rename_i hsz
     have hsz:=Nat.eq_of_beq_eq_true hsz
     obtain ⟨row,hrow,ha3⟩:=Option.bind_eq_some_iff.1 ha
     obtain ⟨hz,ha2⟩:=yW ha3
     cases ha2
     cases hx with
     | blk _ _ _ _ _ _ pl A hφ hA hl=>
      obtain ⟨pl',hp',hok⟩:=h.rows _ _ _ _ hrow
      rw [hφ] at hp'
      cases hp'
      have hcap:pl.cap - off≠0:=by omega
      rcases hA with hA | hA
      ·exact absurd hA hcap
      ·cases had:pl.ad with
       | none=>exact absurd (hok.nil had) (by omega)
       | some bq=>
        obtain ⟨b,q⟩:=bq
        rw [had] at hA
        simp only [Option.map_some] at hA
        subst hA
        refine .same h (zaS hi hk he hz) ?_
        rw [xy,←hsz]
        have:=VRel.ptr (rd:=rd) (φ:=φ) r g p sz (off+z.toNat) 0 pl b q hφ had
        rwa [show q+(off+z.toNat) * sz+0=q+off * sz+z.toNat * sz by rw [Nat.add_mul];omega] at this
    ·cases ha
   ·rename_i r g p sz k o hk
    obtain ⟨hz,ha2⟩:=yW ha
    cases ha2
    cases hx with
    | ptr _ _ _ _ _ _ pl b q hφ had=>
     refine .same h (zaT hi hk he hz) ?_
     rw [xy]
     have:=VRel.ptr (rd:=rd) (φ:=φ) r g p sz k (o+z.toNat * e.sz) pl b q hφ had
     rwa [show q+k * sz+(o+z.toNat * e.sz)=q+k * sz+o+z.toNat * e.sz by omega] at this
   ·rename_i cs hk
    obtain ⟨hz,ha2⟩:=yW ha
    cases ha2
    cases hx with
    | rp _ b q f' hs hr hv=>
     refine .same h (zaT hi hk he hz) ?_
     rw [xy]
     exact .rp _ _ _ (fun j=>f' (z.toNat * e.sz+j)) (fun j c hc=>by rw [List.getElem?_drop] at hc;exact hs _ _ hc) (fun j c hc=>by rw [List.getElem?_drop] at hc;rw [Nat.add_assoc];exact hr _ _ hc)
      (fun j c hc=>by rw [List.getElem?_drop] at hc;exact hv _ _ hc)
   ·cases ha
  | _=>cases ha
 | _=>cases ha
theorem zl5 (z:Array Value) (n k i j:Nat) (hj:j<z.size) (hi:i<n):(madeCells z (n * z.size))[i * z.size+j]?=z[j]?:=by
 have h1:i * z.size+j<n * z.size:=by
  have e1:(i+1) * z.size≤n * z.size:=Nat.mul_le_mul_right _ hi
  rw [Nat.succ_mul] at e1
  omega
 have h2:(i * z.size+j)%z.size=j:=by rw [Nat.mul_comm,Nat.mul_add_mod];exact Nat.mod_eq_of_lt hj
 simp [madeCells,h1,h2,hj]
theorem zh5 (h:HRel rd φ O w0 σ w) (hfr:∀p,φ d G p=none) {t:Nat} {x y v:AV} {cx cy:Value} (hx:VRel rd φ x cx) (hy:VRel rd φ y cy) {σ':Sig} (ha:zcG P d G σ t x y=some (v,σ')):
  After rd φ O w0 d G σ' v ((Instr.makeSlice t cx cy).run P w):=by
 unfold zcG at ha
 obtain ⟨i,hi,ha1⟩:=Option.bind_eq_some_iff.1 ha
 clear ha
 obtain ⟨e,he,ha2⟩:=Option.bind_eq_some_iff.1 ha1
 clear ha1
 obtain ⟨z,hz,ha⟩:=Option.bind_eq_some_iff.1 ha2
 clear ha2
 split at ha
 ·rename_i kn n km m hk
  have:=zY hx
  subst this
  have:=zY hy
  subst this
  split at ha
  ·rename_i hb1 hb2
   have hb1:=Nat.eq_of_beq_eq_true hb1
   have hb2:=Nat.le_of_ble_eq_true hb2
   obtain ⟨⟨rfl,h0,h1,h2⟩,ha2⟩:=yW ha
   cases ha2
   obtain ⟨inf,dsc,e1,e2,e3,e4,e5,e6,-⟩:=xn he
   rw [e6] at hz
   obtain ⟨zv,hzv,rfl⟩:=Option.map_eq_some_iff.1 hz
   have hzs:zv.cells.size=e.sz:=by simpa using hb1
   have hrun:=run_make (P:=P) w t i.el inf zv (yg hi hk) e1 hzv kn km n n h0 (Int.le_refl _) (by rw [←e4];exact h1) h2
   rw [hrun]
   have hn:=h.newRow hfr ⟨e.sz,List.replicate n.toNat (zv.cells.toList.map absC),flC (zv.cells.toList.map absC),false⟩ rfl (zkE _) n.toNat (madeCells zv.cells (n.toNat * inf.size)) i.el (0,0) (.inr (Nat.le_refl _))
    (fun x hx=>by rw [(List.mem_replicate.1 hx).2];simpa using hzs) (by simp) (by rw [size_madeCells,←e3];exact Nat.le_refl _)
    (fun x hx=>by rw [(List.mem_replicate.1 hx).2];exact KOK.ofC _)
    (fun a b c hc=>by
     rw [List.getElem?_replicate] at hc
     split at hc
     ·rename_i ha
      simp only [Option.bind_some] at hc
      obtain ⟨u,hu,hr⟩:=(PW.absC (rd:=rd) (φ:=φ) zv.cells.toList).2 b c hc
      have hb:b<zv.cells.size:=by
       rcases Nat.lt_or_ge b zv.cells.size with hx | hx
       ·exact hx
       ·rw [List.getElem?_eq_none (by simpa using hx)] at hu;cases hu
      refine ⟨u,?_,hr⟩
      show (madeCells zv.cells (n.toNat * inf.size))[a * e.sz+b]?=some u
      rw [←e3,←hzs,zl5 zv.cells n.toNat 0 a b hb ha]
      simpa using hu
     ·cases hc)
   refine ⟨_,_,_,rfl,hn.1,?_,hn.2,fun r g p hh=>yC r g p hh⟩
   have:=VRel.blk (rd:=rd) (φ:=zB φ d G fun p=>match p with | []=>some ⟨some (w.heap.size,0),n.toNat⟩ | _=>none) d G [] e.sz 0 n.toNat ⟨some (w.heap.size,0),n.toNat⟩ (some (mkA w.heap.size 0)) (by simp [zB]) (.inr (by simp)) (by simp)
   exact this
  ·cases ha
 ·cases ha
end
end Go.Proofs.YtpjpkmhaffmbmaaGreat.E
end
section
namespace Go.Proofs.YtpjpkmhaffmbmaaGreat.E
open Go Go.RowKit
set_option linter.unusedVariables false
def flL:List (List AV)→Nat
 | []=>2
 | e::es=>min (flC e) (flL es)
theorem zff:∀es:List (List AV),flL es<3
 | []=>by decide
 | e::es=>Nat.lt_of_le_of_lt (Nat.min_le_left _ _) (zkE e)
def qc (sz:Nat):List (List AV)→Bool
 | []=>true
 | e::es=>match Nat.beq e.length sz with
  | true=>qc sz es
  | false=>false
def zla:List (List AV)→Bool
 | []=>true
 | e::es=>match e.all jP with
  | true=>zla es
  | false=>false
theorem zry (cs:List AV):flC cs≤2:=by unfold flC;split<;>(try split)<;>omega
theorem zeb:∀{es:List (List AV)},∀e∈es,KOK (flL es) e
 | [],e,h=>by simp at h
 | x::es,e,h=>by
  simp only [flL]
  rcases List.mem_cons.1 h with rfl | h
  ·exact (KOK.ofC _).le (Nat.min_le_left _ _)
  ·exact (zeb e h).le (Nat.min_le_right _ _)
theorem flL_map {α:Type} {E:α→List AV} {l:List α} (h:∀a,flC (E a)=2):flL (l.map E)=2:=by
 induction l with
 | nil=>rfl
 | cons a l ih=>simp only [List.map_cons,flL,h,ih];rfl
theorem zin {a b:List (List AV)}:flL (a++b)=min (flL a) (flL b):=by
 induction a with
 | nil=>
  have:flL b≤2:=by
   cases b with
   | nil=>exact Nat.le_refl _
   | cons x b=>exact Nat.le_trans (Nat.min_le_left _ _) (zry x)
  simp only [List.nil_append,flL]
  omega
 | cons x a ih=>simp only [List.cons_append,flL,ih,Nat.min_assoc]
theorem zc1 {sz:Nat}:∀{es:List (List AV)},qc sz es=true→∀e∈es,e.length=sz
 | [],_,e,h=>by simp at h
 | x::es,hw,e,h=>by
  simp only [qc] at hw
  split at hw
  ·rename_i hx
   rcases List.mem_cons.1 h with rfl | h
   ·exact Nat.eq_of_beq_eq_true hx
   ·exact zc1 hw e h
  ·cases hw
theorem zqo {α:Type} {sz:Nat} {E:α→List AV} {l:List α} (h:∀a,(E a).length=sz):qc sz (l.map E)=true:=by
 induction l with
 | nil=>rfl
 | cons a l ih=>simp [qc,h,ih]
theorem zdH:∀{es:List (List AV)},zla es=true→∀e∈es,∀c∈e,jP c=true
 | [],_,e,h,_,_=>by simp at h
 | x::es,hw,e,h,c,hc=>by
  simp only [zla] at hw
  split at hw
  ·rename_i hx
   rcases List.mem_cons.1 h with rfl | h
   ·exact List.all_eq_true.1 hx c hc
   ·exact zdH hw e h c hc
  ·cases hw
theorem znY {α:Type} {E:α→List AV} {l:List α} {off len:Nat}:sub off len (l.map E)=((l.drop off).take len).map E:=by
 unfold sub;rw [←List.map_drop,←List.map_take]
def zy (b:UInt8):List AV:=[.sc (.int .u8 b.toNat)]
def zfU (P:Program) (σ:Sig) (tx sz:Nat) (x:AV):Option (List (List AV) × Nat):=match tk P tx,x with
 | some .slice,.nilS=>some ([],2)
 | some .slice,.ro s es=>match Nat.beq s sz,qc sz es with
  | true,true=>some (es,flL es)
  | _,_=>none
 | some .slice,.blk r g p s off len=>(zo σ r g p).bind fun row=>match Nat.beq s sz,Nat.beq row.sz sz,(match Nat.ble 1 row.fl with | true=>true | false=>zla (sub off len row.es)) with
  | true,true,true=>ziJ (off+len) row.es.length (some (sub off len row.es,min 2 row.fl))
  | _,_,_=>none
 | some .string,.sc (.string s)=>match Nat.beq sz 1 with
  | true=>some (s.data.toList.map zy,2)
  | false=>none
 | _,_=>none
section
variable {P:Program} {rd:RD} {φ:Phi} {O:Nat→Prop} {w0 w:World} {σ:Sig} {d G:Nat}
def qk (w:World) (b q n:Nat):List Value:=(List.range n).map fun k=>(w.cell? (mkA b (q+k))).getD undef
theorem qS {b q n:Nat}:(qk w b q n).length=n:=by simp [qk]
theorem zcv {b q n k:Nat} (hk:k<n) {v:Value} (hv:w.cell? (mkA b (q+k))=some v):(qk w b q n)[k]?=some v:=by
 simp only [qk,List.getElem?_map,List.getElem?_range hk,Option.map_some,hv,Option.getD_some]
theorem wA {b q n k:Nat} {v:Value} (h:(qk w b q n)[k]?=some v):k<n∧v=(w.cell? (mkA b (q+k))).getD undef:=by
 simp only [qk,List.getElem?_map] at h
 obtain ⟨k',hk',rfl⟩:=Option.map_eq_some_iff.1 h
 rcases Nat.lt_or_ge k n with hx | hx
 ·rw [List.getElem?_range hx] at hk'
  cases hk'
  exact ⟨hx,rfl⟩
 ·rw [List.getElem?_eq_none (by simpa using hx)] at hk'
  cases hk'
theorem get2 {es:List (List AV)} {sz:Nat} (hw:∀e∈es,e.length=sz) {k:Nat} (hk:k<es.length * sz):∃c,(es[k/sz]?).bind (·[k%sz]?)=some c:=by
 have hsz:0<sz:=by
  rcases Nat.eq_zero_or_pos sz with h | h
  ·subst h;simp at hk
  ·exact h
 have hi:k/sz<es.length:=(Nat.div_lt_iff_lt_mul hsz).2 hk
 have hj:k%sz<(es[k/sz]).length:=by rw [hw _ (List.getElem_mem hi)];exact Nat.mod_lt _ hsz
 exact ⟨_,by rw [List.getElem?_eq_getElem hi,Option.bind_some,List.getElem?_eq_getElem hj]⟩
theorem zmP {tx e' sz:Nat} (hk:P.underlying tx=some (.slice e')) {es:List (List AV)} (hw:∀e∈es,e.length=sz) {b q cap:Nat}
  (hc:∀i j c,(es[i]?).bind (·[j]?)=some c→jP c=true∧∃v,w.cell? (mkA b (q+i * sz+j))=some v∧VRel rd φ c v):
  ∃news,Src P sz tx (.slice (some (mkA b q)) es.length cap) es.length news w∧(∀i j c,(es[i]?).bind (·[j]?)=some c→∃v,news[i * sz+j]?=some v∧VRel rd φ c v)∧
   ∀n,n≤es.length→(Builtin.firstCells sz n (.slice (some (mkA b q)) es.length cap)).run P w=.ok (news.take (n * sz)).toArray w:=by
 have hall:∀k,k<es.length * sz→∃v,w.cell? (mkA b (q+k))=some v∧v.oneCell'=true:=by
  intro k hk
  obtain ⟨c,h1⟩:=get2 hw hk
  obtain ⟨h2,v,h3,h4⟩:=hc _ _ _ h1
  refine ⟨v,?_,h4.one h2⟩
  have e:k/sz * sz+k%sz=k:=by rw [Nat.mul_comm];exact Nat.div_add_mod k sz
  rwa [Nat.add_assoc,e] at h3
 have hld:∀j u,(qk w b q (es.length * sz))[j]?=some u→w.cell? ((mkA b q).add j)=some u:=by
  intro j u hu
  obtain ⟨h1,rfl⟩:=wA hu
  obtain ⟨v,h2,_⟩:=hall j h1
  rw [xy,h2];rfl
 refine ⟨qk w b q (es.length * sz),Src.ofSlice w hk _ _ _ _ qS hld (fun u hu=>?_),fun i j c h=>?_,fun n hn=>run_firstCells_some w sz n _ _ _ _ ?_ fun j u hu=>?_⟩
 ·obtain ⟨j,hj⟩:=List.getElem?_of_mem hu
  obtain ⟨h1,rfl⟩:=wA hj
  obtain ⟨v,h2,h3⟩:=hall j h1
  rw [h2];exact h3
 ·obtain ⟨_,v,h2,h3⟩:=hc _ _ _ h
  have hlt:i * sz+j<es.length * sz:=by
   cases he:es[i]? with
   | none=>rw [he] at h;cases h
   | some e=>
    rw [he] at h
    have hj:j<e.length:=by
     rcases Nat.lt_or_ge j e.length with hx | hx
     ·exact hx
     ·rw [Option.bind_some,List.getElem?_eq_none hx] at h;cases h
    rw [hw e (List.mem_of_getElem? he)] at hj
    have hi:i<es.length:=by
     rcases Nat.lt_or_ge i es.length with hx | hx
     ·exact hx
     ·rw [List.getElem?_eq_none hx] at he;cases he
    have:=Nat.mul_le_mul_right sz (show i+1≤es.length from hi)
    rw [Nat.succ_mul] at this
    omega
  exact ⟨v,zcv hlt (by rw [←Nat.add_assoc];exact h2),h3⟩
 ·rw [List.length_take,qS]
  exact Nat.min_eq_left (Nat.mul_le_mul_right _ hn)
 ·rw [List.getElem?_take] at hu
  split at hu
  ·exact hld j u hu
  ·cases hu
theorem zdO {tx e' sz:Nat} (hk:P.underlying tx=some (.slice e')) (A:Option Addr) (cap:Nat):Src P sz tx (.slice A 0 cap) 0 [] w:=by
 cases A with
 | none=>exact Src.ofNil w hk cap
 | some a=>exact Src.ofSlice w hk a 0 cap [] (by simp) (by simp) (by simp)
theorem jB {t:Nat} (h:tk P t=some .slice):∃e,P.underlying t=some (.slice e):=by
 obtain ⟨i,hi,hk⟩:=zcJ h
 exact ⟨_,yg hi hk⟩
theorem ji {t:Nat} (h:tk P t=some .string):P.underlying t=some .string:=by
 obtain ⟨i,hi,hk⟩:=zcJ h
 obtain ⟨dsc,h1,h2,_⟩:=yO hi
 rw [hk] at h2
 cases dsc<;>simp [xe] at h2
 exact h1
theorem za4 {c:AV} (h:sfc c=true):jP c=true:=by cases c<;>first | rfl | cases h
theorem we (h:HRel rd φ O w0 σ w) {tx sz:Nat} {x:AV} {cx:Value} (hx:VRel rd φ x cx) {s:List (List AV) × Nat} (hs:zfU P σ tx sz x=some s):
  ∃news,Src P sz tx cx s.1.length news w∧(∀i j c,(s.1[i]?).bind (·[j]?)=some c→∃v,news[i * sz+j]?=some v∧VRel rd φ c v)∧(∀e∈s.1,e.length=sz)∧(∀e∈s.1,KOK s.2 e)∧s.2<3∧
   (tk P tx=some .slice→∀n,n≤s.1.length→(Builtin.firstCells sz n cx).run P w=.ok (news.take (n * sz)).toArray w):=by
 have first0:∀(A:Option Addr) (cap n:Nat),n≤0→(Builtin.firstCells sz n (.slice A 0 cap)).run P w=.ok (([]:List Value).take (n * sz)).toArray w:=by
  intro A cap n hn
  have:n=0:=by omega
  subst this
  cases A<;>simp [Builtin.firstCells,loadCells,loadCellsFrom]
 unfold zfU at hs
 split at hs
 ·rename_i hk
  obtain ⟨e',hk⟩:=jB hk
  cases hs
  cases hx
  exact ⟨[],zdO hk _ _,by simp,by simp,by simp,by first | decide | exact zff _ | exact Nat.lt_of_le_of_lt (Nat.min_le_left _ _) (by decide),fun _=>first0 _ _⟩
 ·rename_i s0 es hk
  obtain ⟨e',hk⟩:=jB hk
  split at hs
  ·rename_i h1 h2
   have h1:=Nat.eq_of_beq_eq_true h1
   subst h1
   cases hs
   have hw:=zc1 h2
   cases hx with
   | ro0 _ A cap=>exact ⟨[],zdO hk _ _,by simp,by simp,by simp,by first | decide | exact zff _ | exact Nat.lt_of_le_of_lt (Nat.min_le_left _ _) (by decide),fun _=>first0 _ _⟩
   | ro _ _ b q cap f hc hsf hr hv=>
    obtain ⟨news,k1,k2,k3⟩:=zmP (P:=P) (rd:=rd) (φ:=φ) (w:=w) hk hw (b:=b) (q:=q) (cap:=cap) (fun i j c hcc=>⟨za4 (hsf _ _ _ hcc),_,h.rdok _ _ _ (hr _ _ _ hcc),hv _ _ _ hcc⟩)
    exact ⟨news,k1,k2,hw,zeb,zff _,fun _=>k3⟩
  ·cases hs
 ·rename_i r g p s0 off len hk
  obtain ⟨e',hk⟩:=jB hk
  obtain ⟨row,hrow,hs1⟩:=Option.bind_eq_some_iff.1 hs
  clear hs
  split at hs1
  ·rename_i h1 h2 h3
   have h1:=Nat.eq_of_beq_eq_true h1
   have h2:=Nat.eq_of_beq_eq_true h2
   subst h1
   unfold ziJ at hs1
   split at hs1
   ·rename_i hle
    have hle:=Nat.le_of_ble_eq_true hle
    cases hs1
    obtain ⟨pl,hp,hok⟩:=h.rows _ _ _ _ hrow
    have hll:(sub off len row.es).length=len:=by simp [sub];omega
    have hmem:∀e∈sub off len row.es,e∈row.es:=fun e he=>List.mem_of_mem_drop (List.mem_of_mem_take he)
    have hw:∀e∈sub off len row.es,e.length=s0:=fun e he=>by rw [hok.wide e (hmem e he),h2]
    cases hx with
    | blk _ _ _ _ _ _ pl' A hφ hA hl=>
     rw [hφ] at hp
     cases hp
     by_cases hz:len=0
     ·subst hz
      have:sub off 0 row.es=[]:=by simp [sub]
      rw [this]
      exact ⟨[],zdO hk _ _,by simp,by simp,by simp,by first | decide | exact zff _ | exact Nat.lt_of_le_of_lt (Nat.min_le_left _ _) (by decide),fun _=>first0 _ _⟩
     ·rcases hA with hA | hA
      ·omega
      ·cases had:pl.ad with
       | none=>exact absurd (hok.nil had) (by omega)
       | some bq=>
        obtain ⟨b,q⟩:=bq
        rw [had] at hA
        simp only [Option.map_some] at hA
        subst hA
        have:=zmP (P:=P) (rd:=rd) (φ:=φ) (w:=w) hk hw (b:=b) (q:=q+off * s0) (cap:=pl.cap - off) (fun i j c hcc=>by
         refine ⟨?_,?_⟩
         ·cases he:(sub off len row.es)[i]? with
          | none=>rw [he] at hcc;cases hcc
          | some e=>
           rw [he] at hcc
           have hc:=List.mem_of_getElem? hcc
           have he:=List.mem_of_getElem? he
           split at h3
           ·rename_i hf
            exact za4 ((hok.kind e (hmem e he)).1 (Nat.le_of_ble_eq_true hf) c hc)
           ·exact zdH h3 e he c hc
         ·have hc':(row.es[off+i]?).bind (·[j]?)=some c:=by
           simp only [sub,List.getElem?_take] at hcc
           split at hcc
           ·rwa [List.getElem?_drop] at hcc
           ·cases hcc
          obtain ⟨v,hv,hrel⟩:=hok.cells b q had _ _ _ hc'
          refine ⟨v,?_,hrel⟩
          rw [←hv]
          congr 2
          rw [h2,Nat.add_mul];omega)
        rw [hll] at this
        obtain ⟨news,k1,k2,k3⟩:=this
        exact ⟨news,by simpa [hll] using k1,k2,hw,fun e he=>(hok.kind e (hmem e he)).le (Nat.min_le_right _ _),Nat.lt_of_le_of_lt (Nat.min_le_left _ _) (by decide),fun _ n hn=>k3 n (by simpa [hll] using hn)⟩
   ·cases hs1
  ·cases hs1
 ·rename_i s0 hk
  have hk:=ji hk
  split at hs
  ·rename_i h1
   have h1:=Nat.eq_of_beq_eq_true h1
   subst h1
   cases hs
   cases zY hx
   refine ⟨byteCells s0,?_,?_,?_,?_,by show (2:Nat)<3;decide,?_⟩
   ·have e:(s0.data.toList.map zy).length=s0.size:=by rw [List.length_map,Array.length_toList];rfl
    rw [e]
    exact Src.ofString (P:=P) w hk s0
   ·intro i j c hc
    simp only [List.getElem?_map] at hc
    cases hb:s0.data.toList[i]? with
    | none=>rw [hb] at hc;cases hc
    | some b=>
     rw [hb] at hc
     cases j with
     | zero=>
      simp only [Option.map_some,Option.bind_some,zy,List.getElem?_cons_zero,Option.some.injEq] at hc
      subst hc
      exact ⟨.int .u8 b.toNat,by simp only [byteCells,Nat.mul_one,Nat.add_zero,List.getElem?_map,hb];rfl,.sc _ rfl⟩
     | succ j=>simp [zy] at hc
   ·intro e he
    obtain ⟨b,_,rfl⟩:=List.mem_map.1 he
    rfl
   ·intro e he
    obtain ⟨b,_,rfl⟩:=List.mem_map.1 he
    exact KOK.ofC (zy b)
   ·intro hk2
    obtain ⟨e',hk2⟩:=jB hk2
    rw [hk] at hk2
    cases hk2
  ·cases hs
 ·cases hs
end
def zqG:Option AV→Option (Option Int)
 | none=>some none
 | some (.sc (.int _ z))=>some (some z)
 | some _=>none
def elB (P:Program) (t sz:Nat):Bool:=match (ti P t).bind fun i=>ti P i.el with
 | some e=>Nat.beq sz e.sz
 | none=>false
def zcE (P:Program) (t:Nat) (x:AV) (l h:Option Int):Option AV:=
 match tk P t,x with
 | some .string,.sc (.string s)=>ifP (0≤l.getD 0∧l.getD 0≤h.getD s.size∧h.getD s.size≤s.size) (some (.sc (.string (s.extract (l.getD 0).toNat (h.getD s.size).toNat))))
 | some .slice,.nilS=>((ti P t).bind fun i=>ti P i.el).bind fun _=>ifP (l.getD 0=0∧h.getD 0=0) (some .nilS)
 | some .slice,.ro sz es=>match elB P t sz with
  | true=>ifP (0≤l.getD 0∧l.getD 0≤h.getD es.length∧h.getD es.length≤es.length) (some (.ro sz (sub (l.getD 0).toNat ((h.getD es.length).toNat - (l.getD 0).toNat) es)))
  | false=>none
 | some .slice,.blk r g p sz off len=>match elB P t sz with
  | true=>ifP (0≤l.getD 0∧l.getD 0≤h.getD len∧h.getD len≤len) (some (.blk r g p sz (off+(l.getD 0).toNat) ((h.getD len).toNat - (l.getD 0).toNat)))
  | false=>none
 | _,_=>none
def jM (P:Program) (t:Nat) (x:AV) (lo hi mx:Option AV):Option AV:=
 match mx with
 | none=>(zqG lo).bind fun l=>(zqG hi).bind fun h=>zcE P t x l h
 | some _=>none
def zak (P:Program) (t:Nat) (x ix:AV):Option AV:=
 match tk P t,x,ix with
 | some .string,.sc (.string s),.sc (.int _ z)=>ifP (0≤z) ((s.data[z.toNat]?).map fun b=>.sc (.int .u8 b.toNat))
 | some .array,.agg cs,.sc (.int _ z)=>(ti P t).bind fun i=>(ti P i.el).bind fun e=>ifP (0≤z∧z<i.n) (ldC e cs (z.toNat * e.sz))
 | _,_,_=>none
def ju (P:Program) (t f:Nat):Option Nat:=match P.underlying t with
 | some (.struct fs)=>(fs[f]?).map fun x=>x.type
 | _=>none
def zal (P:Program) (t:Nat) (x:AV) (f:Nat):Option AV:=
 (ju P t f).bind fun ft=>(ti P t).bind fun i=>(i.flds[f]?).bind fun o=>(ti P ft).bind fun e=>match x with
  | .agg cs=>ldC e cs o.1
  | _=>none
def zaN (place:Nat→Option (Nat × Nat)):List AV→List (Nat × AV)→Option (List AV)
 | cs,[]=>some cs
 | cs,x::l=>(place x.1).bind fun o=>match (yB x.2).all jP,Nat.beq (yB x.2).length o.2,Nat.ble (o.1+o.2) cs.length with
  | true,true,true=>zaN place (cs.take o.1++(yB x.2++cs.drop (o.1+o.2))) l
  | _,_,_=>none
def zfw:List (Nat × Nat)→Bool
 | []=>true
 | x::l=>match Nat.beq x.2 0 with
  | true=>false
  | false=>zfw l
def jN (P:Program) (t:Nat) (parts:List (Nat × AV)):Option AV:=
 (ti P t).bind fun i=>i.zero.bind fun z=>match i.k with
  | .struct=>match zfw i.flds with
   | true=>(zaN (fun k=>i.flds[k]?) z parts).map .agg
   | false=>none
  | .array=>(ti P i.el).bind fun e=>(zaN (fun k=>some (k * e.sz,e.sz)) z parts).map .agg
  | _=>none
def zfr (sz:Nat):List (List AV)→List (Nat × AV)→Option (List (List AV))
 | es,[]=>some es
 | es,x::l=>match (yB x.2).all jP,Nat.beq (yB x.2).length sz,Nat.blt x.1 es.length with
  | true,true,true=>zfr sz (es.set x.1 (yB x.2)) l
  | _,_,_=>none
def jA (P:Program) (t len:Nat) (parts:List (Nat × AV)):Option (Nat × List (List AV)):=
 (ti P t).bind fun i=>(ti P i.el).bind fun e=>e.zero.bind fun z=>match i.k,Nat.beq z.length e.sz,Nat.ble 1 e.sz,Nat.ble (len * e.sz) 16777216 with
  | .slice,true,true,true=>(zfr e.sz (List.replicate len z) parts).map fun es=>(e.sz,es)
  | _,_,_,_=>none
def xI (P:Program) (t len:Nat) (parts:List (Nat × AV)):Option AV:=
 (jA P t len parts).bind fun x=>match Nat.ble 1 (flL x.2) with
  | true=>some (.ro x.1 x.2)
  | false=>none
def qT:List (List AV)→Option (List UInt8)
 | []=>some []
 | [.sc (.int .u8 n)]::l=>(qT l).map fun r=>UInt8.ofNat n.toNat::r
 | _=>none
def zhH (P:Program) (σ:Sig) (s:Nat) (x:AV):Option AV:=
 (ti P s).bind fun i=>match tk P i.el with
  | some (.int .u8)=>(zfU P σ s 1 x).bind fun es=>(qT es.1).map fun l=>.sc (.string ⟨l.toArray⟩)
  | _=>none
def zbr (P:Program) (σ:Sig) (s t:Nat) (x:AV):Option AV:=
 match tk P s,tk P t with
 | some .slice,some .string=>zhH P σ s x
 | _,_=>zeq P s t x
def zhD (a b:AV):Option AV:=match a,b with
 | .sc (.int k x),.sc (.int _ y)=>some (.sc (.int k (min x y)))
 | _,_=>none
def zhE (a b:AV):Option AV:=match a,b with
 | .sc (.int k x),.sc (.int _ y)=>some (.sc (.int k (max x y)))
 | _,_=>none
theorem zpi (l:List UInt8):qT (l.map zy)=some l:=by
 induction l with
 | nil=>rfl
 | cons b l ih=>simp [qT,zy,ih]
section
variable {P:Program} {rd:RD} {φ:Phi} {O:Nat→Prop} {w0 w:World} {σ:Sig} {d G:Nat}
theorem zhu {t sz:Nat} (h:elB P t sz=true):∃i e,ti P t=some i∧ti P i.el=some e∧sz=e.sz:=by
 unfold elB at h
 split at h
 ·rename_i e he
  obtain ⟨i,hi,he⟩:=Option.bind_eq_some_iff.1 he
  exact ⟨i,e,hi,he,Nat.eq_of_beq_eq_true h⟩
 ·cases h
theorem zha {lo:Option AV} {clo:Option Value} (h:∀a,lo=some a→∃c,clo=some c∧VRel rd φ a c) (hn:lo=none→clo=none) {l:Option Int} (hl:zqG lo=some l):
  (l=none∧clo=none)∨∃k z,l=some z∧clo=some (.int k z):=by
 unfold zqG at hl
 split at hl
 ·cases hl;exact .inl ⟨rfl,hn rfl⟩
 ·rename_i k z
  cases hl
  obtain ⟨c,e,hr⟩:=h _ rfl
  rw [zY hr] at e
  exact .inr ⟨_,_,rfl,e⟩
 ·cases hl
theorem qp (is:Bool) (len cap:Nat) (hlc:len≤cap) {clo chi:Option Value} {l h:Option Int} (h1:(l=none∧clo=none)∨∃k z,l=some z∧clo=some (.int k z)) (h2:(h=none∧chi=none)∨∃k z,h=some z∧chi=some (.int k z))
  (hb:0≤l.getD 0∧l.getD 0≤h.getD len∧h.getD len≤len):(Instr.sliceBounds is len cap clo chi none).run P w=.ok ((l.getD 0).toNat,(h.getD len).toNat,cap) w:=by
 rcases h1 with ⟨rfl,rfl⟩ | ⟨k1,z1,rfl,rfl⟩<;>rcases h2 with ⟨rfl,rfl⟩ | ⟨k2,z2,rfl,rfl⟩<;>simp only [Option.getD_none,Option.getD_some] at hb ⊢
 ·simp [Instr.sliceBounds]
 ·have e1:0≤z2∧z2≤(cap:Int):=by omega
  simp [Instr.sliceBounds,Instr.sliceBound,asIntOf,e1]
 ·have e1:0≤z1∧z1≤(len:Int):=by omega
  simp [Instr.sliceBounds,Instr.sliceBound,asIntOf,e1]
 ·have e1:0≤z2∧z2≤(cap:Int):=by omega
  have e2:0≤z1∧z1≤((z2.toNat:Nat):Int):=by omega
  simp only [Instr.sliceBounds,Instr.sliceBound,asIntOf,Sem.run_bind,Sem.run_pure,Result.andThen_ok,if_pos e1,if_pos e2,Option.isSome_none,Bool.false_eq_true,if_false]
theorem zfV (hh:HRel rd φ O w0 σ w) {t:Nat} {x v:AV} {lo hi mx:Option AV} {cx:Value} {clo chi cmx:Option Value} (hx:VRel rd φ x cx)
  (h1:∀a,lo=some a→∃c,clo=some c∧VRel rd φ a c) (h1n:lo=none→clo=none) (h2:∀a,hi=some a→∃c,chi=some c∧VRel rd φ a c) (h2n:hi=none→chi=none) (h3:mx=none→cmx=none)
  (ha:jM P t x lo hi mx=some v):After0 rd φ O w0 σ v ((Instr.sliceAt t cx clo chi cmx).run P w):=by
 unfold jM at ha
 split at ha
 ·have e3:=h3 rfl
  subst e3
  obtain ⟨l,hl,ha1⟩:=Option.bind_eq_some_iff.1 ha
  obtain ⟨h,hhh,ha2⟩:=Option.bind_eq_some_iff.1 ha1
  have b1:=zha h1 h1n hl
  have b2:=zha h2 h2n hhh
  clear ha ha1
  unfold zcE at ha2
  split at ha2
  ·rename_i s hk
   have hk:=ji hk
   cases zY hx
   obtain ⟨hb,ha2⟩:=yW ha2
   cases ha2
   have hbb:=qp (P:=P) (w:=w) false s.size s.size (Nat.le_refl _) b1 b2 hb
   exact .same hh (cv:=.string _) (by simp [Instr.sliceAt,Instr.slice,run_underlying hk w,hbb]) (.sc _ rfl)
  ·rename_i hk
   obtain ⟨e,he,ha2⟩:=Option.bind_eq_some_iff.1 ha2
   obtain ⟨i,hi,he⟩:=Option.bind_eq_some_iff.1 he
   have hu:P.underlying t=some (.slice i.el):=by
    obtain ⟨i',hi',hk'⟩:=zcJ hk
    rw [hi] at hi'
    cases hi'
    exact yg hi hk'
   obtain ⟨hb,ha2⟩:=yW ha2
   cases ha2
   cases hx
   have hbb:=qp (P:=P) (w:=w) true 0 0 (Nat.le_refl _) b1 b2 (by rcases b1 with ⟨rfl,_⟩ | ⟨_,_,rfl,_⟩<;>rcases b2 with ⟨rfl,_⟩ | ⟨_,_,rfl,_⟩<;>simp at hb ⊢<;>omega)
   have e1:(l.getD 0).toNat=0:=by rw [hb.1];rfl
   have e2:(h.getD ((0:Nat):Int)).toNat=0:=by
    rw [show h.getD ((0:Nat):Int)=h.getD 0 from rfl,hb.2];rfl
   rw [e1,e2] at hbb
   refine .same hh (cv:=.slice none 0 0) ?_ .nilS
   simp only [Instr.sliceAt,Instr.slice,Sem.run_bind,run_underlying hu w,Result.andThen_ok,hbb,yV he]
   rfl
  ·rename_i sz es hk
   obtain ⟨e0,hk0⟩:=jB hk
   split at ha2
   ·rename_i hel
    obtain ⟨i,e,hi,he,rfl⟩:=zhu hel
    have hu:P.underlying t=some (.slice i.el):=by
     obtain ⟨i',hi',hk'⟩:=zcJ hk
     rw [hi] at hi'
     cases hi'
     exact yg hi hk'
    obtain ⟨hb,ha2⟩:=yW ha2
    cases ha2
    cases hx with
    | ro0 _ A cap=>
     have hbb:=qp (P:=P) (w:=w) true 0 cap (Nat.zero_le _) b1 b2 hb
     have e0:(h.getD ((0:Nat):Int)).toNat - (l.getD 0).toNat=0:=by
      have:=hb.2.2
      simp only [List.length_nil] at this hb
      omega
     refine .same hh (cv:=.slice _ _ _) (by simp only [Instr.sliceAt,Instr.slice,Sem.run_bind,run_underlying hu w,Result.andThen_ok,hbb,yV he];rfl) ?_
     simp only [List.length_nil,sub,List.drop_nil,List.take_nil,e0]
     exact .ro0 _ _ _
    | ro _ _ b q cap f hc hs hr hv=>
     have hbb:=qp (P:=P) (w:=w) true es.length cap hc b1 b2 hb
     refine .same hh (cv:=.slice _ _ _) (by simp only [Instr.sliceAt,Instr.slice,Sem.run_bind,run_underlying hu w,Result.andThen_ok,hbb,yV he];rfl) ?_
     by_cases hz:(h.getD (es.length:Int)).toNat - (l.getD 0).toNat=0
     ·rw [hz]
      have:sub (l.getD 0).toNat 0 es=[]:=by simp [sub]
      rw [this]
      exact .ro0 _ _ _
     ·have hne:¬cap=(l.getD 0).toNat:=by omega
      rw [if_neg hne]
      have hcell:∀(a j:Nat) (c:AV),((sub (l.getD 0).toNat ((h.getD (es.length:Int)).toNat - (l.getD 0).toNat) es)[a]?).bind (·[j]?)=some c→(es[(l.getD 0).toNat+a]?).bind (·[j]?)=some c:=by
       intro a j c hcc
       simp only [sub,List.getElem?_take] at hcc
       split at hcc
       ·rwa [List.getElem?_drop] at hcc
       ·cases hcc
      have hlen:(sub (l.getD 0).toNat ((h.getD (es.length:Int)).toNat - (l.getD 0).toNat) es).length=(h.getD (es.length:Int)).toNat - (l.getD 0).toNat:=by simp [sub];omega
      have:=VRel.ro (rd:=rd) (φ:=φ) e.sz (sub (l.getD 0).toNat ((h.getD (es.length:Int)).toNat - (l.getD 0).toNat) es) b (q+(l.getD 0).toNat * e.sz) (cap - (l.getD 0).toNat) (fun a j=>f ((l.getD 0).toNat+a) j)
       (by rw [hlen];omega) (fun a j c hcc=>hs _ _ _ (hcell a j c hcc))
       (fun a j c hcc=>by
        have:=hr _ _ _ (hcell a j c hcc)
        rwa [show q+(l.getD 0).toNat * e.sz+a * e.sz+j=q+((l.getD 0).toNat+a) * e.sz+j by rw [Nat.add_mul];omega])
       (fun a j c hcc=>hv _ _ _ (hcell a j c hcc))
      rw [hlen] at this
      simp only [Option.map_some,xy]
      exact this
   ·cases ha2
  ·rename_i r g p sz off len hk
   obtain ⟨e0,hk0⟩:=jB hk
   split at ha2
   ·rename_i hel
    obtain ⟨i,e,hi,he,rfl⟩:=zhu hel
    have hu:P.underlying t=some (.slice i.el):=by
     obtain ⟨i',hi',hk'⟩:=zcJ hk
     rw [hi] at hi'
     cases hi'
     exact yg hi hk'
    obtain ⟨hb,ha2⟩:=yW ha2
    cases ha2
    cases hx with
    | blk _ _ _ _ _ _ pl A hφ hA hl=>
     have hbb:=qp (P:=P) (w:=w) true len (pl.cap - off) hl b1 b2 hb
     refine .same hh (cv:=.slice _ _ _) (by simp only [Instr.sliceAt,Instr.slice,Sem.run_bind,run_underlying hu w,Result.andThen_ok,hbb,yV he];rfl) ?_
     have e1:pl.cap - off - (l.getD 0).toNat=pl.cap - (off+(l.getD 0).toNat):=by omega
     rw [e1]
     refine .blk r g p e.sz _ _ pl _ hφ ?_ (by omega)
     split
     ·left;omega
     ·rename_i hne
      rcases hA with hA | hA
      ·left;omega
      ·right
       subst hA
       cases pl.ad with
       | none=>rfl
       | some x=>
        simp only [Option.map_some,xy]
        congr 2
        rw [Nat.add_mul];omega
   ·cases ha2
  ·cases ha2
 ·cases ha
theorem zhm {t:Nat} {i:TI} (hi:ti P t=some i) {cs:List AV} {arr:Array Value} (hp:PW rd φ cs arr.toList) {o:Nat} {v:AV} (hl:ldC i cs o=some v):∃cv,(part t arr o).run P w=.ok cv w∧VRel rd φ v cv:=by
 obtain ⟨inf,dsc,h1,h2,h3,h4,h5,-⟩:=xn hi
 have hagg:(isAgg t).run P w=.ok i.ag w:=by
  unfold isAgg
  rw [Sem.run_bind,run_underlying h2 w,h5]
  cases dsc<;>simp [zic]
 unfold ldC at hl
 split at hl
 ·rename_i hag
  split at hl
  ·rename_i hle
   cases hl
   have hle:=Nat.le_of_ble_eq_true hle
   refine ⟨.agg (arr.extract o (o+i.sz)),?_,PW.agg ?_⟩
   ·unfold part
    rw [Sem.run_bind,hagg,Result.andThen_ok]
    simp [hag,yV hi]
   ·rw [Array.toList_extract]
    have:=(hp.drop o).take i.sz
    simpa [List.extract] using this
  ·cases hl
 ·rename_i hag
  obtain ⟨cv,h6,h7⟩:=hp.2 _ _ hl
  have h6':arr[o]?=some cv:=by simpa using h6
  refine ⟨cv,?_,h7⟩
  unfold part
  rw [Sem.run_bind,hagg,Result.andThen_ok]
  simp [hag,h6']
theorem zgk (hh:HRel rd φ O w0 σ w) {t:Nat} {x y v:AV} {cx cy:Value} (hx:VRel rd φ x cx) (hy:VRel rd φ y cy) (ha:zak P t x y=some v):
  After0 rd φ O w0 σ v ((Instr.index t cx cy).run P w):=by
 unfold zak at ha
 split at ha
 ·rename_i s k z hk
  have hk:=ji hk
  cases zY hx
  cases zY hy
  obtain ⟨hz,ha⟩:=yW ha
  obtain ⟨b,hb,rfl⟩:=Option.map_eq_some_iff.1 ha
  have hb':s[z.toNat]?=some b:=by
   obtain ⟨h1,h2⟩:=Array.getElem?_eq_some_iff.1 hb
   have h3:z.toNat<s.size:=h1
   rw [getElem?_pos s z.toNat h3]
   exact congrArg some h2
  exact .same hh (cv:=.int .u8 b.toNat) (by simp only [Instr.index,asIntOf,Sem.run_bind,Sem.run_pure,Result.andThen_ok,run_underlying hk w,if_pos hz,hb']) (.sc _ rfl)
 ·rename_i cs k z hk
  obtain ⟨i0,hi0,hk0⟩:=zcJ hk
  obtain ⟨i,hi,ha1⟩:=Option.bind_eq_some_iff.1 ha
  obtain ⟨e,he,ha2⟩:=Option.bind_eq_some_iff.1 ha1
  rw [hi] at hi0
  cases hi0
  obtain ⟨hz,ha3⟩:=yW ha2
  obtain ⟨arr,rfl,hp⟩:=PW.of_agg hx
  cases zY hy
  obtain ⟨cv,h1,h2⟩:=zhm (P:=P) (w:=w) he hp ha3
  exact .same hh (by simp only [Instr.index,asIntOf,Sem.run_bind,Sem.run_pure,Result.andThen_ok,run_underlying (zbC hi hk0) w,if_pos hz,yV he,h1]) h2
 ·cases ha
theorem zgx (hh:HRel rd φ O w0 σ w) {t f:Nat} {x v:AV} {cx:Value} (hx:VRel rd φ x cx) (ha:zal P t x f=some v):
  After0 rd φ O w0 σ v ((Instr.field t cx f).run P w):=by
 unfold zal at ha
 obtain ⟨ft,hft,ha1⟩:=Option.bind_eq_some_iff.1 ha
 obtain ⟨i,hi,ha2⟩:=Option.bind_eq_some_iff.1 ha1
 obtain ⟨o,ho,ha3⟩:=Option.bind_eq_some_iff.1 ha2
 obtain ⟨e,he,ha4⟩:=Option.bind_eq_some_iff.1 ha3
 clear ha ha1 ha2 ha3
 obtain ⟨inf,dsc,h1,h2,h3,h4,h5,h6,h7,-⟩:=xn hi
 unfold ju at hft
 rw [h2] at hft
 cases dsc with
 | struct fs=>
  simp only at hft h7
  obtain ⟨fl,hfl,rfl⟩:=Option.map_eq_some_iff.1 hft
  rw [h7,List.getElem?_map] at ho
  obtain ⟨fl',hfl',rfl⟩:=Option.map_eq_some_iff.1 ho
  have:fs[f]?=some fl':=by simpa using hfl'
  rw [this] at hfl
  cases hfl
  split at ha4
  ·obtain ⟨arr,rfl,hp⟩:=PW.of_agg hx
   obtain ⟨cv,k1,k2⟩:=zhm (P:=P) (w:=w) he hp ha4
   exact .same hh (by simp only [Instr.field,Sem.run_bind,run_underlying h2 w,Result.andThen_ok,this,asAgg,Sem.run_pure,k1]) k2
  ·cases ha4
 | _=>simp at hft
end
section
variable {P:Program} {rd:RD} {φ:Phi} {O:Nat→Prop} {w0 w:World} {σ:Sig} {d G:Nat}
theorem zd9 (off:Nat):∀(vs:List Value) (k:Nat) (cells:Array Value),off+k+vs.length≤cells.size→
  ((vs.zipIdx k).foldl (fun cs (x:Value × Nat)=>cs.setIfInBounds (off+x.2) x.1) cells).toList=cells.toList.take (off+k)++(vs++cells.toList.drop (off+k+vs.length))
 | [],k,cells,h=>by simp
 | c::r,k,cells,h=>by
  simp only [List.zipIdx_cons,List.foldl_cons]
  rw [zd9 off r (k+1) _ (by simp only [Array.size_setIfInBounds];simp only [List.length_cons] at h;omega)]
  simp only [Array.toList_setIfInBounds,List.length_cons] at h ⊢
  have e1:(cells.toList.set (off+k) c).take (off+(k+1))=cells.toList.take (off+k)++[c]:=by
   rw [←Nat.add_assoc,List.take_add_one,List.take_set_of_le (Nat.le_refl _),List.getElem?_set_self (by simp;omega)]
   rfl
  have e2:(cells.toList.set (off+k) c).drop (off+(k+1)+r.length)=cells.toList.drop (off+k+(r.length+1)):=by
   rw [List.drop_set_of_lt (by omega)]
   congr 1
   omega
  rw [e1,e2,List.append_assoc]
  rfl
theorem zaG {place cplace:Nat→Option (Nat × Nat)} (hp:∀k o,place k=some o→cplace k=some o) {ev:Operand→AV} {ρ:Operand→Value} (hev:∀x,VRel rd φ (ev x) (ρ x)):∀(ps:List (Nat × Operand)) {cs cs':List AV} {arr:Array Value},PW rd φ cs arr.toList→
  zaN place cs (ps.map fun x=>(x.1,ev x.2))=some cs'→∃arr',Instr.fill cplace arr (ps.map fun x=>(x.1,ρ x.2))=some arr'∧PW rd φ cs' arr'.toList
 | [],cs,cs',arr,h,hf=>by cases hf;exact ⟨arr,rfl,h⟩
 | x::ps,cs,cs',arr,h,hf=>by
  simp only [List.map_cons,zaN] at hf
  obtain ⟨o,ho,hf1⟩:=Option.bind_eq_some_iff.1 hf
  clear hf
  split at hf1
  ·rename_i h1 h2 h3
   have h2:=Nat.eq_of_beq_eq_true h2
   have h3:=Nat.le_of_ble_eq_true h3
   obtain ⟨hc,h1c⟩:=jK (hev x.2) h1
   have hs:(ρ x.2).cells.size=o.2:=by rw [←h2,hc.1];simp
   have hz:o.1+o.2≤arr.size:=by have:=h.1;simp at this;omega
   have hfold:=zd9 o.1 (ρ x.2).cells.toList 0 arr (by simp;omega)
   have hfill:Instr.fill cplace arr ((x.1,ρ x.2)::ps.map fun x=>(x.1,ρ x.2))=Instr.fill cplace ((ρ x.2).cells.zipIdx.foldl (fun cs (x:Value × Nat)=>cs.setIfInBounds (o.1+x.2) x.1) arr) (ps.map fun x=>(x.1,ρ x.2)):=by
    rw [Instr.fill,hp _ _ ho]
    have e:((ρ x.2).cells.size≠o.2||o.1+(ρ x.2).cells.size>arr.size)=false:=by simp [hs];omega
    simp only [e]
    rfl
   have e2:((ρ x.2).cells.zipIdx.foldl (fun cs (x:Value × Nat)=>cs.setIfInBounds (o.1+x.2) x.1) arr).toList=arr.toList.take o.1++((ρ x.2).cells.toList++arr.toList.drop (o.1+o.2)):=by
    rw [←Array.foldl_toList,Array.toList_zipIdx,hfold]
    simp [hs]
   simp only [List.map_cons]
   rw [hfill]
   refine zaG hp hev ps ?_ hf1
   rw [e2]
   exact (h.take _).append (hc.append (h.drop _))
  ·cases hf1
theorem zcC:∀{l:List (Nat × Nat)},zfw l=true→∀x∈l,x.2≠0
 | [],_,x,hx=>by simp at hx
 | y::l,h,x,hx=>by
  simp only [zfw] at h
  split at h
  ·cases h
  ·rename_i hb
   rcases List.mem_cons.1 hx with rfl | hx
   ·intro e;rw [e] at hb;cases hb
   ·exact zcC h x hx
theorem zjL {fs:List Field} (h:∀f∈fs,P.cellsOf f.type≠0):fs.mapM (fun f=>(P.info? f.type).map fun i=>(f.offset,i.size))=some (fs.map fun f=>(f.offset,P.cellsOf f.type)):=by
 induction fs with
 | nil=>rfl
 | cons f fs ih=>
  have hf:=h f (by simp)
  cases hi:P.info? f.type with
  | none=>simp [Program.cellsOf,hi] at hf
  | some i=>
   have hc:P.cellsOf f.type=i.size:=by simp [Program.cellsOf,hi]
   simp [List.mapM_cons,hi,hc,ih (fun f hf=>h f (by simp [hf]))]
theorem zgG (hh:HRel rd φ O w0 σ w) {t:Nat} {v:AV} {ev:Operand→AV} {ρ:Operand→Value} (hev:∀x,VRel rd φ (ev x) (ρ x)) {parts:Array (Nat × Operand)}
  (ha:jN P t (parts.toList.map fun x=>(x.1,ev x.2))=some v):After0 rd φ O w0 σ v ((Instr.build t (parts.map fun (i,x)=>(i,ρ x))).run P w):=by
 unfold jN at ha
 obtain ⟨i,hi,ha1⟩:=Option.bind_eq_some_iff.1 ha
 obtain ⟨z,hz,ha2⟩:=Option.bind_eq_some_iff.1 ha1
 clear ha ha1
 obtain ⟨inf,dsc,h1,h2,h3,h4,h5,h6,h7,h8,h9,h10⟩:=xn hi
 rw [h6] at hz
 obtain ⟨zv,hzv,rfl⟩:=Option.map_eq_some_iff.1 hz
 have e0:(parts.map fun (x:Nat × Operand)=>(x.1,ρ x.2)).toList=parts.toList.map fun x=>(x.1,ρ x.2):=by simp
 split at ha2
 ·rename_i hk
  rw [h10] at hk
  cases dsc with
  | struct fs=>
   split at ha2
   ·rename_i hpos
    obtain ⟨cs',hf,rfl⟩:=Option.map_eq_some_iff.1 ha2
    rw [h7] at hf hpos
    have hpl:=zjL (P:=P) (fs:=fs.toList) (fun f hf=>zcC hpos (f.offset,P.cellsOf f.type) (List.mem_map.2 ⟨f,hf,rfl⟩))
    obtain ⟨arr',k1,k2⟩:=zaG (rd:=rd) (φ:=φ) (cplace:=fun k=>(fs.toList.map fun f=>(f.offset,P.cellsOf f.type)).toArray[k]?) (fun k o h=>by simpa using h) hev parts.toList (PW.absC zv.cells.toList) hf
    have hb:P.built t (parts.map fun (x:Nat × Operand)=>(x.1,ρ x.2)).toList=some arr':=by
     unfold Program.built
     rw [h1,h2]
     simp only [hzv,hpl,e0]
     exact k1
    exact .same hh (run_build w t _ arr' hb) (PW.agg k2)
   ·cases ha2
  | _=>simp [xe] at hk
 ·rename_i hk
  rw [h10] at hk
  cases dsc with
  | array n el=>
   obtain ⟨e,he,ha3⟩:=Option.bind_eq_some_iff.1 ha2
   obtain ⟨cs',hf,rfl⟩:=Option.map_eq_some_iff.1 ha3
   obtain ⟨inf',dsc',k1,k2,k3,_⟩:=xn he
   have h8':i.el=el:=h8
   rw [h8'] at k1
   obtain ⟨arr',m1,m2⟩:=zaG (rd:=rd) (φ:=φ) (cplace:=fun k=>some (k * inf'.size,inf'.size)) (fun k o h=>by rw [←h,k3]) hev parts.toList (PW.absC zv.cells.toList) hf
   have hb:P.built t (parts.map fun (x:Nat × Operand)=>(x.1,ρ x.2)).toList=some arr':=by
    unfold Program.built
    rw [h1,h2]
    simp only [hzv,k1,e0]
    exact m1
   exact .same hh (run_build w t _ arr' hb) (PW.agg m2)
  | _=>simp [xe] at hk
 ·cases ha2
def zsD (rd:RD) (φ:Phi) (sz:Nat) (es:List (List AV)) (arr:Array Value):Prop:=
 arr.size=es.length * sz∧(∀e∈es,e.length=sz)∧∀i j c,(es[i]?).bind (·[j]?)=some c→∃v,arr[i * sz+j]?=some v∧VRel rd φ c v
theorem za8 {sz:Nat} {ev:Operand→AV} {ρ:Operand→Value} (hev:∀x,VRel rd φ (ev x) (ρ x)):∀(ps:List (Nat × Operand)) {es es':List (List AV)} {arr:Array Value},zsD rd φ sz es arr→
  zfr sz es (ps.map fun x=>(x.1,ev x.2))=some es'→es'.length=es.length∧∃arr',Instr.fill (fun i=>some (i * sz,sz)) arr (ps.map fun x=>(x.1,ρ x.2))=some arr'∧zsD rd φ sz es' arr'
 | [],es,es',arr,h,hf=>by cases hf;exact ⟨rfl,arr,rfl,h⟩
 | x::ps,es,es',arr,h,hf=>by
  simp only [List.map_cons,zfr] at hf
  split at hf
  ·rename_i h1 h2 h3
   have h2:=Nat.eq_of_beq_eq_true h2
   have h3:x.1<es.length:=Nat.le_of_ble_eq_true h3
   obtain ⟨hc,h1c⟩:=jK (hev x.2) h1
   have hs:(ρ x.2).cells.size=sz:=by rw [←h2,hc.1];simp
   have hz:x.1 * sz+sz≤arr.size:=by
    rw [h.1]
    have:=Nat.mul_le_mul_right sz (show x.1+1≤es.length from h3)
    rwa [Nat.succ_mul] at this
   have hfold:=zd9 (x.1 * sz) (ρ x.2).cells.toList 0 arr (by simp;omega)
   have hfill:Instr.fill (fun i=>some (i * sz,sz)) arr ((x.1,ρ x.2)::ps.map fun x=>(x.1,ρ x.2))=Instr.fill (fun i=>some (i * sz,sz)) ((ρ x.2).cells.zipIdx.foldl (fun cs (y:Value × Nat)=>cs.setIfInBounds (x.1 * sz+y.2) y.1) arr) (ps.map fun x=>(x.1,ρ x.2)):=by
    rw [Instr.fill]
    have e:((ρ x.2).cells.size≠sz||x.1 * sz+(ρ x.2).cells.size>arr.size)=false:=by simp [hs];omega
    simp only [e]
    rfl
   have e2:((ρ x.2).cells.zipIdx.foldl (fun cs (y:Value × Nat)=>cs.setIfInBounds (x.1 * sz+y.2) y.1) arr).toList=arr.toList.take (x.1 * sz)++((ρ x.2).cells.toList++arr.toList.drop (x.1 * sz+sz)):=by
    rw [←Array.foldl_toList,Array.toList_zipIdx,hfold]
    simp [hs]
   generalize (ρ x.2).cells.zipIdx.foldl (fun cs (y:Value × Nat)=>cs.setIfInBounds (x.1 * sz+y.2) y.1) arr=arr1 at hfill e2
   have hflat:zsD rd φ sz (es.set x.1 (yB (ev x.2))) arr1:=by
    have hsz1:arr1.size=arr.size:=by
     have:=congrArg List.length e2
     simp only [Array.length_toList,List.length_append,List.length_take,List.length_drop] at this
     omega
    refine ⟨by rw [hsz1,h.1];simp,fun e he=>?_,fun i j c hcc=>?_⟩
    ·rcases List.mem_or_eq_of_mem_set he with he | rfl
     ·exact h.2.1 e he
     ·exact h2
    ·have hget:∀k:Nat,arr1[k]?=arr1.toList[k]?:=fun k=>(Array.getElem?_toList ..).symm
     rw [hget,e2]
     by_cases hi:x.1=i
     ·subst hi
      rw [List.getElem?_set_self h3,Option.bind_some] at hcc
      obtain ⟨v,hv,hr⟩:=hc.2 j c hcc
      refine ⟨v,?_,hr⟩
      have hj:j<(ρ x.2).cells.toList.length:=by
       rcases Nat.lt_or_ge j (ρ x.2).cells.toList.length with hx | hx
       ·exact hx
       ·rw [List.getElem?_eq_none hx] at hv;cases hv
      rw [List.getElem?_append_right (by simp;omega),List.getElem?_append_left (by simp at hj ⊢;omega)]
      rw [←hv]
      congr 1
      simp
      omega
     ·rw [List.getElem?_set_ne hi] at hcc
      obtain ⟨v,hv,hr⟩:=h.2.2 i j c hcc
      refine ⟨v,?_,hr⟩
      have hj:j<sz:=by
       cases he:es[i]? with
       | none=>rw [he] at hcc;cases hcc
       | some e=>
        rw [he] at hcc
        rw [←h.2.1 e (List.mem_of_getElem? he)]
        rcases Nat.lt_or_ge j e.length with hx | hx
        ·exact hx
        ·rw [Option.bind_some,List.getElem?_eq_none hx] at hcc;cases hcc
      rcases Nat.lt_or_gt_of_ne hi with hx | hx
      ·have hm:=Nat.mul_le_mul_right sz (show x.1+1≤i from hx)
       rw [Nat.succ_mul] at hm
       rw [List.getElem?_append_right (by simp;omega),List.getElem?_append_right (by simp;omega),List.getElem?_drop,←hv]
       have:arr[i * sz+j]?=arr.toList[i * sz+j]?:=by simp
       rw [this]
       congr 1
       simp
       omega
      ·have hm:=Nat.mul_le_mul_right sz (show i+1≤x.1 from hx)
       rw [Nat.succ_mul] at hm
       rw [List.getElem?_append_left (by simp;omega),List.getElem?_take,if_pos (by omega),←hv]
       simp
   simp only [List.map_cons]
   rw [hfill]
   obtain ⟨l1,l2⟩:=za8 hev ps hflat hf
   exact ⟨by simpa using l1,l2⟩
  ·cases hf
theorem za7 {t len:Nat} {ev:Operand→AV} {ρ:Operand→Value} (hev:∀x,VRel rd φ (ev x) (ρ x)) {parts:Array (Nat × Operand)} {x:Nat × List (List AV)}
  (ha:jA P t len (parts.toList.map fun x=>(x.1,ev x.2))=some x):∃(arr:Array Value) (T:TypeId),x.2.length=len∧zsD rd φ x.1 x.2 arr∧1≤x.1∧
   (Instr.buildSlice t len (parts.map fun (i,x)=>(i,ρ x))).run P w=.ok (.slice (some ⟨w.heap.size,0,none⟩) len len) (w.alloc (.cells arr T)):=by
 unfold jA at ha
 obtain ⟨i,hi,ha1⟩:=Option.bind_eq_some_iff.1 ha
 obtain ⟨e,he,ha2⟩:=Option.bind_eq_some_iff.1 ha1
 obtain ⟨z,hz,ha3⟩:=Option.bind_eq_some_iff.1 ha2
 clear ha ha1 ha2
 split at ha3
 ·rename_i hk hb1 hb2 hb3
  obtain ⟨es,hf,rfl⟩:=Option.map_eq_some_iff.1 ha3
  have hb1:=Nat.eq_of_beq_eq_true hb1
  have hb2:=Nat.le_of_ble_eq_true hb2
  have hb3:=Nat.le_of_ble_eq_true hb3
  have hu:=yg hi hk
  obtain ⟨inf,dsc,e1,e2,e3,e4,e5,e6,-⟩:=xn he
  rw [e6] at hz
  obtain ⟨zv,hzv,rfl⟩:=Option.map_eq_some_iff.1 hz
  have hzs:zv.cells.size=e.sz:=by simpa using hb1
  have e0:(parts.map fun (x:Nat × Operand)=>(x.1,ρ x.2)).toList=parts.toList.map fun x=>(x.1,ρ x.2):=by simp
  have hflat0:zsD rd φ e.sz (List.replicate len (zv.cells.toList.map absC)) ((Array.range (len * e.sz)).map (zv.cells[·%zv.cells.size]!)):=by
   refine ⟨by simp,fun x hx=>by rw [(List.mem_replicate.1 hx).2];simpa using hzs,fun a b c hc=>?_⟩
   rw [List.getElem?_replicate] at hc
   split at hc
   ·rename_i hlt
    simp only [Option.bind_some] at hc
    obtain ⟨u,hu,hr⟩:=(PW.absC (rd:=rd) (φ:=φ) zv.cells.toList).2 b c hc
    have hb:b<zv.cells.size:=by
     rcases Nat.lt_or_ge b zv.cells.size with hx | hx
     ·exact hx
     ·rw [List.getElem?_eq_none (by simpa using hx)] at hu;cases hu
    refine ⟨u,?_,hr⟩
    have h1:a * e.sz+b<len * e.sz:=by
     have:=Nat.mul_le_mul_right e.sz (show a+1≤len from hlt)
     rw [Nat.succ_mul] at this
     omega
    have h2:(a * e.sz+b)%zv.cells.size=b:=by rw [hzs,Nat.mul_comm,Nat.mul_add_mod];exact Nat.mod_eq_of_lt (by omega)
    have hu':zv.cells[b]?=some u:=by simpa using hu
    simp only [Array.getElem?_map,Array.getElem?_range,if_pos h1,Option.map_some,h2]
    rw [getElem!_pos zv.cells b hb]
    rw [Array.getElem?_eq_getElem hb] at hu'
    exact hu'
   ·cases hc
  obtain ⟨l1,arr,l2,l3⟩:=za8 hev parts.toList hflat0 hf
  refine ⟨arr,i.el,by simpa using l1,l3,hb2,?_⟩
  have hlim:¬len * e.sz>2 ^ 24:=by omega
  by_cases hz0:len * e.sz=0
  ·have:len=0:=by
    rcases Nat.mul_eq_zero.1 hz0 with h | h
    ·exact h
    ·omega
   subst this
   have hr0:Array.range 0=#[]:=rfl
   rw [Nat.zero_mul,hr0] at l2
   have l2':Instr.fill (fun i=>some (i * e.sz,e.sz)) #[] (parts.toList.map fun x=>(x.1,ρ x.2))=some arr:=by simpa using l2
   simp [Instr.buildSlice,run_underlying hu,yV he,newRow,hr0,l2']
  ·have l2':Instr.fill (fun i=>some (i * e.sz,e.sz)) ((Array.range (len * e.sz)).map (zv.cells[·%zv.cells.size]!)) (parts.toList.map fun x=>(x.1,ρ x.2))=some arr:=l2
   have hlim':¬16777216<len * e.sz:=by omega
   have hz1:¬(len=0∨e.sz=0):=fun hh=>hz0 (Nat.mul_eq_zero.2 hh)
   have hz2:(zeroValue i.el).run P w=.ok zv w:=by simp [zeroValue,typeInfo,e1,hzv]
   simp only [Instr.buildSlice,Sem.run_bind,run_underlying hu,yV he,Result.andThen_ok]
   rw [if_neg (show ¬len * e.sz>2 ^ 24 by omega),if_neg hz0]
   simp only [Sem.run_bind,hz2,Result.andThen_ok,Sem.run_pure,e0,l2']
   simp [newRow]
 ·cases ha3
theorem HRel.newRo (h:HRel rd φ O w0 σ w) (arr:Array Value) (T:TypeId):∃rd',Ext O w0 rd rd'∧HRel rd' φ O w0 σ (w.alloc (.cells arr T))∧(∀o,rd' w.heap.size o=arr[o]?):=by
 have hlt:∀{r g p row pl b q},zo σ r g p=some row→φ r g p=some pl→pl.ad=some (b,q)→b<w.heap.size:=fun h1 h2 h3=>(h.own _ _ _ _ _ _ _ h1 h2 h3).2
 have hnew:∀k,(w.alloc (.cells arr T)).cell? (mkA w.heap.size k)=arr[k]?:=by
  intro k
  show (match (w.heap.push _)[w.heap.size]? with | some (.cells c _ _)=>if (mkA w.heap.size k).spot.isSome then none else c[k]? | _=>none)=_
  rw [Array.getElem?_push_size]
  rfl
 have hno:∀o,rd w.heap.size o=none:=fun o=>by
  cases hr:rd w.heap.size o with
  | none=>rfl
  | some v=>exact absurd (ql (w:=w) (b:=w.heap.size) (k:=o) (by rw [h.rdok _ _ _ hr];rfl)) (Nat.lt_irrefl _)
 refine ⟨fun b o=>if b=w.heap.size then arr[o]? else rd b o,⟨fun b o v e=>?_,fun b o hb hOb=>?_⟩,⟨?_,h.sep,?_,?_,?_,?_,?_,h.os,h.tape,h.output⟩,fun o=>if_pos rfl⟩
 ·show (if b=w.heap.size then arr[o]? else rd b o)=some v
  split
  ·rename_i hb;subst hb;rw [hno] at e;cases e
  ·exact e
 ·refine if_neg ?_
  have:=h.size
  omega
 ·intro r g p row hr
  obtain ⟨pl,h1,h2⟩:=h.rows _ _ _ _ hr
  refine ⟨pl,h1,?_⟩
  have hm:=h2.of_same (w':=w.alloc (.cells arr T)) (fun b q had k=>⟨yf (hlt hr h1 had),yX (hlt hr h1 had)⟩) fun b q had es ck e=>by rw [Below.heap_alloc _ _ _ (hlt hr h1 had)];exact e
  exact hm.mono (fun b o v e=>by
   show (if b=w.heap.size then arr[o]? else rd b o)=some v
   split
   ·rename_i hb;subst hb;rw [hno] at e;cases e
   ·exact e) (fun _ _ _ _ h=>h)
 ·intro b o v e
  replace e:(if b=w.heap.size then arr[o]? else rd b o)=some v:=e
  split at e
  ·rename_i hb;subst hb;rw [hnew];exact e
  ·have:=h.rdok b o v e
   rw [yf (ql (by rw [this];rfl))]
   exact this
 ·intro r g p row pl b q h1 h2 h3 k hor
  refine (if_neg (by have:=hlt h1 h2 h3;omega)).trans ?_
  exact h.rdsep _ _ _ _ _ _ _ h1 h2 h3 k hor
 ·intro r g p row pl b q h1 h2 h3
  rw [World.size_alloc]
  obtain ⟨ha,hb⟩:=h.own _ _ _ _ _ _ _ h1 h2 h3
  exact ⟨ha,by omega⟩
 ·intro b hb hO
  rw [Below.heap_alloc _ _ _ (Nat.lt_of_lt_of_le hb h.size)]
  exact h.frame b hb hO
 ·rw [World.size_alloc];exact Nat.le_succ_of_le h.size
end
section
variable {P:Program} {rd:RD} {φ:Phi} {O:Nat→Prop} {w0 w:World} {σ:Sig} {d G:Nat}
theorem zel (h:HRel rd φ O w0 σ w) {t len:Nat} {v:AV} {ev:Operand→AV} {ρ:Operand→Value} (hev:∀x,VRel rd φ (ev x) (ρ x)) {parts:Array (Nat × Operand)}
  (ha:xI P t len (parts.toList.map fun x=>(x.1,ev x.2))=some v):∃cv w' rd',(Instr.buildSlice t len (parts.map fun (i,x)=>(i,ρ x))).run P w=.ok cv w'∧Ext O w0 rd rd'∧HRel rd' φ O w0 σ w'∧VRel rd' φ v cv:=by
 unfold xI at ha
 obtain ⟨x,hx,ha1⟩:=Option.bind_eq_some_iff.1 ha
 split at ha1
 ·rename_i hfl
  have hfl:=Nat.le_of_ble_eq_true hfl
  cases ha1
  obtain ⟨arr,T,h1,h2,h3,h4⟩:=za7 (P:=P) (w:=w) hev hx
  obtain ⟨rd',k1,k2,k3⟩:=h.newRo arr T
  refine ⟨_,_,rd',h4,k1,k2,?_⟩
  have hcell:∀i j c,(x.2[i]?).bind (·[j]?)=some c→sfc c=true∧∃v,arr[i * x.1+j]?=some v∧VRel rd φ c v:=by
   intro i j c hc
   refine ⟨?_,h2.2.2 i j c hc⟩
   cases he:x.2[i]? with
   | none=>rw [he] at hc;cases hc
   | some e=>rw [he] at hc;exact (zeb e (List.mem_of_getElem? he)).1 hfl c (List.mem_of_getElem? hc)
  have:=VRel.ro (rd:=rd') (φ:=φ) x.1 x.2 w.heap.size 0 len (fun i j=>(arr[i * x.1+j]?).getD undef) (by omega) (fun i j c hc=>(hcell i j c hc).1)
   (fun i j c hc=>by obtain ⟨_,v,hv,_⟩:=hcell i j c hc;rw [k3,Nat.zero_add,hv];rfl)
   (fun i j c hc=>by obtain ⟨_,v,hv,hr⟩:=hcell i j c hc;rw [hv];exact hr.mono k1.1 (fun _ _ _ _ h=>h))
  rw [h1] at this
  exact this
 ·cases ha1
theorem za6:∀{es:List (List AV)} {l:List UInt8} {news:List Value},qT es=some l→news.length=es.length→(∀i j c,(es[i]?).bind (·[j]?)=some c→∃v,news[i * 1+j]?=some v∧VRel rd φ c v)→
  ∃ns:List Int,news=ns.map (Value.int .u8)∧l=ns.map fun n=>UInt8.ofNat n.toNat
 | [],l,news,hb,hl,h=>by cases hb;exact ⟨[],by simpa using List.eq_nil_of_length_eq_zero hl,rfl⟩
 | e::es,l,news,hb,hl,h=>by
  unfold qT at hb
  split at hb
  ·rename_i heq;cases heq
  ·rename_i n es' heq
   cases heq
   obtain ⟨l',hb',rfl⟩:=Option.map_eq_some_iff.1 hb
   cases news with
   | nil=>simp at hl
   | cons v news=>
    obtain ⟨u,hu,hr⟩:=h 0 0 _ rfl
    simp only [Nat.zero_mul,Nat.add_zero,List.getElem?_cons_zero,Option.some.injEq] at hu
    subst hu
    have hv:=zY hr
    obtain ⟨ns,h1,h2⟩:=za6 (news:=news) hb' (by simpa using hl) (fun i j c hc=>by
     have:=h (i+1) j c (by simpa using hc)
     rwa [show (i+1) * 1+j=(i * 1+j)+1 by omega,List.getElem?_cons_succ] at this)
    exact ⟨n::ns,by rw [List.map_cons,hv,h1],by rw [List.map_cons,h2]⟩
  ·cases hb
theorem zk5 (h:HRel rd φ O w0 σ w) {s dst:Nat} (hd:tk P dst=some .string) {x v:AV} {cx:Value} (hs:tk P s=some .slice) (hx:VRel rd φ x cx) (ha:zhH P σ s x=some v):After0 rd φ O w0 σ v ((convert s dst cx).run P w):=by
 unfold zhH at ha
 obtain ⟨i,hi,ha1⟩:=Option.bind_eq_some_iff.1 ha
 split at ha1
 ·rename_i hel
  obtain ⟨es,hes,ha2⟩:=Option.bind_eq_some_iff.1 ha1
  obtain ⟨l,hl,rfl⟩:=Option.map_eq_some_iff.1 ha2
  have hu:P.underlying s=some (.slice i.el):=by
   obtain ⟨i',hi',hk'⟩:=zcJ hs
   rw [hi] at hi'
   cases hi'
   exact yg hi hk'
  have he:P.underlying i.el=some (.int .u8):=by
   obtain ⟨e,he,hk⟩:=zcJ hel
   obtain ⟨dsc,h1,h2,_⟩:=yO he
   rw [hk] at h2
   cases dsc<;>simp [xe] at h2
   rw [h1,h2]
  have hdd:=ji hd
  obtain ⟨news,k1,k2,k3,k4,k6,k5⟩:=we h hx hes
  obtain ⟨ns,m1,m2⟩:=za6 hl (by rw [k1.newsLen,Nat.mul_one]) k2
  have hform:∃A n cap,cx=.slice A n cap:=by
   unfold zfU at hes
   split at hes
   ·cases hx;exact ⟨_,_,_,rfl⟩
   ·cases hx<;>exact ⟨_,_,_,rfl⟩
   ·cases hx;exact ⟨_,_,_,rfl⟩
   ·rename_i hk;rw [hs] at hk;cases hk
   ·cases hes
  obtain ⟨A,n,cap,rfl⟩:=hform
  have hn:=k1.len w
  simp only [Builtin.lenOf,Sem.run_pure,Result.ok.injEq,and_true] at hn
  subst hn
  cases A with
  | none=>
   have hc:=k1.cells
   simp only [Builtin.firstCells,Sem.run_pure,Result.ok.injEq,and_true] at hc
   have hne:news=[]:=by simpa using hc.symm
   have hns:ns=[]:=by rw [m1] at hne;simpa using hne
   subst hns
   refine .same h (cv:=.string ByteArray.empty) (run_convert_bytes_nil w s i.el hu he _ _ dst hdd) ?_
   rw [m2]
   exact .sc _ rfl
  | some a=>
   have hc:=k1.cells
   simp only [Builtin.firstCells,Nat.mul_one] at hc
   rw [m1] at hc
   have:=run_bytesToString (P:=P) w a _ cap ns hc
   refine .same h (cv:=.string _) (by rw [run_convert_bytes_string w s dst i.el _ _ cap hu he hdd];exact this) ?_
   rw [foldl_push_bytes,m2]
   have e:(⟨ByteArray.empty.data++(ns.map fun n=>UInt8.ofNat n.toNat).toArray⟩:ByteArray)=⟨(ns.map fun n=>UInt8.ofNat n.toNat).toArray⟩:=by
    congr 1
    show #[]++_=_
    simp
   rw [e]
   exact .sc _ rfl
 ·cases ha1
end
end Go.Proofs.YtpjpkmhaffmbmaaGreat.E
end
section
namespace Go.Proofs.YtpjpkmhaffmbmaaGreat.E
open Go Go.RowKit
set_option linter.unusedVariables false
def xR (P:Program) (d G:Nat) (ev:Operand→AV) (σ:Sig):Op→Option (AV × Sig)
 | .move x=>some (ev x,σ)
 | .assign x=>some (ev x,σ)
 | .pick c a b=>(zep (ev c) (ev a) (ev b)).map fun v=>(v,σ)
 | .alloc t=>zam P d G σ t
 | .box t x=>zfB P d G σ t (ev x)
 | .load t a=>(wB P σ t (ev a)).map fun v=>(v,σ)
 | .store t a x=>(jL P σ t (ev a) (ev x)).map fun σ'=>(.dead,σ')
 | .fieldAddr t x f=>(xw P t (ev x) f).map fun v=>(v,σ)
 | .extract x i=>(qz (ev x) i).map fun v=>(v,σ)
 | .nilCheck x=>(qU (ev x)).map fun v=>(v,σ)
 | .binOp op t x y _=>(zfC P op t (ev x) (ev y)).map fun v=>(v,σ)
 | .unOp op _ x=>(zld op (ev x)).map fun v=>(v,σ)
 | .convert s t x=>(zbr P σ s t (ev x)).map fun v=>(v,σ)
 | .slice t x lo hi mx=>(jM P t (ev x) (lo.map ev) (hi.map ev) (mx.map ev)).map fun v=>(v,σ)
 | .index t x y=>(zak P t (ev x) (ev y)).map fun v=>(v,σ)
 | .field t x f=>(zal P t (ev x) f).map fun v=>(v,σ)
 | .build t parts=>(jN P t (parts.toList.map fun x=>(x.1,ev x.2))).map fun v=>(v,σ)
 | .buildSlice t len parts=>(xI P t len (parts.toList.map fun x=>(x.1,ev x.2))).map fun v=>(v,σ)
 | .indexAddr t x y=>(xv P σ t (ev x) (ev y)).map fun v=>(v,σ)
 | .makeSlice t l c=>zcG P d G σ t (ev l) (ev c)
 | .call c=>match c.callee,c.args.toList,c.argTypes.toList with
  | .builtin .len,[x],[t]=>(zfz P t (ev x)).map fun v=>(v,σ)
  | .builtin .min,[x,y],_=>(zhD (ev x) (ev y)).map fun v=>(v,σ)
  | .builtin .max,[x,y],_=>(zhE (ev x) (ev y)).map fun v=>(v,σ)
  | _,_,_=>none
 | _=>none
section
variable {P:Program} {rd:RD} {φ:Phi} {O:Nat→Prop} {w0 w:World} {σ:Sig} {d G:Nat}
def zek:Op→Bool
 | .alloc _ | .box .. | .makeSlice ..=>true
 | _=>false
def zcI (rd:RD) (φ:Phi) (O:Nat→Prop) (w0:World) (d G:Nat) (b:Bool) (σ':Sig) (v:AV) (r:Result Next):Prop:=
 ∃nx cv w' rd' φ',r=.ok nx w'∧(nx=.value cv∨(nx=.skip∧cv=undef))∧Ext O w0 rd rd'∧HRel rd' φ' O w0 σ' w'∧VRel rd' φ' v cv∧(∀r g p pl,φ r g p=some pl→φ' r g p=some pl)∧(∀r g p,φ' r g p≠none→φ r g p≠none∨(b=true∧r=d∧g=G))
theorem After.next {σ':Sig} {v:AV} {s:Sem Value} (h:After rd φ O w0 d G σ' v (s.run P w)):zcI rd φ O w0 d G true σ' v ((do pure (.value (←s)):Sem Next).run P w):=by
 obtain ⟨cv,w',φ',h1,h2,h3,h4,h5⟩:=h
 exact ⟨.value cv,cv,w',rd,φ',by rw [Sem.run_bind,h1];rfl,.inl rfl,.refl,h2,h3,h4,fun r g p hp=>(h5 r g p hp).imp id fun h=>⟨rfl,h⟩⟩
theorem After0.next {σ':Sig} {v:AV} {b:Bool} {s:Sem Value} (h:After0 rd φ O w0 σ' v (s.run P w)):zcI rd φ O w0 d G b σ' v ((do pure (.value (←s)):Sem Next).run P w):=by
 obtain ⟨cv,w',h1,h2,h3⟩:=h
 exact ⟨.value cv,cv,w',rd,φ,by rw [Sem.run_bind,h1];rfl,.inl rfl,.refl,h2,h3,fun _ _ _ _ h=>h,fun _ _ _ h=>.inl h⟩
theorem zgR (h:HRel rd φ O w0 σ w) (hfr:∀p,φ d G p=none) {ev:Operand→AV} {ρ:Operand→Value} (hev:∀x,VRel rd φ (ev x) (ρ x)) {o:Oper} {v:AV} {σ':Sig}
  (ha:xR P d G ev σ o.op=some (v,σ')):zcI rd φ O w0 d G (zek o.op) σ' v ((execOp ρ o).run P w):=by
 have hN:∀{a b:AV × Sig},some a=some b→a=b:=fun e=>Option.some.inj e
 unfold execOp
 cases hop:o.op with
 | move x=>
  rw [hop] at ha
  cases ha
  exact ⟨_,_,w,rd,φ,rfl,.inl rfl,.refl,h,hev x,fun _ _ _ _ h=>h,fun _ _ _ h=>.inl h⟩
 | assign x=>
  rw [hop] at ha
  cases ha
  exact ⟨_,_,w,rd,φ,rfl,.inl rfl,.refl,h,hev x,fun _ _ _ _ h=>h,fun _ _ _ h=>.inl h⟩
 | pick c a b=>
  rw [hop] at ha
  simp only [xR] at ha
  obtain ⟨u,hu,e⟩:=Option.map_eq_some_iff.1 ha
  cases e
  unfold zep at hu
  have hc:=hev c
  split at hu
  ·rename_i heq
   rw [heq] at hc
   cases hu
   exact ⟨_,_,w,rd,φ,by simp [zY hc,asBool],.inl rfl,.refl,h,hev a,fun _ _ _ _ h=>h,fun _ _ _ h=>.inl h⟩
  ·rename_i heq
   rw [heq] at hc
   cases hu
   exact ⟨_,_,w,rd,φ,by simp [zY hc,asBool],.inl rfl,.refl,h,hev b,fun _ _ _ _ h=>h,fun _ _ _ h=>.inl h⟩
  ·cases hu
 | alloc t=>
  rw [hop] at ha
  exact (zgN h hfr ha _).next
 | box t x=>
  rw [hop] at ha
  exact (zk0 h hfr (hev x) ha).next
 | load t a=>
  rw [hop] at ha
  obtain ⟨u,hu,e⟩:=Option.map_eq_some_iff.1 ha
  cases e
  exact (zib h (hev a) hu).next
 | store t a x=>
  rw [hop] at ha
  obtain ⟨u,hu,e⟩:=Option.map_eq_some_iff.1 ha
  cases e
  obtain ⟨w',rd',h1,hx,h2⟩:=zfS h (hev a) (hev x) hu
  exact ⟨.skip,undef,w',rd',φ,by simp only [Sem.run_bind,h1];rfl,.inr ⟨rfl,rfl⟩,hx,h2,.dead _,fun _ _ _ _ h=>h,fun _ _ _ h=>.inl h⟩
 | fieldAddr t x f=>
  rw [hop] at ha
  obtain ⟨u,hu,e⟩:=Option.map_eq_some_iff.1 ha
  cases e
  exact (zcs h (hev x) hu).next
 | extract x i=>
  rw [hop] at ha
  obtain ⟨u,hu,e⟩:=Option.map_eq_some_iff.1 ha
  cases e
  exact (zed h (hev x) hu).next
 | nilCheck x=>
  rw [hop] at ha
  obtain ⟨u,hu,e⟩:=Option.map_eq_some_iff.1 ha
  cases e
  have hx:=hev x
  unfold qU at hu
  split at hu
  ·rename_i heq
   rw [heq] at hx
   cases hu
   cases hc:ρ x with
   | pointer A=>
    cases A with
    | none=>rw [hc] at hx;cases hx
    | some A=>rw [hc] at hx;exact ⟨_,_,w,rd,φ,by simp only [hc];rfl,.inl rfl,.refl,h,hx,fun _ _ _ _ h=>h,fun _ _ _ h=>.inl h⟩
   | _=>rw [hc] at hx;cases hx
  ·rename_i heq
   rw [heq] at hx
   cases hu
   cases hc:ρ x with
   | pointer A=>
    cases A with
    | none=>rw [hc] at hx;cases hx
    | some A=>rw [hc] at hx;exact ⟨_,_,w,rd,φ,by simp only [hc];rfl,.inl rfl,.refl,h,hx,fun _ _ _ _ h=>h,fun _ _ _ h=>.inl h⟩
   | _=>rw [hc] at hx;cases hx
  ·cases hu
 | binOp op t x y yt=>
  rw [hop] at ha
  obtain ⟨u,hu,e⟩:=Option.map_eq_some_iff.1 ha
  cases e
  exact (zk2 h (hev x) (hev y) hu).next
 | unOp op t x=>
  rw [hop] at ha
  obtain ⟨u,hu,e⟩:=Option.map_eq_some_iff.1 ha
  cases e
  exact (zlB h (hev x) hu).next
 | convert s t x=>
  rw [hop] at ha
  obtain ⟨u,hu,e⟩:=Option.map_eq_some_iff.1 ha
  cases e
  unfold zbr at hu
  split at hu
  ·rename_i h1 h2
   exact (zk5 h h2 h1 (hev x) hu).next
  ·exact (zir h (hev x) hu).next
 | slice t x lo hi mx=>
  rw [hop] at ha
  obtain ⟨u,hu,e⟩:=Option.map_eq_some_iff.1 ha
  cases e
  have aux:∀(o:Option Operand) (a:AV),o.map ev=some a→∃c,o.map ρ=some c∧VRel rd φ a c:=by
   intro o a h
   cases o with
   | none=>cases h
   | some x=>cases h;exact ⟨_,rfl,hev x⟩
  have auxn:∀(o:Option Operand),o.map ev=none→o.map ρ=none:=by
   intro o h
   cases o with
   | none=>rfl
   | some x=>cases h
  exact (zfV h (hev x) (aux lo) (auxn lo) (aux hi) (auxn hi) (auxn mx) hu).next
 | index t x y=>
  rw [hop] at ha
  obtain ⟨u,hu,e⟩:=Option.map_eq_some_iff.1 ha
  cases e
  exact (zgk h (hev x) (hev y) hu).next
 | field t x f=>
  rw [hop] at ha
  obtain ⟨u,hu,e⟩:=Option.map_eq_some_iff.1 ha
  cases e
  exact (zgx h (hev x) hu).next
 | build t parts=>
  rw [hop] at ha
  obtain ⟨u,hu,e⟩:=Option.map_eq_some_iff.1 ha
  cases e
  exact (zgG h hev hu).next
 | buildSlice t len parts=>
  rw [hop] at ha
  obtain ⟨u,hu,e⟩:=Option.map_eq_some_iff.1 ha
  cases e
  obtain ⟨cv,w',rd',h1,h2,h3,h4⟩:=zel h hev hu
  exact ⟨.value cv,cv,w',rd',φ,by simp only [Sem.run_bind,h1,Result.andThen_ok,Sem.run_pure],.inl rfl,h2,h3,h4,fun _ _ _ _ h=>h,fun _ _ _ h=>.inl h⟩
 | indexAddr t x y=>
  rw [hop] at ha
  obtain ⟨u,hu,e⟩:=Option.map_eq_some_iff.1 ha
  cases e
  exact (zcj h (hev x) (hev y) hu).next
 | makeSlice t l c=>
  rw [hop] at ha
  exact (zh5 h hfr (hev l) (hev c) ha).next
 | call c=>
  rw [hop] at ha
  simp only [xR] at ha
  split at ha
  ·rename_i x t hcal hargs hts
   obtain ⟨u,hu,e⟩:=Option.map_eq_some_iff.1 ha
   cases e
   have h1:c.args=#[x]:=by rw [←Array.toList_inj,hargs]
   have h2:c.argTypes=#[t]:=by rw [←Array.toList_inj,hts]
   have key:=(zkf h (hev x) hu c.argTypes (by rw [h2];rfl) o.type (c.args.map ρ) (by rw [h1];simp)).next (d:=d) (G:=G) (b:=zek (.call c))
   simp only [resolve,hcal]
   exact key
  ·rename_i x y hcal hargs
   obtain ⟨u,hu,e⟩:=Option.map_eq_some_iff.1 ha
   cases e
   have h1:c.args=#[x,y]:=by rw [←Array.toList_inj,hargs]
   unfold zhD at hu
   split at hu
   ·rename_i k a k' b ha' hb'
    have e1:=hev x
    have e2:=hev y
    rw [ha'] at e1
    rw [hb'] at e2
    cases hu
    have c1:=zY e1
    have c2:=zY e2
    refine ⟨.value (.int k (min a b)),.int k (min a b),w,rd,φ,?_,.inl rfl,.refl,h,.sc _ rfl,fun _ _ _ _ h=>h,fun _ _ _ h=>.inl h⟩
    have e3:(min a b:Int)=if b<a then b else a:=by omega
    simp [resolve,hcal,h1,invoke,builtin,Builtin.min_,c1,c2,Builtin.min2,e3]
   ·cases hu
  ·rename_i x y hcal hargs
   obtain ⟨u,hu,e⟩:=Option.map_eq_some_iff.1 ha
   cases e
   have h1:c.args=#[x,y]:=by rw [←Array.toList_inj,hargs]
   unfold zhE at hu
   split at hu
   ·rename_i k a k' b ha' hb'
    have e1:=hev x
    have e2:=hev y
    rw [ha'] at e1
    rw [hb'] at e2
    cases hu
    have c1:=zY e1
    have c2:=zY e2
    refine ⟨.value (.int k (max a b)),.int k (max a b),w,rd,φ,?_,.inl rfl,.refl,h,.sc _ rfl,fun _ _ _ _ h=>h,fun _ _ _ h=>.inl h⟩
    have e3:(max a b:Int)=if b>a then b else a:=by omega
    simp [resolve,hcal,h1,invoke,builtin,Builtin.max_,c1,c2,Builtin.max2,e3]
   ·cases hu
  ·cases ha
 | _=>rw [hop] at ha;cases ha
end
structure St where
 n:Nat
 tm:List (Nat × AV)
 σ:Sig
 G:Nat
def ev (s:St):Operand→AV
 | .tmp t=>match zz s.tm t with
  | some v=>v
  | none=>.dead
 | .const v=>znF v
 | .func f=>.sc (.func (.func f) #[] #[])
 | .global _=>.dead
structure Rel (rd:RD) (φ:Phi) (O:Nat→Prop) (w0:World) (s:St) (a:Act) (w:World):Prop where
 heap:HRel rd φ O w0 s.σ w
 tm:∀t v,zz s.tm t=some v→VRel rd φ v (a.tmps.getD t undef)
 size:a.tmps.size=s.n
 defers:a.defers=[]
 gen:∀r g p,φ r g p≠none→g<s.G
abbrev zcX:=RD × Phi
def ExtE (O:Nat→Prop) (w0:World) (E:zcX) (rd:RD) (φ:Phi):Prop:=Ext O w0 E.1 rd∧∀r p pl,E.2 r 0 p=some pl→1000000≤r→φ r 0 p=some pl
theorem ExtE.refl {O:Nat→Prop} {w0:World} {rd:RD} {φ:Phi}:ExtE O w0 (rd,φ) rd φ:=⟨.refl,fun _ _ _ h _=>h⟩
theorem ExtE.step {O:Nat→Prop} {w0:World} {E:zcX} {rd rd':RD} {φ φ':Phi} (h:ExtE O w0 E rd φ) (hx:Ext O w0 rd rd') (hφ:∀r g p pl,φ r g p=some pl→φ' r g p=some pl):ExtE O w0 E rd' φ':=
 ⟨h.1.trans hx,fun r p pl e hr=>hφ _ _ _ _ (h.2 r p pl e hr)⟩
def zan (E:zcX) (O:Nat→Prop) (w0:World) (s:St) (a:Act) (w:World):Prop:=∃rd' φ,ExtE O w0 E rd' φ∧Rel rd' φ O w0 s a w
def bmp:Bool→Nat→Nat
 | true,G=>G+1
 | false,G=>G
def put (s:St) (dst:Option Nat) (v:AV) (σ:Sig) (b:Bool) (K:St→Prop):Prop:=
 match dst with
 | none=>K ⟨s.n,s.tm,σ,bmp b s.G⟩
 | some d=>match Nat.blt d s.n with
  | true=>K ⟨s.n,(d,v)::s.tm,σ,bmp b s.G⟩
  | false=>False
section
variable {P:Program} {rd:RD} {φ:Phi} {O:Nat→Prop} {w0 w:World} {s:St} {a:Act}
theorem Rel.ev (h:Rel rd φ O w0 s a w) (x:Operand):VRel rd φ (ev s x) (a.eval x):=by
 cases x with
 | tmp t=>
  simp only [E.ev,Act.eval]
  cases hl:zz s.tm t with
  | none=>exact .dead _
  | some v=>exact h.tm t v hl
 | const v=>exact zen v
 | func f=>exact .sc _ rfl
 | global g=>exact .dead _
theorem zbo (a:Act) (d t:Nat) (v:Value) (hd:d<a.tmps.size):(a.put (some d) v).tmps.getD t undef=if t=d then v else a.tmps.getD t undef:=by
 simp only [Act.put,Array.getD_eq_getD_getElem?,Array.getElem?_setIfInBounds]
 by_cases h:t=d
 ·subst h;simp [hd]
 ·have h':¬d=t:=fun e=>h e.symm
  simp [h,h']
theorem Rel.put (h:Rel rd φ O w0 s a w) {dst:Option Nat} {v:AV} {σ:Sig} {b:Bool} {K:St→Prop} (hk:E.put s dst v σ b K) {rd':RD} (hx:∀b o v,rd b o=some v→rd' b o=some v) {φ':Phi} {w':World} {cv:Value} (hh:HRel rd' φ' O w0 σ w')
  (hv:VRel rd' φ' v cv) (h4:∀r g p pl,φ r g p=some pl→φ' r g p=some pl) (h5:∀r g p,φ' r g p≠none→φ r g p≠none∨(b=true∧r=dst.getD 0∧g=s.G)):
  ∃s',K s'∧Rel rd' φ' O w0 s' (a.put dst cv) w':=by
 have hg:∀r g p,φ' r g p≠none→g<bmp b s.G:=fun r g p hp=>(h5 r g p hp).elim (fun h'=>by have:=h.gen r g p h';cases b<;>simp only [bmp]<;>omega) (fun ⟨hb,_,h'⟩=>by subst hb;simp only [bmp];omega)
 unfold E.put at hk
 cases dst with
 | none=>exact ⟨_,hk,hh,fun t v hl=>(h.tm t v hl).mono hx h4,h.size,h.defers,hg⟩
 | some d=>
  simp only at hk
  split at hk
  ·rename_i hd
   have hd:d<s.n:=Nat.le_of_ble_eq_true hd
   refine ⟨_,hk,hh,fun t u hl=>?_,by simp [Act.put,h.size],h.defers,hg⟩
   rw [zbo _ _ _ _ (by rw [h.size];exact hd)]
   simp only [zA] at hl
   by_cases ht:d=t
   ·rw [if_pos ht] at hl
    rw [if_pos ht.symm]
    cases hl
    exact hv
   ·rw [if_neg ht] at hl
    rw [if_neg (fun e=>ht e.symm)]
    exact (h.tm t u hl).mono hx h4
  ·exact hk.elim
end
def jO:List (List Nat × Row)→jQ
 | [],_=>none
 | (q,row)::l,p=>if p=q then some row else jO l p
def wE:List (List Nat × Row)→Sig
 | []=>[]
 | l=>[(0,(0,jO l))]
def zcK (ψ:List Nat→Option Pl):Phi:=fun r g p=>match r,g with
 | 0,0=>ψ p
 | _,_=>none
def zls (P:Program) (n:Nat):Prop:=∃fn,P.funcs[n]?=some fn∧(fn.name== "runtime.NumGoroutine")=false∧fn.body.isNone=false
def CallR (P:Program) (n:Nat) (args:List AV) (res:AV) (rf:List (List Nat × Row)):Prop:=
 zls P n∧∀(w:World) (rd:RD) (cargs:Array Value),(∀b o v,rd b o=some v→w.cell? (mkA b o)=some v)→PW rd (fun _ _ _=>none) args cargs.toList→
  Calls P n cargs w fun e w'=>∃v rd' ψ,e=.returned v∧Ext (fun _=>False) w rd rd'∧HRel rd' (zcK ψ) (fun _=>False) w (wE rf) w'∧VRel rd' (zcK ψ) res v
def nmC (d G:Nat):AV→AV
 | .blk _ _ p sz off len=>.blk d G p sz off len
 | .ptr _ _ p sz i o=>.ptr d G p sz i o
 | .mr _ _ p=>.mr d G p
 | .agg _ | .tup _=>.dead
 | v=>v
def nmA (d G:Nat):AV→AV
 | .agg cs=>.agg (cs.map (nmC d G))
 | v=>nmC d G v
def nm (d G:Nat):AV→AV
 | .tup vs=>.tup (vs.map (nmA d G))
 | v=>nmA d G v
def zjr (rf:List (List Nat × Row)):Bool:=rf.all fun x=>Nat.ble 1 x.2.fl
def zfF (σ:Sig) (d G:Nat) (rf:List (List Nat × Row)):Sig:=
 match rf with
 | []=>σ
 | rf=>yD σ d (G,jO rf)
def Br (b:Bool) (X Y:Prop):Prop:=match b with
 | true=>X
 | false=>Y
theorem qW {X Y:Prop}:Br true X Y=X:=rfl
theorem xG {X Y:Prop}:Br false X Y=Y:=rfl
theorem Br_congr {b b':Bool} {X Y:Prop} (h:b=b'):Br b X Y=Br b' X Y:=by rw [h]
theorem zmN {b:Bool} {X Y:Prop} (h:b=true→X) (k:b=false→Y):Br b X Y:=by
 cases b with
 | true=>exact h rfl
 | false=>exact k rfl
def zu {α:Type} (x:Option α) (K:α→Prop):Prop:=match x with
 | some v=>K v
 | none=>False
theorem zga {α:Type} {v:α} {K:α→Prop}:zu (some v) K=K v:=rfl
theorem zm1 {α:Type} {x x':Option α} {K:α→Prop} (h:x=x'):zu x K=zu x' K:=by rw [h]
theorem zq {α:Type} {x:Option α} {K:α→Prop} (h:zu x K):∃v,x=some v∧K v:=by
 cases x with
 | none=>cases h
 | some v=>exact ⟨v,rfl,h⟩
theorem zE {α:Type} {x:Option α} {K:α→Prop} {v:α} (e:x=some v) (h:K v):zu x K:=by rw [e];exact h
def Want (P:Program) (n:Nat) (args:List AV) (K:AV→List (List Nat × Row)→Prop):Prop:=∃res rf,CallR P n args res rf∧K res rf
theorem Want.intro {P:Program} {n:Nat} {args:List AV} {K:AV→List (List Nat × Row)→Prop} {res:AV} {rf:List (List Nat × Row)} (h:CallR P n args res rf) (k:K res rf):Want P n args K:=⟨res,rf,h,k⟩
theorem zql {P:Program} {n:Nat} {args args':List AV} {K:AV→List (List Nat × Row)→Prop} (h:args=args'):Want P n args K=Want P n args' K:=by rw [h]
def ziF (s:St) (dst:Option Nat) (b:Bool) (K:St→Prop) (x:AV × Sig):Prop:=put s dst x.1 x.2 b K
def zlo (s:St) (d:Option Nat) (K:St→Prop) (σ:Sig) (res:AV) (rf:List (List Nat × Row)):Prop:=
 zjr rf=true∧put s d (nm (d.getD 0) s.G res) (zfF σ (d.getD 0) s.G rf) true K
def WantK (P:Program) (s:St) (d:Option Nat) (n:Nat) (K:St→Prop) (x:Sig × List AV):Prop:=Want P n x.2 (zlo s d K x.1)
def zi3 (P:Program) (s:St) (o:Oper) (n:Nat) (args:List AV) (K:St→Prop):Prop:=
 zu (qx s.σ args) (WantK P s o.dst n K)
def vcOp (P:Program) (o:Oper) (s:St) (K:St→Prop):Prop:=
 match o.op with
 | .call c=>match c.callee with
  | .value (.func n)=>zi3 P s o n (c.args.toList.map (ev s)) K
  | _=>zu (xR P (o.dst.getD 0) s.G (ev s) s.σ o.op) (ziF s o.dst (zek o.op) K)
 | _=>zu (xR P (o.dst.getD 0) s.G (ev s) s.σ o.op) (ziF s o.dst (zek o.op) K)
def xt (ops:Array Oper) (j:Nat):Option Nat:=match ops[j]? with
 | some o=>o.dst
 | none=>none
def zqp (P:Program) (ops:Array Oper) (o:Oper) (s:St) (K:St→Prop):Prop:=
 match o.guard with
 | none=>vcOp P o s K
 | some (j,want)=>match xt ops j with
  | none=>False
  | some t=>match zz s.tm t with
   | some (.sc (.bool b))=>Br b (Br want (vcOp P o s K) (put s o.dst (.tup []) s.σ false K)) (Br want (put s o.dst (.tup []) s.σ false K) (vcOp P o s K))
   | some (.tup [])=>put s o.dst (.tup []) s.σ false K
   | _=>False
def vcOps (P:Program) (ops:Array Oper):List Oper→St→(St→Prop)→Prop
 | [],s,Q=>Q s
 | o::os,s,Q=>zqp P ops o s fun s'=>vcOps P ops os s' Q
section
variable {P:Program} {rd:RD} {φ:Phi} {O:Nat→Prop} {w0 w:World} {s:St} {a:Act}
theorem zjT {ψ:List Nat→Option Pl} {d G:Nat} {c:AV} {v:Value} (h:VRel rd (zcK ψ) c v):VRel rd (zB φ d G ψ) (nmC d G c) v:=by
 have h0:∀{r g:Nat} {p:List Nat} {pl:Pl},zcK ψ r g p=some pl→zB φ d G ψ d G p=some pl:=by
  intro r g p pl hp
  unfold zcK at hp
  split at hp
  ·simp [zB,hp]
  ·cases hp
 cases h with
 | blk r g p sz off len pl A hφ hA hl=>exact .blk d G p sz off len pl A (h0 hφ) hA hl
 | ptr r g p sz i o pl b q hφ had=>exact .ptr d G p sz i o pl b q (h0 hφ) had
 | dead v=>exact .dead v
 | sc v h=>exact .sc v h
 | nilS=>exact .nilS
 | ro0 sz A cap=>exact .ro0 sz A cap
 | ro sz es b q cap f hc hs hr hv=>exact (VRel.ro sz es b q cap f hc hs hr hv).of_sf rfl
 | rp cs b q f hs hr hv=>exact (VRel.rp cs b q f hs hr hv).of_sf rfl
 | agg=>exact .dead _
 | tup=>exact .dead _
 | it r=>exact .it r
 | mr r g p pl b hφ had=>exact .mr d G p pl b (h0 hφ) had
theorem PW.map {φ':Phi} {g:AV→AV} (hg:∀{c v},VRel rd φ c v→VRel rd φ' (g c) v) {cs:List AV} {vs:List Value} (h:PW rd φ cs vs):PW rd φ' (cs.map g) vs:=
 ⟨by simp [h.1],fun j c hc=>by
  rw [List.getElem?_map] at hc
  obtain ⟨c',hc',rfl⟩:=Option.map_eq_some_iff.1 hc
  obtain ⟨v,hv,hr⟩:=h.2 j c' hc'
  exact ⟨v,hv,hg hr⟩⟩
theorem zjU {ψ:List Nat→Option Pl} {d G:Nat} {c:AV} {v:Value} (h:VRel rd (zcK ψ) c v):VRel rd (zB φ d G ψ) (nmA d G c) v:=by
 cases c with
 | agg cs=>
  obtain ⟨arr,rfl,hp⟩:=PW.of_agg h
  exact PW.agg (hp.map zjT)
 | _=>exact zjT h
theorem zm6 {ψ:List Nat→Option Pl} {d G:Nat} {c:AV} {v:Value} (h:VRel rd (zcK ψ) c v):VRel rd (zB φ d G ψ) (nm d G c) v:=by
 cases c with
 | tup cs=>
  obtain ⟨arr,rfl,hp⟩:=PW.of_tup h
  exact PW.tup (hp.map zjU)
 | _=>exact zjU h
end
end Go.Proofs.YtpjpkmhaffmbmaaGreat.E
end
section
namespace Go.Proofs.YtpjpkmhaffmbmaaGreat.E
open Go Go.RowKit
set_option linter.unusedVariables false
section
variable {P:Program} {rd:RD} {φ:Phi} {O:Nat→Prop} {w0 w:World} {s:St} {a:Act}
theorem zcd {l:List (List Nat × Row)} {p:List Nat} {row:Row} (h:jO l p=some row):∃q,(q,row)∈l:=by
 induction l with
 | nil=>cases h
 | cons x l ih=>
  obtain ⟨q,r⟩:=x
  simp only [jO] at h
  split at h
  ·cases h;exact ⟨q,by simp⟩
  ·obtain ⟨q',hq⟩:=ih h;exact ⟨q',by simp [hq]⟩
theorem HRel.join {rd':RD} {σ:Sig} {w':World} {d G:Nat} {ψ:List Nat→Option Pl} {rf:List (List Nat × Row)} (h:HRel rd φ O w0 σ w) (hfr:∀p,φ d G p=none)
  (hx:Ext (fun _=>False) w rd rd') (k:HRel rd' (zcK ψ) (fun _=>False) w (wE rf) w')
  (hrow:∀p row,jO rf p=some row→1≤row.fl):
  HRel rd' (zB φ d G ψ) O w0 (zfF σ d G rf) w'∧(∀r g p pl,φ r g p=some pl→zB φ d G ψ r g p=some pl):=by
 have hext:∀r g p pl,φ r g p=some pl→zB φ d G ψ r g p=some pl:=by
  intro r g p pl hp
  unfold zB
  rw [if_neg (by rintro ⟨rfl,rfl⟩;rw [hfr] at hp;cases hp)]
  exact hp
 have hold:∀b,b<w.heap.size→w'.heap[b]?=w.heap[b]?:=fun b hb=>k.frame b hb (fun h=>h)
 have hcell:∀b q,b<w.heap.size→w'.cell? (mkA b q)=w.cell? (mkA b q):=fun b q hb=>World.cell?_of_block (hold b hb)
 have hfroz:∀b q,b<w.heap.size→w'.frozen? (mkA b q)=w.frozen? (mkA b q):=fun b q hb=>World.frozen?_of_block (hold b hb)
 have hat:∀p row,jO rf p=some row→zo (wE rf) 0 0 p=some row:=by
  intro p row hp
  cases rf with
  | nil=>cases hp
  | cons x l=>simp [zo,wE,zz,hp]
 have hcase:∀{r g p row},zo (zfF σ d G rf) r g p=some row→(d=r∧G=g∧jO rf p=some row)∨(zo σ r g p=some row∧(rf=[]∨r≠d)):=by
  intro r g p row hr
  cases rf with
  | nil=>exact .inr ⟨hr,.inl rfl⟩
  | cons x l=>
   simp only [zfF,yo] at hr
   by_cases hd:r=d
   ·rw [if_pos hd] at hr
    by_cases hg:G=g
    ·rw [if_pos hg] at hr;exact .inl ⟨hd.symm,hg,hr⟩
    ·rw [if_neg hg] at hr;cases hr
   ·rw [if_neg hd] at hr;exact .inr ⟨hr,.inr hd⟩
 have hphi:∀p,zB φ d G ψ d G p=ψ p:=fun p=>by simp [zB]
 have hphio:∀{r g p row},zo σ r g p=some row→zB φ d G ψ r g p=φ r g p:=by
  intro r g p row hr
  obtain ⟨pl,hp,_⟩:=h.rows _ _ _ _ hr
  rw [hext _ _ _ _ hp,hp]
 have hlt:∀{r g p row pl b q},zo σ r g p=some row→φ r g p=some pl→pl.ad=some (b,q)→b<w.heap.size:=fun h1 h2 h3=>(h.own _ _ _ _ _ _ _ h1 h2 h3).2
 have hnew:∀{p row pl b q},jO rf p=some row→ψ p=some pl→pl.ad=some (b,q)→w.heap.size≤b∧b<w'.heap.size:=by
  intro p row pl b q h1 h2 h3
  obtain ⟨h4,h5⟩:=k.own 0 0 p row pl b q (hat _ _ h1) (by simpa [zcK] using h2) h3
  exact ⟨h4.elim (fun h=>h.elim) id,h5⟩
 refine ⟨⟨?_,?_,?_,?_,?_,?_,?_,k.os.trans h.os,k.tape.trans h.tape,k.output.trans h.output⟩,hext⟩
 ·intro r g p row hr
  rcases hcase hr with ⟨rfl,rfl,hp⟩ | ⟨hr1,_⟩
  ·obtain ⟨pl,h1,h2⟩:=k.rows _ _ _ _ (hat _ _ hp)
   refine ⟨pl,by rw [hphi];simpa [zcK] using h1,h2.wide,h2.len,h2.kind,h2.nil,h2.room,fun b q had i j c hc=>?_,h2.frz,h2.mp⟩
   obtain ⟨v,hv,hrel⟩:=h2.cells b q had i j c hc
   refine ⟨v,hv,?_⟩
   have hf1:=hrow p row hp
   have hm:∃e∈row.es,c∈e:=by
    cases he:row.es[i]? with
    | none=>rw [he] at hc;cases hc
    | some e=>rw [he] at hc;exact ⟨e,List.mem_of_getElem? he,List.mem_of_getElem? hc⟩
   obtain ⟨e,he,hce⟩:=hm
   have hs:=(h2.kind e he).1 hf1 c hce
   have hsf:sf c=true:=by cases c<;>first | rfl | cases hs
   exact hrel.of_sf hsf
  ·obtain ⟨pl,h1,h2⟩:=h.rows _ _ _ _ hr1
   refine ⟨pl,hext _ _ _ _ h1,(h2.of_same (fun b q had k=>⟨hcell b k (hlt hr1 h1 had),hfroz b k (hlt hr1 h1 had)⟩) fun b q had es ck e=>by rw [k.frame b (hlt hr1 h1 had) (fun h=>h)];exact e).mono hx.1 hext⟩
 ·intro r g p row r' g' p' row' pl pl' b q q' h1 h2 h3 h4 h5 h6
  rcases hcase h1 with ⟨e3,e4,k1⟩ | ⟨k1,hd⟩<;>rcases hcase h2 with ⟨e1,e2,k2⟩ | ⟨k2,hd'⟩
  ·subst e1;subst e2;subst e3
   rw [←e4,hphi] at h3
   rw [hphi] at h4
   exact ⟨rfl,(k.sep 0 0 p row 0 0 p' row' pl pl' b q q' (hat _ _ k1) (hat _ _ k2) (by simpa [zcK] using h3) (by simpa [zcK] using h4) h5 h6).2⟩
  ·subst e3;subst e4
   rw [hphi] at h3
   rw [hphio k2] at h4
   have:=(hnew k1 h3 h5).1
   have:=hlt k2 h4 h6
   omega
  ·subst e1;subst e2
   rw [hphi] at h4
   rw [hphio k1] at h3
   have:=(hnew k2 h4 h6).1
   have:=hlt k1 h3 h5
   omega
  ·rw [hphio k1] at h3
   rw [hphio k2] at h4
   exact h.sep _ _ _ _ _ _ _ _ _ _ _ _ _ k1 k2 h3 h4 h5 h6
 ·exact k.rdok
 ·intro r g p row pl b q h1 h2 h3 i hor
  rcases hcase h1 with ⟨rfl,rfl,k1⟩ | ⟨k1,hd⟩
  ·rw [hphi] at h2
   exact k.rdsep 0 0 p row pl b q (hat _ _ k1) (by simpa [zcK] using h2) h3 i hor
  ·rw [hphio k1] at h2
   rw [hx.2 b i (hlt k1 h2 h3) (fun h=>h)]
   exact h.rdsep _ _ _ _ _ _ _ k1 h2 h3 i hor
 ·intro r g p row pl b q h1 h2 h3
  rcases hcase h1 with ⟨rfl,rfl,k1⟩ | ⟨k1,hd⟩
  ·rw [hphi] at h2
   obtain ⟨ha,hb⟩:=hnew k1 h2 h3
   exact ⟨.inr (Nat.le_trans h.size ha),hb⟩
  ·rw [hphio k1] at h2
   obtain ⟨ha,hb⟩:=h.own _ _ _ _ _ _ _ k1 h2 h3
   exact ⟨ha,Nat.lt_of_lt_of_le hb k.size⟩
 ·intro b hb hO
  rw [hold b (Nat.lt_of_lt_of_le hb h.size)]
  exact h.frame b hb hO
 ·exact Nat.le_trans h.size k.size
theorem zey {rd0:zcX} (hx0:ExtE O w0 rd0 rd φ) {o:Oper} {n:Nat} {args:List AV} {K:St→Prop} (h:Rel rd φ O w0 s a w) {cargs:Array Value} (hargs:PW rd φ args cargs.toList) (hv:zi3 P s o n args K):
  zls P n∧Calls P n cargs w fun e w'=>∃v s',e=.returned v∧K s'∧zan rd0 O w0 s' (a.put o.dst v) w':=by
 unfold zi3 at hv
 obtain ⟨⟨σ1,args'⟩,hl,hv⟩:=zq hv
 obtain ⟨res,rf,⟨hfn,hc⟩,hok,hk⟩:=hv
 refine ⟨hfn,?_⟩
 obtain ⟨rd1,x1,h1,l1⟩:=jt h.heap hargs hl
 have hfr:∀p,φ (o.dst.getD 0) s.G p=none:=fun p=>by
  cases hp:φ (o.dst.getD 0) s.G p with
  | none=>rfl
  | some x=>exact absurd (h.gen _ s.G p (by rw [hp];simp)) (Nat.lt_irrefl _)
 refine (hc w rd1 cargs h1.rdok (l1 _)).mono ?_
 rintro e w' ⟨v,rd',ψ,rfl,x2,h2,h4⟩
 obtain ⟨j1,j2⟩:=h1.join hfr x2 h2 (fun p row hp=>by
  obtain ⟨q,hq⟩:=zcd hp
  exact Nat.le_of_ble_eq_true (List.all_eq_true.1 hok _ hq))
 have hr:=zm6 (φ:=φ) (d:=o.dst.getD 0) (G:=s.G) h4
 have x3:Ext O w0 rd1 rd':=⟨x2.1,fun b k hb hO=>x2.2 b k (Nat.lt_of_lt_of_le hb h1.size) (fun h=>h)⟩
 obtain ⟨s',hs,hrel⟩:=h.put hk (x1.trans x3).1 j1 hr j2 (fun r g p hp=>(yC r g p hp).imp id fun h=>⟨rfl,h⟩)
 exact ⟨v,s',rfl,hs,rd',_,hx0.step (x1.trans x3) j2,hrel⟩
abbrev zao (rd:zcX) (O:Nat→Prop) (w0:World) (Q:Exit→St→Prop):Exit→Act→World→Prop:=fun e a w=>∃s,Q e s∧zan rd O w0 s a w
theorem Rel.known (h:Rel rd φ O w0 s a w) {t:Nat} {b:Bool} (hl:zz s.tm t=some (.sc (.bool b))):
  a.tmps[t]?=some (.bool b)∧Rel rd φ O w0 ⟨s.n,(t,.sc (.bool b))::s.tm,s.σ,s.G⟩ a w:=by
 have hv:=zY (h.tm t _ hl)
 have hlt:t<a.tmps.size:=by
  rcases Nat.lt_or_ge t a.tmps.size with hx | hx
  ·exact hx
  ·simp [Array.getElem?_eq_none hx,undef] at hv
 refine ⟨?_,h.heap,fun t' v hl'=>?_,h.size,h.defers,h.gen⟩
 ·have:a.tmps.getD t undef=a.tmps[t]:=by simp [hlt]
  rw [this] at hv
  rw [Array.getElem?_eq_getElem hlt,hv]
 ·simp only [zA] at hl'
  split at hl'
  ·rename_i e
   subst e
   cases hl'
   exact h.tm _ _ hl
  ·exact h.tm _ _ hl'
end
end Go.Proofs.YtpjpkmhaffmbmaaGreat.E
end
