/- Contracts: a message read, in the specification. -/
import Derived.Test.YtpjpkmhaffmbmaaGreatQ5
namespace Go.Proofs.YtpjpkmhaffmbmaaGreat.E
open Go Go.RowKit
set_option maxHeartbeats 4000000
set_option maxRecDepth 10000
set_option linter.unusedSimpArgs false
set_option linter.unusedVariables false
set_option linter.unusedSectionVars false
def dcD4:Dec:=⟨[(63,.cm [true,false,false,false]),(65,.cm [true]),(66,.cm [true,false]),(67,.cm [true,false,false])],[9,10,11],[22,30,37,38,39,40,49,56,76,80,87,141,143,159,237,250,259],false⟩
structure MMsg where
 kind:Int
 session:Int
 from_:Int
 size:Int
 root:MDig
 count:Int
 proof:List MDig
 leaves:List ByteArray
def MMsg.zero:MMsg:=⟨0,0,0,0,⟨0,0,0,0⟩,0,[],[]⟩
def zw (s:ByteArray):List AV:=[vS s]
def MMsg.av (m:MMsg) (q:List Nat):AV:=.agg [vI m.kind,vI m.session,vI m.from_,vI m.size,vU m.root.a,vU m.root.b,vU m.root.c,vU m.root.d,vI m.count,.blk 0 0 (q++[9]) 4 0 m.proof.length,.blk 0 0 (q++[10]) 1 0 m.leaves.length]
def MMsg.rf (m:MMsg) (q:List Nat):List (List Nat × Row):=[(q++[9],⟨4,m.proof.map MDig.cs,2,false⟩),(q++[10],⟨1,m.leaves.map zw,2,false⟩)]
attribute [go_sem] MMsg.av MMsg.rf zw
structure RdOK (text:ByteArray) (r:MRd):Prop where
 t:r.t=text
 p:r.p≤text.size
theorem RdOK.raw {text:ByteArray} {r:MRd} (h:RdOK text r) (n:Nat):RdOK text (xS r n).2:=by
 unfold xS
 split
 ·split
  ·exact ⟨h.t,h.p⟩
  ·exact ⟨h.t,by have:=h.t;subst this;show r.p+n≤_;omega⟩
 ·exact h
theorem RdOK.num {text:ByteArray} {r:MRd} (h:RdOK text r) (n:Nat) (a b:Int):RdOK text (yq r n a b).2:=by
 have:=h.raw n
 unfold yq
 split
 ·split
  ·exact this
  ·exact ⟨this.t,this.p⟩
 ·exact this
theorem RdOK.dig {text:ByteArray} {r:MRd} (h:RdOK text r):RdOK text (xL r).2:=h.raw 32
def yP:Nat→MRd→List MDig × MRd
 | 0,r=>([],r)
 | n+1,r=>((yP n r).1++[(xL (yP n r).2).1],(xL (yP n r).2).2)
def zbd (r:MRd):ByteArray × MRd:=xS (yq r 1 0 40).2 (yq r 1 0 40).1.toNat
def zP:Nat→MRd→List ByteArray × MRd
 | 0,r=>([],r)
 | n+1,r=>((zP n r).1++[(zbd (zP n r).2).1],(zbd (zP n r).2).2)
theorem RdOK.digs {text:ByteArray} {r:MRd} (h:RdOK text r) (n:Nat):RdOK text (yP n r).2:=by
 induction n with
 | zero=>exact h
 | succ n ih=>exact ih.dig
theorem RdOK.leafs {text:ByteArray} {r:MRd} (h:RdOK text r) (n:Nat):RdOK text (zP n r).2:=by
 induction n with
 | zero=>exact h
 | succ n ih=>exact (ih.num 1 0 40).raw _
def pS (x:MRd × MMsg):MRd × MMsg:=((yq x.1 3 1 1000000).2,{x.2 with session:=(yq x.1 3 1 1000000).1})
def pF (x:MRd × MMsg):MRd × MMsg:=((yq x.1 2 0 256).2,{x.2 with from_:=(yq x.1 2 0 256).1})
def pZ (x:MRd × MMsg):MRd × MMsg:=((yq x.1 2 0 256).2,{x.2 with size:=(yq x.1 2 0 256).1})
def pR (x:MRd × MMsg):MRd × MMsg:=((xL x.1).2,{x.2 with root:=(xL x.1).1})
def pC (x:MRd × MMsg):MRd × MMsg:=((yq x.1 1 1 8).2,{x.2 with count:=(yq x.1 1 1 8).1})
def pP (x:MRd × MMsg):MRd × MMsg:=((yP (yq x.1 1 0 16).1.toNat (yq x.1 1 0 16).2).2,{x.2 with proof:=(yP (yq x.1 1 0 16).1.toNat (yq x.1 1 0 16).2).1})
def pL (x:MRd × MMsg):MRd × MMsg:=((zP (yq x.1 1 0 8).1.toNat (yq x.1 1 0 8).2).2,{x.2 with leaves:=(zP (yq x.1 1 0 8).1.toNat (yq x.1 1 0 8).2).1})
def xu (k:Nat) (x:MRd × MMsg):MRd × MMsg:=match k with
 | 1=>pS x
 | 2=>pR (pZ (pS x))
 | 3=>pR (pZ (pS x))
 | 4=>pZ (pF x)
 | 5=>pP (pZ (pF x))
 | 6=>pR (pZ (pS x))
 | 7=>pC (pF x)
 | 8=>pL (pF x)
 | _=>x
def xo (text:ByteArray) (x:MRd × MMsg):MMsg × Int × Int:=
 if x.1.code=0 then (if x.1.p<text.size then (.zero,4,x.1.p) else (x.2,0,0)) else (.zero,x.1.code,x.1.at_)
def zj (text:ByteArray):MMsg × Int × Int:=
 if text.size=0 then (.zero,2,0) else if 1≤bN text 0∧bN text 0≤8 then xo text (xu (bN text 0) (⟨text,1,0,0⟩,{MMsg.zero with kind:=bN text 0})) else (.zero,1,0)
theorem zcb (i:Nat) (r:MRd):(yP i r).1.length=i:=by
 induction i with
 | zero=>rfl
 | succ i ih=>simp [yP,ih]
theorem zaA (i:Nat) (r:MRd):(zP i r).1.length=i:=by
 induction i with
 | zero=>rfl
 | succ i ih=>simp [zP,ih]
theorem MDig.wide (l:List MDig):qc 4 (l.map MDig.cs)=true:=by
 induction l with
 | nil=>rfl
 | cons a l ih=>simp only [List.map_cons,qc,ih,MDig.cs];rfl
theorem MDig.flat (l:List MDig):flL (l.map MDig.cs)=2:=by
 induction l with
 | nil=>rfl
 | cons a l ih=>simp only [List.map_cons,flL,ih,MDig.cs];rfl
theorem zkh (l:List ByteArray):qc 1 (l.map zw)=true:=by
 induction l with
 | nil=>rfl
 | cons a l ih=>simp only [List.map_cons,qc,ih,zw];rfl
theorem zki (l:List ByteArray):flL (l.map zw)=2:=by
 induction l with
 | nil=>rfl
 | cons a l ih=>simp only [List.map_cons,flL,ih,zw];rfl
theorem zeA {α β:Type} (f:α→β) (l:List α):List.take l.length (l.map f)=l.map f:=List.take_of_length_le (by simp)
theorem zfk {α:Type} (n:Nat) (x:α):List.drop n (List.replicate n x)=[]:=List.drop_of_length_le (by simp)
attribute [go_sem] MDig.wide MDig.flat zkh zki zeA zfk
theorem zbS {a b:Nat} (h:a * b≤140737488355328) (hb:1≤b):a≤maxLen:=by
 have:a * 1≤a * b:=Nat.mul_le_mul_left a hb
 unfold maxLen;omega
theorem zK {α:Type} {E:α→List AV} {l:List α} {xs:List (List AV)} {b n:Nat} (hn:(l.length+xs.length)≤n) (h:n * b≤140737488355328) (hb:1≤b):(l.map E++xs).length≤maxLen∧(l.map E++xs).length * b≤140737488355328:=by
 have e:(l.map E++xs).length=l.length+xs.length:=by simp
 rw [e]
 have:=Nat.mul_le_mul_right b hn
 exact ⟨zbS (by omega) hb,by omega⟩
theorem jn (r:MRd) (n:Nat) (b:Int) (hb:0≤b):0≤(yq r n 0 b).1∧(yq r n 0 b).1≤b:=by
 unfold yq
 split
 ·split
  ·rename_i h1 h
   simp only [mIn,Bool.and_eq_true,decide_eq_true_eq] at h
   exact h
  ·exact ⟨Int.le_refl _,hb⟩
 ·exact ⟨Int.le_refl _,hb⟩
theorem jR:(⟨#[]⟩:ByteArray).toList=[]:=by
 simp [ByteArray.toList,ByteArray.toList.loop,ByteArray.size]
theorem tl_1 (a:UInt8):(⟨#[a]⟩:ByteArray).toList=[a]:=by
 simp [ByteArray.toList,ByteArray.toList.loop,ByteArray.size,ByteArray.get!]
theorem tl_2 (a b:UInt8):(⟨#[a,b]⟩:ByteArray).toList=[a,b]:=by
 simp [ByteArray.toList,ByteArray.toList.loop,ByteArray.size,ByteArray.get!]
theorem zqu (a b c:UInt8):(⟨#[a,b,c]⟩:ByteArray).toList=[a,b,c]:=by
 simp [ByteArray.toList,ByteArray.toList.loop,ByteArray.size,ByteArray.get!]
theorem znE {s:ByteArray} (h:0<s.size):bN (s.extract 0 1) 0=bN s 0:=by
 have h':0<s.data.size:=h
 show (((s.extract 0 1).data[0]!).toNat)=(s.data[0]!).toNat
 rw [ByteArray.data_extract,getElem!_def,getElem!_def,Array.getElem?_extract]
 have h2:0<min 1 s.data.size:=by omega
 simp [h2]
 split<;>simp_all
theorem zh8 {text:ByteArray} (h:0<text.size) (h1:1≤bN text 0∧bN text 0≤8):yq ⟨text,0,0,0⟩ 1 1 8=((bN text 0:Int),⟨text,1,0,0⟩):=by
 have hr:xS ⟨text,0,0,0⟩ 1=(text.extract 0 1,⟨text,1,0,0⟩):=by
  unfold xS
  rw [if_pos rfl,if_neg (show ¬0+1>text.size by omega)]
 have hs:(text.extract 0 1).size=1:=by rw [ByteArray.size_extract];omega
 unfold yq
 rw [hr]
 simp only [hs,zcL,Nat.mul_zero,Nat.zero_add,znE h,if_true]
 rw [if_pos]
 simp [mIn]
 omega
theorem zph (text:ByteArray) (ht:text.size≤1000000000000):CallR Tryz.prog 16 [vS text] (.tup [(zj text).1.av [0],.agg [vI (zj text).2.1,vI (zj text).2.2]]) ((zj text).1.rf [0]):=by
 refine zl dcD4 false Tryz.f16 ?_
 conv=>enter [1];reduce
 refine jvR Tryz.f16 116 [.cell 2 58,.cell 3 60] (by kernel_rfl) (by decide +kernel) rfl ?_
 simp -implicitDefEqProofs only [go_sem]
 refine zi (fun h=>?_) (fun h=>?_)
 ·have h':text.size=0:=by simpa using h
  simp -implicitDefEqProofs only [go_sem,h,zj,h',MMsg.zero]
  rfl
 ·have h':¬text.size=0:=by simpa using h
  have hg:=qQ (s:=text) (i:=0) (by omega)
  have hb:=zgM text 0
  have w1:IntKind.i64.wrap (bN text 0:Int)=(bN text 0:Int):=wrS (by omega)
  simp -implicitDefEqProofs only [go_sem,h,hg,w1]
  refine Want.intro (zmE _) ?_
  simp -implicitDefEqProofs only [go_sem]
  by_cases hin:1≤bN text 0∧bN text 0≤8
  ·have hf:=zh8 (text:=text) (by omega) hin
   have r1:RdOK text ⟨text,1,0,0⟩:=⟨rfl,by show 1≤text.size;omega⟩
   have hk:bN text 0=1∨bN text 0=2∨bN text 0=3∨bN text 0=4∨bN text 0=5∨bN text 0=6∨bN text 0=7∨bN text 0=8:=by omega
   rcases hk with hk | hk | hk | hk | hk | hk | hk | hk
   ·have hH:l5H (bN text 0:Int)=⟨#[115]⟩:=by rw [hk];rfl
    have hP:∀x,xu (bN text 0) x=pS x:=fun x=>by rw [hk];rfl
    have he:((⟨#[115]⟩:ByteArray).toList==(⟨#[]⟩:ByteArray).toList)=false:=by rw [tl_1,jR];rfl
    simp -implicitDefEqProofs only [go_sem,hH,he]
    refine WantM.intro (xz ⟨text,0,0,0⟩ 1 1 8 (by omega) (Nat.zero_le _) ht) ?_
    simp -implicitDefEqProofs only [go_sem,hf]
    repeat (refine Want.intro (by first | exact zh _ 115 (by decide) | exact zh _ 102 (by decide) | exact zh _ 110 (by decide) | exact zh _ 114 (by decide) | exact zh _ 99 (by decide) | exact zh _ 112 (by decide) | exact zh _ 108 (by decide)) ?_;simp -implicitDefEqProofs only [go_sem])
    refine WantM.intro (xz ⟨text,1,0,0⟩ 3 1 1000000 (by omega) r1.p ht) ?_
    have r2:=r1.num 3 1 1000000
    generalize hn2:yq ⟨text,1,0,0⟩ 3 1 1000000=x at *
    obtain ⟨v2,t2,p2,c2,a2⟩:=x
    have ht2:t2=text:=r2.t
    subst t2
    simp -implicitDefEqProofs only [go_sem]
    repeat (refine Want.intro (by first | exact zh _ 115 (by decide) | exact zh _ 102 (by decide) | exact zh _ 110 (by decide) | exact zh _ 114 (by decide) | exact zh _ 99 (by decide) | exact zh _ 112 (by decide) | exact zh _ 108 (by decide)) ?_;simp -implicitDefEqProofs only [go_sem])
    have hM:zj text=xo text (⟨text,p2,c2,a2⟩,⟨bN text 0,v2,0,0,⟨0,0,0,0⟩,0,[],[]⟩):=by
     unfold zj
     rw [if_neg h',if_pos hin,hP]
     simp only [pS,pF,pZ,pR,pC,hn2]
     rfl
    refine zi (fun h=>?_) (fun h=>?_)
    ·have hp:p2<text.size:=by have:=of_decide_eq_true h;omega
     simp -implicitDefEqProofs only [go_sem,h]
     refine WantM.intro (zcV ⟨text,p2,c2,a2⟩ 4 p2) ?_
     by_cases hc:c2=0
     ·simp -implicitDefEqProofs only [go_sem,qi,hM,xo,hc,hp,MMsg.zero]
      try rfl
     ·have hc2:(c2 != 0)=true:=by simpa using hc
      simp -implicitDefEqProofs only [go_sem,qi,hM,xo,hc,hc2,hp,MMsg.zero]
      try rfl
    ·have hp:¬p2<text.size:=by have:=of_decide_eq_false h;omega
     by_cases hc:c2=0
     ·subst hc
      simp -implicitDefEqProofs only [go_sem,h,hM,xo,hp,MMsg.zero]
      try rfl
     ·have hc2:(c2 != 0)=true:=by simpa using hc
      simp -implicitDefEqProofs only [go_sem,h,hM,xo,hc,hc2,hp,MMsg.zero]
      try rfl
   ·have hH:l5H (bN text 0:Int)=⟨#[115,110,114]⟩:=by rw [hk];rfl
    have hP:∀x,xu (bN text 0) x=pR (pZ (pS x)):=fun x=>by rw [hk];rfl
    have he:((⟨#[115,110,114]⟩:ByteArray).toList==(⟨#[]⟩:ByteArray).toList)=false:=by rw [zqu,jR];rfl
    simp -implicitDefEqProofs only [go_sem,hH,he]
    refine WantM.intro (xz ⟨text,0,0,0⟩ 1 1 8 (by omega) (Nat.zero_le _) ht) ?_
    simp -implicitDefEqProofs only [go_sem,hf]
    repeat (refine Want.intro (by first | exact zh _ 115 (by decide) | exact zh _ 102 (by decide) | exact zh _ 110 (by decide) | exact zh _ 114 (by decide) | exact zh _ 99 (by decide) | exact zh _ 112 (by decide) | exact zh _ 108 (by decide)) ?_;simp -implicitDefEqProofs only [go_sem])
    refine WantM.intro (xz ⟨text,1,0,0⟩ 3 1 1000000 (by omega) r1.p ht) ?_
    have r2:=r1.num 3 1 1000000
    generalize hn2:yq ⟨text,1,0,0⟩ 3 1 1000000=x at *
    obtain ⟨v2,t2,p2,c2,a2⟩:=x
    have ht2:t2=text:=r2.t
    subst t2
    simp -implicitDefEqProofs only [go_sem]
    repeat (refine Want.intro (by first | exact zh _ 115 (by decide) | exact zh _ 102 (by decide) | exact zh _ 110 (by decide) | exact zh _ 114 (by decide) | exact zh _ 99 (by decide) | exact zh _ 112 (by decide) | exact zh _ 108 (by decide)) ?_;simp -implicitDefEqProofs only [go_sem])
    refine WantM.intro (xz ⟨text,p2,c2,a2⟩ 2 0 256 (by omega) r2.p ht) ?_
    have r3:=r2.num 2 0 256
    generalize hn3:yq ⟨text,p2,c2,a2⟩ 2 0 256=x at *
    obtain ⟨v3,t3,p3,c3,a3⟩:=x
    have ht3:t3=text:=r3.t
    subst t3
    simp -implicitDefEqProofs only [go_sem]
    repeat (refine Want.intro (by first | exact zh _ 115 (by decide) | exact zh _ 102 (by decide) | exact zh _ 110 (by decide) | exact zh _ 114 (by decide) | exact zh _ 99 (by decide) | exact zh _ 112 (by decide) | exact zh _ 108 (by decide)) ?_;simp -implicitDefEqProofs only [go_sem])
    refine WantM.intro (zmD ⟨text,p3,c3,a3⟩ r3.p ht) ?_
    have r4:=r3.dig
    generalize hn4:xL ⟨text,p3,c3,a3⟩=x at *
    obtain ⟨⟨va4,vb4,vc4,vd4⟩,t4,p4,c4,a4⟩:=x
    have ht4:t4=text:=r4.t
    subst t4
    simp -implicitDefEqProofs only [go_sem]
    repeat (refine Want.intro (by first | exact zh _ 115 (by decide) | exact zh _ 102 (by decide) | exact zh _ 110 (by decide) | exact zh _ 114 (by decide) | exact zh _ 99 (by decide) | exact zh _ 112 (by decide) | exact zh _ 108 (by decide)) ?_;simp -implicitDefEqProofs only [go_sem])
    have hM:zj text=xo text (⟨text,p4,c4,a4⟩,⟨bN text 0,v2,0,v3,⟨va4,vb4,vc4,vd4⟩,0,[],[]⟩):=by
     unfold zj
     rw [if_neg h',if_pos hin,hP]
     simp only [pS,pF,pZ,pR,pC,hn2,hn3,hn4]
     rfl
    refine zi (fun h=>?_) (fun h=>?_)
    ·have hp:p4<text.size:=by have:=of_decide_eq_true h;omega
     simp -implicitDefEqProofs only [go_sem,h]
     refine WantM.intro (zcV ⟨text,p4,c4,a4⟩ 4 p4) ?_
     by_cases hc:c4=0
     ·simp -implicitDefEqProofs only [go_sem,qi,hM,xo,hc,hp,MMsg.zero]
      try rfl
     ·have hc2:(c4 != 0)=true:=by simpa using hc
      simp -implicitDefEqProofs only [go_sem,qi,hM,xo,hc,hc2,hp,MMsg.zero]
      try rfl
    ·have hp:¬p4<text.size:=by have:=of_decide_eq_false h;omega
     by_cases hc:c4=0
     ·subst hc
      simp -implicitDefEqProofs only [go_sem,h,hM,xo,hp,MMsg.zero]
      try rfl
     ·have hc2:(c4 != 0)=true:=by simpa using hc
      simp -implicitDefEqProofs only [go_sem,h,hM,xo,hc,hc2,hp,MMsg.zero]
      try rfl
   ·have hH:l5H (bN text 0:Int)=⟨#[115,110,114]⟩:=by rw [hk];rfl
    have hP:∀x,xu (bN text 0) x=pR (pZ (pS x)):=fun x=>by rw [hk];rfl
    have he:((⟨#[115,110,114]⟩:ByteArray).toList==(⟨#[]⟩:ByteArray).toList)=false:=by rw [zqu,jR];rfl
    simp -implicitDefEqProofs only [go_sem,hH,he]
    refine WantM.intro (xz ⟨text,0,0,0⟩ 1 1 8 (by omega) (Nat.zero_le _) ht) ?_
    simp -implicitDefEqProofs only [go_sem,hf]
    repeat (refine Want.intro (by first | exact zh _ 115 (by decide) | exact zh _ 102 (by decide) | exact zh _ 110 (by decide) | exact zh _ 114 (by decide) | exact zh _ 99 (by decide) | exact zh _ 112 (by decide) | exact zh _ 108 (by decide)) ?_;simp -implicitDefEqProofs only [go_sem])
    refine WantM.intro (xz ⟨text,1,0,0⟩ 3 1 1000000 (by omega) r1.p ht) ?_
    have r2:=r1.num 3 1 1000000
    generalize hn2:yq ⟨text,1,0,0⟩ 3 1 1000000=x at *
    obtain ⟨v2,t2,p2,c2,a2⟩:=x
    have ht2:t2=text:=r2.t
    subst t2
    simp -implicitDefEqProofs only [go_sem]
    repeat (refine Want.intro (by first | exact zh _ 115 (by decide) | exact zh _ 102 (by decide) | exact zh _ 110 (by decide) | exact zh _ 114 (by decide) | exact zh _ 99 (by decide) | exact zh _ 112 (by decide) | exact zh _ 108 (by decide)) ?_;simp -implicitDefEqProofs only [go_sem])
    refine WantM.intro (xz ⟨text,p2,c2,a2⟩ 2 0 256 (by omega) r2.p ht) ?_
    have r3:=r2.num 2 0 256
    generalize hn3:yq ⟨text,p2,c2,a2⟩ 2 0 256=x at *
    obtain ⟨v3,t3,p3,c3,a3⟩:=x
    have ht3:t3=text:=r3.t
    subst t3
    simp -implicitDefEqProofs only [go_sem]
    repeat (refine Want.intro (by first | exact zh _ 115 (by decide) | exact zh _ 102 (by decide) | exact zh _ 110 (by decide) | exact zh _ 114 (by decide) | exact zh _ 99 (by decide) | exact zh _ 112 (by decide) | exact zh _ 108 (by decide)) ?_;simp -implicitDefEqProofs only [go_sem])
    refine WantM.intro (zmD ⟨text,p3,c3,a3⟩ r3.p ht) ?_
    have r4:=r3.dig
    generalize hn4:xL ⟨text,p3,c3,a3⟩=x at *
    obtain ⟨⟨va4,vb4,vc4,vd4⟩,t4,p4,c4,a4⟩:=x
    have ht4:t4=text:=r4.t
    subst t4
    simp -implicitDefEqProofs only [go_sem]
    repeat (refine Want.intro (by first | exact zh _ 115 (by decide) | exact zh _ 102 (by decide) | exact zh _ 110 (by decide) | exact zh _ 114 (by decide) | exact zh _ 99 (by decide) | exact zh _ 112 (by decide) | exact zh _ 108 (by decide)) ?_;simp -implicitDefEqProofs only [go_sem])
    have hM:zj text=xo text (⟨text,p4,c4,a4⟩,⟨bN text 0,v2,0,v3,⟨va4,vb4,vc4,vd4⟩,0,[],[]⟩):=by
     unfold zj
     rw [if_neg h',if_pos hin,hP]
     simp only [pS,pF,pZ,pR,pC,hn2,hn3,hn4]
     rfl
    refine zi (fun h=>?_) (fun h=>?_)
    ·have hp:p4<text.size:=by have:=of_decide_eq_true h;omega
     simp -implicitDefEqProofs only [go_sem,h]
     refine WantM.intro (zcV ⟨text,p4,c4,a4⟩ 4 p4) ?_
     by_cases hc:c4=0
     ·simp -implicitDefEqProofs only [go_sem,qi,hM,xo,hc,hp,MMsg.zero]
      try rfl
     ·have hc2:(c4 != 0)=true:=by simpa using hc
      simp -implicitDefEqProofs only [go_sem,qi,hM,xo,hc,hc2,hp,MMsg.zero]
      try rfl
    ·have hp:¬p4<text.size:=by have:=of_decide_eq_false h;omega
     by_cases hc:c4=0
     ·subst hc
      simp -implicitDefEqProofs only [go_sem,h,hM,xo,hp,MMsg.zero]
      try rfl
     ·have hc2:(c4 != 0)=true:=by simpa using hc
      simp -implicitDefEqProofs only [go_sem,h,hM,xo,hc,hc2,hp,MMsg.zero]
      try rfl
   ·have hH:l5H (bN text 0:Int)=⟨#[102,110]⟩:=by rw [hk];rfl
    have hP:∀x,xu (bN text 0) x=pZ (pF x):=fun x=>by rw [hk];rfl
    have he:((⟨#[102,110]⟩:ByteArray).toList==(⟨#[]⟩:ByteArray).toList)=false:=by rw [tl_2,jR];rfl
    simp -implicitDefEqProofs only [go_sem,hH,he]
    refine WantM.intro (xz ⟨text,0,0,0⟩ 1 1 8 (by omega) (Nat.zero_le _) ht) ?_
    simp -implicitDefEqProofs only [go_sem,hf]
    repeat (refine Want.intro (by first | exact zh _ 115 (by decide) | exact zh _ 102 (by decide) | exact zh _ 110 (by decide) | exact zh _ 114 (by decide) | exact zh _ 99 (by decide) | exact zh _ 112 (by decide) | exact zh _ 108 (by decide)) ?_;simp -implicitDefEqProofs only [go_sem])
    refine WantM.intro (xz ⟨text,1,0,0⟩ 2 0 256 (by omega) r1.p ht) ?_
    have r2:=r1.num 2 0 256
    generalize hn2:yq ⟨text,1,0,0⟩ 2 0 256=x at *
    obtain ⟨v2,t2,p2,c2,a2⟩:=x
    have ht2:t2=text:=r2.t
    subst t2
    simp -implicitDefEqProofs only [go_sem]
    repeat (refine Want.intro (by first | exact zh _ 115 (by decide) | exact zh _ 102 (by decide) | exact zh _ 110 (by decide) | exact zh _ 114 (by decide) | exact zh _ 99 (by decide) | exact zh _ 112 (by decide) | exact zh _ 108 (by decide)) ?_;simp -implicitDefEqProofs only [go_sem])
    refine WantM.intro (xz ⟨text,p2,c2,a2⟩ 2 0 256 (by omega) r2.p ht) ?_
    have r3:=r2.num 2 0 256
    generalize hn3:yq ⟨text,p2,c2,a2⟩ 2 0 256=x at *
    obtain ⟨v3,t3,p3,c3,a3⟩:=x
    have ht3:t3=text:=r3.t
    subst t3
    simp -implicitDefEqProofs only [go_sem]
    repeat (refine Want.intro (by first | exact zh _ 115 (by decide) | exact zh _ 102 (by decide) | exact zh _ 110 (by decide) | exact zh _ 114 (by decide) | exact zh _ 99 (by decide) | exact zh _ 112 (by decide) | exact zh _ 108 (by decide)) ?_;simp -implicitDefEqProofs only [go_sem])
    have hM:zj text=xo text (⟨text,p3,c3,a3⟩,⟨bN text 0,0,v2,v3,⟨0,0,0,0⟩,0,[],[]⟩):=by
     unfold zj
     rw [if_neg h',if_pos hin,hP]
     simp only [pS,pF,pZ,pR,pC,hn2,hn3]
     rfl
    refine zi (fun h=>?_) (fun h=>?_)
    ·have hp:p3<text.size:=by have:=of_decide_eq_true h;omega
     simp -implicitDefEqProofs only [go_sem,h]
     refine WantM.intro (zcV ⟨text,p3,c3,a3⟩ 4 p3) ?_
     by_cases hc:c3=0
     ·simp -implicitDefEqProofs only [go_sem,qi,hM,xo,hc,hp,MMsg.zero]
      try rfl
     ·have hc2:(c3 != 0)=true:=by simpa using hc
      simp -implicitDefEqProofs only [go_sem,qi,hM,xo,hc,hc2,hp,MMsg.zero]
      try rfl
    ·have hp:¬p3<text.size:=by have:=of_decide_eq_false h;omega
     by_cases hc:c3=0
     ·subst hc
      simp -implicitDefEqProofs only [go_sem,h,hM,xo,hp,MMsg.zero]
      try rfl
     ·have hc2:(c3 != 0)=true:=by simpa using hc
      simp -implicitDefEqProofs only [go_sem,h,hM,xo,hc,hc2,hp,MMsg.zero]
      try rfl
   ·have hH:l5H (bN text 0:Int)=⟨#[102,110,112]⟩:=by rw [hk];rfl
    have hP:∀x,xu (bN text 0) x=pP (pZ (pF x)):=fun x=>by rw [hk];rfl
    have he:((⟨#[102,110,112]⟩:ByteArray).toList==(⟨#[]⟩:ByteArray).toList)=false:=by rw [zqu,jR];rfl
    simp -implicitDefEqProofs only [go_sem,hH,he]
    refine WantM.intro (xz ⟨text,0,0,0⟩ 1 1 8 (by omega) (Nat.zero_le _) ht) ?_
    simp -implicitDefEqProofs only [go_sem,hf]
    repeat (refine Want.intro (by first | exact zh _ 115 (by decide) | exact zh _ 102 (by decide) | exact zh _ 110 (by decide) | exact zh _ 114 (by decide) | exact zh _ 99 (by decide) | exact zh _ 112 (by decide) | exact zh _ 108 (by decide)) ?_;simp -implicitDefEqProofs only [go_sem])
    refine WantM.intro (xz ⟨text,1,0,0⟩ 2 0 256 (by omega) r1.p ht) ?_
    have r2:=r1.num 2 0 256
    generalize hn2:yq ⟨text,1,0,0⟩ 2 0 256=x at *
    obtain ⟨v2,t2,p2,c2,a2⟩:=x
    have ht2:t2=text:=r2.t
    subst t2
    simp -implicitDefEqProofs only [go_sem]
    repeat (refine Want.intro (by first | exact zh _ 115 (by decide) | exact zh _ 102 (by decide) | exact zh _ 110 (by decide) | exact zh _ 114 (by decide) | exact zh _ 99 (by decide) | exact zh _ 112 (by decide) | exact zh _ 108 (by decide)) ?_;simp -implicitDefEqProofs only [go_sem])
    refine WantM.intro (xz ⟨text,p2,c2,a2⟩ 2 0 256 (by omega) r2.p ht) ?_
    have r3:=r2.num 2 0 256
    generalize hn3:yq ⟨text,p2,c2,a2⟩ 2 0 256=x at *
    obtain ⟨v3,t3,p3,c3,a3⟩:=x
    have ht3:t3=text:=r3.t
    subst t3
    simp -implicitDefEqProofs only [go_sem]
    repeat (refine Want.intro (by first | exact zh _ 115 (by decide) | exact zh _ 102 (by decide) | exact zh _ 110 (by decide) | exact zh _ 114 (by decide) | exact zh _ 99 (by decide) | exact zh _ 112 (by decide) | exact zh _ 108 (by decide)) ?_;simp -implicitDefEqProofs only [go_sem])
    refine WantM.intro (xz ⟨text,p3,c3,a3⟩ 1 0 16 (by omega) r3.p ht) ?_
    have r4:=r3.num 1 0 16
    have hv4:=jn ⟨text,p3,c3,a3⟩ 1 16 (by omega)
    generalize hn4:yq ⟨text,p3,c3,a3⟩ 1 0 16=x at *
    obtain ⟨v4,t4,p4,c4,a4⟩:=x
    have ht4:t4=text:=r4.t
    subst t4
    simp only at hv4
    simp -implicitDefEqProofs only [go_sem]
    refine qv [(10005,4)] (fun m z=>∃i:Nat,i≤v4.toNat∧m=v4.toNat - i∧z=⟨116,[(0,vS text),(2,.ptr 2 0 [] 11 0 0),(3,.ptr 3 0 [] 2 0 0),(4,.ptr 4 0 [] 4 0 0),(5,.ptr 5 0 [] 11 0 0),(6,vS ⟨#[102,110,112]⟩),(7,vI v4),(8,vI (i:Int))],[(2,0,one ⟨11,[[vI 0,vI 0,vI 0,vI 0,vU 0,vU 0,vU 0,vU 0,vI 0,.nilS,.nilS]],0,false⟩),(3,0,one ⟨2,[[vI 0,vI 0]],0,false⟩),(4,0,one ⟨4,[(yP i ⟨text,p4,c4,a4⟩).2.cs],0,false⟩),(5,0,one ⟨11,[[vI (bN text 0:Int),vI 0,vI v2,vI v3,vU 0,vU 0,vU 0,vU 0,vI 0,.blk 10005 0 [] 4 0 (yP i ⟨text,p4,c4,a4⟩).1.length,.nilS]],0,false⟩),(10005,0,one ⟨4,(yP i ⟨text,p4,c4,a4⟩).1.map MDig.cs,2,false⟩)],1⟩) v4.toNat ?_ ?_
    ·simp -implicitDefEqProofs only [go_sem]
     exact ⟨0,Nat.zero_le _,rfl,rfl⟩
    ·rintro m z ⟨i,hi,rfl,rfl⟩
     have hlen:=zcb i ⟨text,p4,c4,a4⟩
     have hri:=r4.digs i
     rcases Nat.lt_or_ge i v4.toNat with hlt | hge
     ·have hlt':(i:Int)<v4:=by omega
      have w4:IntKind.i64.wrap ((i:Int)+1)=((i+1:Nat):Int):=by rw [wrS (by omega)];omega
      have ha:∀x,_:=fun x=>zK (E:=MDig.cs) (l:=(yP i ⟨text,p4,c4,a4⟩).1) (xs:=[x]) (b:=32) (n:=i+1) (by rw [hlen];simp) (by omega) (by omega)
      simp -implicitDefEqProofs only [go_sem,hlt']
      refine WantM.intro (zmD (yP i ⟨text,p4,c4,a4⟩).2 (by rw [hri.t];exact hri.p) (by rw [hri.t];exact ht)) ?_
      simp -implicitDefEqProofs only [go_sem,ha,w4]
      exact ⟨_,by omega,i+1,hlt,rfl,by simp [yP];rfl⟩
     ·have hi:i=v4.toNat:=by omega
      have hlt':¬(i:Int)<v4:=by omega
      simp -implicitDefEqProofs only [go_sem,hlt']
      subst hi
      generalize hn5:yP v4.toNat ⟨text,p4,c4,a4⟩=x at *
      obtain ⟨ds,t5,p5,c5,a5⟩:=x
      have ht5:t5=text:=hri.t
      subst t5
      simp -implicitDefEqProofs only [go_sem]
      repeat (refine Want.intro (by first | exact zh _ 115 (by decide) | exact zh _ 102 (by decide) | exact zh _ 110 (by decide) | exact zh _ 114 (by decide) | exact zh _ 99 (by decide) | exact zh _ 112 (by decide) | exact zh _ 108 (by decide)) ?_;simp -implicitDefEqProofs only [go_sem])
      have hM:zj text=xo text (⟨text,p5,c5,a5⟩,⟨bN text 0,0,v2,v3,⟨0,0,0,0⟩,0,ds,[]⟩):=by
       unfold zj
       rw [if_neg h',if_pos hin,hP]
       simp only [pS,pF,pZ,pR,pC,pP,pL,hn2,hn3,hn4,hn5]
       rfl
      refine zi (fun h=>?_) (fun h=>?_)
      ·have hp:p5<text.size:=by have:=of_decide_eq_true h;omega
       simp -implicitDefEqProofs only [go_sem,h]
       refine WantM.intro (zcV ⟨text,p5,c5,a5⟩ 4 p5) ?_
       by_cases hc:c5=0
       ·simp -implicitDefEqProofs only [go_sem,qi,hM,xo,hc,hp,MMsg.zero]
        try rfl
       ·have hc2:(c5 != 0)=true:=by simpa using hc
        simp -implicitDefEqProofs only [go_sem,qi,hM,xo,hc,hc2,hp,MMsg.zero]
        try rfl
      ·have hp:¬p5<text.size:=by have:=of_decide_eq_false h;omega
       by_cases hc:c5=0
       ·subst hc
        simp -implicitDefEqProofs only [go_sem,h,hM,xo,hp,MMsg.zero]
        try rfl
       ·have hc2:(c5 != 0)=true:=by simpa using hc
        simp -implicitDefEqProofs only [go_sem,h,hM,xo,hc,hc2,hp,MMsg.zero]
        try rfl
   ·have hH:l5H (bN text 0:Int)=⟨#[115,110,114]⟩:=by rw [hk];rfl
    have hP:∀x,xu (bN text 0) x=pR (pZ (pS x)):=fun x=>by rw [hk];rfl
    have he:((⟨#[115,110,114]⟩:ByteArray).toList==(⟨#[]⟩:ByteArray).toList)=false:=by rw [zqu,jR];rfl
    simp -implicitDefEqProofs only [go_sem,hH,he]
    refine WantM.intro (xz ⟨text,0,0,0⟩ 1 1 8 (by omega) (Nat.zero_le _) ht) ?_
    simp -implicitDefEqProofs only [go_sem,hf]
    repeat (refine Want.intro (by first | exact zh _ 115 (by decide) | exact zh _ 102 (by decide) | exact zh _ 110 (by decide) | exact zh _ 114 (by decide) | exact zh _ 99 (by decide) | exact zh _ 112 (by decide) | exact zh _ 108 (by decide)) ?_;simp -implicitDefEqProofs only [go_sem])
    refine WantM.intro (xz ⟨text,1,0,0⟩ 3 1 1000000 (by omega) r1.p ht) ?_
    have r2:=r1.num 3 1 1000000
    generalize hn2:yq ⟨text,1,0,0⟩ 3 1 1000000=x at *
    obtain ⟨v2,t2,p2,c2,a2⟩:=x
    have ht2:t2=text:=r2.t
    subst t2
    simp -implicitDefEqProofs only [go_sem]
    repeat (refine Want.intro (by first | exact zh _ 115 (by decide) | exact zh _ 102 (by decide) | exact zh _ 110 (by decide) | exact zh _ 114 (by decide) | exact zh _ 99 (by decide) | exact zh _ 112 (by decide) | exact zh _ 108 (by decide)) ?_;simp -implicitDefEqProofs only [go_sem])
    refine WantM.intro (xz ⟨text,p2,c2,a2⟩ 2 0 256 (by omega) r2.p ht) ?_
    have r3:=r2.num 2 0 256
    generalize hn3:yq ⟨text,p2,c2,a2⟩ 2 0 256=x at *
    obtain ⟨v3,t3,p3,c3,a3⟩:=x
    have ht3:t3=text:=r3.t
    subst t3
    simp -implicitDefEqProofs only [go_sem]
    repeat (refine Want.intro (by first | exact zh _ 115 (by decide) | exact zh _ 102 (by decide) | exact zh _ 110 (by decide) | exact zh _ 114 (by decide) | exact zh _ 99 (by decide) | exact zh _ 112 (by decide) | exact zh _ 108 (by decide)) ?_;simp -implicitDefEqProofs only [go_sem])
    refine WantM.intro (zmD ⟨text,p3,c3,a3⟩ r3.p ht) ?_
    have r4:=r3.dig
    generalize hn4:xL ⟨text,p3,c3,a3⟩=x at *
    obtain ⟨⟨va4,vb4,vc4,vd4⟩,t4,p4,c4,a4⟩:=x
    have ht4:t4=text:=r4.t
    subst t4
    simp -implicitDefEqProofs only [go_sem]
    repeat (refine Want.intro (by first | exact zh _ 115 (by decide) | exact zh _ 102 (by decide) | exact zh _ 110 (by decide) | exact zh _ 114 (by decide) | exact zh _ 99 (by decide) | exact zh _ 112 (by decide) | exact zh _ 108 (by decide)) ?_;simp -implicitDefEqProofs only [go_sem])
    have hM:zj text=xo text (⟨text,p4,c4,a4⟩,⟨bN text 0,v2,0,v3,⟨va4,vb4,vc4,vd4⟩,0,[],[]⟩):=by
     unfold zj
     rw [if_neg h',if_pos hin,hP]
     simp only [pS,pF,pZ,pR,pC,hn2,hn3,hn4]
     rfl
    refine zi (fun h=>?_) (fun h=>?_)
    ·have hp:p4<text.size:=by have:=of_decide_eq_true h;omega
     simp -implicitDefEqProofs only [go_sem,h]
     refine WantM.intro (zcV ⟨text,p4,c4,a4⟩ 4 p4) ?_
     by_cases hc:c4=0
     ·simp -implicitDefEqProofs only [go_sem,qi,hM,xo,hc,hp,MMsg.zero]
      try rfl
     ·have hc2:(c4 != 0)=true:=by simpa using hc
      simp -implicitDefEqProofs only [go_sem,qi,hM,xo,hc,hc2,hp,MMsg.zero]
      try rfl
    ·have hp:¬p4<text.size:=by have:=of_decide_eq_false h;omega
     by_cases hc:c4=0
     ·subst hc
      simp -implicitDefEqProofs only [go_sem,h,hM,xo,hp,MMsg.zero]
      try rfl
     ·have hc2:(c4 != 0)=true:=by simpa using hc
      simp -implicitDefEqProofs only [go_sem,h,hM,xo,hc,hc2,hp,MMsg.zero]
      try rfl
   ·have hH:l5H (bN text 0:Int)=⟨#[102,99]⟩:=by rw [hk];rfl
    have hP:∀x,xu (bN text 0) x=pC (pF x):=fun x=>by rw [hk];rfl
    have he:((⟨#[102,99]⟩:ByteArray).toList==(⟨#[]⟩:ByteArray).toList)=false:=by rw [tl_2,jR];rfl
    simp -implicitDefEqProofs only [go_sem,hH,he]
    refine WantM.intro (xz ⟨text,0,0,0⟩ 1 1 8 (by omega) (Nat.zero_le _) ht) ?_
    simp -implicitDefEqProofs only [go_sem,hf]
    repeat (refine Want.intro (by first | exact zh _ 115 (by decide) | exact zh _ 102 (by decide) | exact zh _ 110 (by decide) | exact zh _ 114 (by decide) | exact zh _ 99 (by decide) | exact zh _ 112 (by decide) | exact zh _ 108 (by decide)) ?_;simp -implicitDefEqProofs only [go_sem])
    refine WantM.intro (xz ⟨text,1,0,0⟩ 2 0 256 (by omega) r1.p ht) ?_
    have r2:=r1.num 2 0 256
    generalize hn2:yq ⟨text,1,0,0⟩ 2 0 256=x at *
    obtain ⟨v2,t2,p2,c2,a2⟩:=x
    have ht2:t2=text:=r2.t
    subst t2
    simp -implicitDefEqProofs only [go_sem]
    repeat (refine Want.intro (by first | exact zh _ 115 (by decide) | exact zh _ 102 (by decide) | exact zh _ 110 (by decide) | exact zh _ 114 (by decide) | exact zh _ 99 (by decide) | exact zh _ 112 (by decide) | exact zh _ 108 (by decide)) ?_;simp -implicitDefEqProofs only [go_sem])
    refine WantM.intro (xz ⟨text,p2,c2,a2⟩ 1 1 8 (by omega) r2.p ht) ?_
    have r3:=r2.num 1 1 8
    generalize hn3:yq ⟨text,p2,c2,a2⟩ 1 1 8=x at *
    obtain ⟨v3,t3,p3,c3,a3⟩:=x
    have ht3:t3=text:=r3.t
    subst t3
    simp -implicitDefEqProofs only [go_sem]
    repeat (refine Want.intro (by first | exact zh _ 115 (by decide) | exact zh _ 102 (by decide) | exact zh _ 110 (by decide) | exact zh _ 114 (by decide) | exact zh _ 99 (by decide) | exact zh _ 112 (by decide) | exact zh _ 108 (by decide)) ?_;simp -implicitDefEqProofs only [go_sem])
    have hM:zj text=xo text (⟨text,p3,c3,a3⟩,⟨bN text 0,0,v2,0,⟨0,0,0,0⟩,v3,[],[]⟩):=by
     unfold zj
     rw [if_neg h',if_pos hin,hP]
     simp only [pS,pF,pZ,pR,pC,hn2,hn3]
     rfl
    refine zi (fun h=>?_) (fun h=>?_)
    ·have hp:p3<text.size:=by have:=of_decide_eq_true h;omega
     simp -implicitDefEqProofs only [go_sem,h]
     refine WantM.intro (zcV ⟨text,p3,c3,a3⟩ 4 p3) ?_
     by_cases hc:c3=0
     ·simp -implicitDefEqProofs only [go_sem,qi,hM,xo,hc,hp,MMsg.zero]
      try rfl
     ·have hc2:(c3 != 0)=true:=by simpa using hc
      simp -implicitDefEqProofs only [go_sem,qi,hM,xo,hc,hc2,hp,MMsg.zero]
      try rfl
    ·have hp:¬p3<text.size:=by have:=of_decide_eq_false h;omega
     by_cases hc:c3=0
     ·subst hc
      simp -implicitDefEqProofs only [go_sem,h,hM,xo,hp,MMsg.zero]
      try rfl
     ·have hc2:(c3 != 0)=true:=by simpa using hc
      simp -implicitDefEqProofs only [go_sem,h,hM,xo,hc,hc2,hp,MMsg.zero]
      try rfl
   ·have hH:l5H (bN text 0:Int)=⟨#[102,108]⟩:=by rw [hk];rfl
    have hP:∀x,xu (bN text 0) x=pL (pF x):=fun x=>by rw [hk];rfl
    have he:((⟨#[102,108]⟩:ByteArray).toList==(⟨#[]⟩:ByteArray).toList)=false:=by rw [tl_2,jR];rfl
    simp -implicitDefEqProofs only [go_sem,hH,he]
    refine WantM.intro (xz ⟨text,0,0,0⟩ 1 1 8 (by omega) (Nat.zero_le _) ht) ?_
    simp -implicitDefEqProofs only [go_sem,hf]
    repeat (refine Want.intro (by first | exact zh _ 115 (by decide) | exact zh _ 102 (by decide) | exact zh _ 110 (by decide) | exact zh _ 114 (by decide) | exact zh _ 99 (by decide) | exact zh _ 112 (by decide) | exact zh _ 108 (by decide)) ?_;simp -implicitDefEqProofs only [go_sem])
    refine WantM.intro (xz ⟨text,1,0,0⟩ 2 0 256 (by omega) r1.p ht) ?_
    have r2:=r1.num 2 0 256
    generalize hn2:yq ⟨text,1,0,0⟩ 2 0 256=x at *
    obtain ⟨v2,t2,p2,c2,a2⟩:=x
    have ht2:t2=text:=r2.t
    subst t2
    simp -implicitDefEqProofs only [go_sem]
    repeat (refine Want.intro (by first | exact zh _ 115 (by decide) | exact zh _ 102 (by decide) | exact zh _ 110 (by decide) | exact zh _ 114 (by decide) | exact zh _ 99 (by decide) | exact zh _ 112 (by decide) | exact zh _ 108 (by decide)) ?_;simp -implicitDefEqProofs only [go_sem])
    refine WantM.intro (xz ⟨text,p2,c2,a2⟩ 1 0 8 (by omega) r2.p ht) ?_
    have r3:=r2.num 1 0 8
    have hv3:=jn ⟨text,p2,c2,a2⟩ 1 8 (by omega)
    generalize hn3:yq ⟨text,p2,c2,a2⟩ 1 0 8=x at *
    obtain ⟨v3,t3,p3,c3,a3⟩:=x
    have ht3:t3=text:=r3.t
    subst t3
    simp only at hv3
    simp -implicitDefEqProofs only [go_sem]
    refine qv [(11005,1)] (fun m z=>∃i:Nat,i≤v3.toNat∧m=v3.toNat - i∧z=⟨116,[(0,vS text),(2,.ptr 2 0 [] 11 0 0),(3,.ptr 3 0 [] 2 0 0),(4,.ptr 4 0 [] 4 0 0),(5,.ptr 5 0 [] 11 0 0),(9,vI v3),(10,vI (i:Int))],[(2,0,one ⟨11,[[vI 0,vI 0,vI 0,vI 0,vU 0,vU 0,vU 0,vU 0,vI 0,.nilS,.nilS]],0,false⟩),(3,0,one ⟨2,[[vI 0,vI 0]],0,false⟩),(4,0,one ⟨4,[(zP i ⟨text,p3,c3,a3⟩).2.cs],0,false⟩),(5,0,one ⟨11,[[vI (bN text 0:Int),vI 0,vI v2,vI 0,vU 0,vU 0,vU 0,vU 0,vI 0,.nilS,.blk 10005 0 [] 1 0 (zP i ⟨text,p3,c3,a3⟩).1.length]],0,false⟩),(10005,0,one ⟨1,(zP i ⟨text,p3,c3,a3⟩).1.map zw,2,false⟩)],1⟩) v3.toNat ?_ ?_
    ·simp -implicitDefEqProofs only [go_sem]
     exact ⟨0,Nat.zero_le _,rfl,rfl⟩
    ·rintro m z ⟨i,hi,rfl,rfl⟩
     have hlen:=zaA i ⟨text,p3,c3,a3⟩
     have hri:=r3.leafs i
     rcases Nat.lt_or_ge i v3.toNat with hlt | hge
     ·have hlt':(i:Int)<v3:=by omega
      have w4:IntKind.i64.wrap ((i:Int)+1)=((i+1:Nat):Int):=by rw [wrS (by omega)];omega
      have ha:∀x,_:=fun x=>zK (E:=zw) (l:=(zP i ⟨text,p3,c3,a3⟩).1) (xs:=[x]) (b:=16) (n:=i+1) (by rw [hlen];simp) (by omega) (by omega)
      simp -implicitDefEqProofs only [go_sem,hlt']
      refine WantM.intro (xz (zP i ⟨text,p3,c3,a3⟩).2 1 0 40 (by omega) (by rw [hri.t];exact hri.p) (by rw [hri.t];exact ht)) ?_
      have hr2:=hri.num 1 0 40
      have hbd:=jn (zP i ⟨text,p3,c3,a3⟩).2 1 40 (by omega)
      have hcast:(yq (zP i ⟨text,p3,c3,a3⟩).2 1 0 40).1=((yq (zP i ⟨text,p3,c3,a3⟩).2 1 0 40).1.toNat:Int):=(Int.toNat_of_nonneg hbd.1).symm
      simp -implicitDefEqProofs only [go_sem]
      rw [hcast]
      refine WantM.intro (zpb (yq (zP i ⟨text,p3,c3,a3⟩).2 1 0 40).2 (yq (zP i ⟨text,p3,c3,a3⟩).2 1 0 40).1.toNat (by omega) (by rw [hr2.t];exact hr2.p) (by rw [hr2.t];exact ht)) ?_
      simp -implicitDefEqProofs only [go_sem,ha,w4]
      exact ⟨_,by omega,i+1,hlt,rfl,by simp [zP,zbd,zw]⟩
     ·have hi:i=v3.toNat:=by omega
      have hlt':¬(i:Int)<v3:=by omega
      simp -implicitDefEqProofs only [go_sem,hlt']
      subst hi
      generalize hn4:zP v3.toNat ⟨text,p3,c3,a3⟩=x at *
      obtain ⟨ds,t4,p4,c4,a4⟩:=x
      have ht4:t4=text:=hri.t
      subst t4
      simp -implicitDefEqProofs only [go_sem]
      repeat (refine Want.intro (by first | exact zh _ 115 (by decide) | exact zh _ 102 (by decide) | exact zh _ 110 (by decide) | exact zh _ 114 (by decide) | exact zh _ 99 (by decide) | exact zh _ 112 (by decide) | exact zh _ 108 (by decide)) ?_;simp -implicitDefEqProofs only [go_sem])
      have hM:zj text=xo text (⟨text,p4,c4,a4⟩,⟨bN text 0,0,v2,0,⟨0,0,0,0⟩,0,[],ds⟩):=by
       unfold zj
       rw [if_neg h',if_pos hin,hP]
       simp only [pS,pF,pZ,pR,pC,pP,pL,hn2,hn3,hn4]
       rfl
      refine zi (fun h=>?_) (fun h=>?_)
      ·have hp:p4<text.size:=by have:=of_decide_eq_true h;omega
       simp -implicitDefEqProofs only [go_sem,h]
       refine WantM.intro (zcV ⟨text,p4,c4,a4⟩ 4 p4) ?_
       by_cases hc:c4=0
       ·simp -implicitDefEqProofs only [go_sem,qi,hM,xo,hc,hp,MMsg.zero]
        try rfl
       ·have hc2:(c4 != 0)=true:=by simpa using hc
        simp -implicitDefEqProofs only [go_sem,qi,hM,xo,hc,hc2,hp,MMsg.zero]
        try rfl
      ·have hp:¬p4<text.size:=by have:=of_decide_eq_false h;omega
       by_cases hc:c4=0
       ·subst hc
        simp -implicitDefEqProofs only [go_sem,h,hM,xo,hp,MMsg.zero]
        try rfl
       ·have hc2:(c4 != 0)=true:=by simpa using hc
        simp -implicitDefEqProofs only [go_sem,h,hM,xo,hc,hc2,hp,MMsg.zero]
        try rfl
  ·have hH:l5H (bN text 0:Int)=⟨#[]⟩:=by rw [l5H,if_neg (by omega),if_neg (by omega),if_neg (by omega),if_neg (by omega),if_neg (by omega),if_neg (by omega)]
   have he:((⟨#[]⟩:ByteArray).toList==(⟨#[]⟩:ByteArray).toList)=true:=by rw [jR];rfl
   simp -implicitDefEqProofs only [go_sem,hH,he,zb,zj,h',hin,MMsg.zero]
   rfl
end Go.Proofs.YtpjpkmhaffmbmaaGreat.E
