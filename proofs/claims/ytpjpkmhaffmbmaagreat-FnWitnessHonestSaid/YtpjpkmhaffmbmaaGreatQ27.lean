/- Contracts: what comes of a vouch; what comes of a growth, of a letter, in plain data; Plain law: witnesses that are ok, without places; what was taken of a growth; Plain law: wishes stay in order; Plain law: a witness stays ok, and never holds less; Plain law: the letters of a witness are read back; Plain law: sizes and words of what a witness hears; its raw writes are those of what it keeps; Plai -/
import Derived.Test.YtpjpkmhaffmbmaaGreatQ20
import Derived.Test.YtpjpkmhaffmbmaaGreatQ24
import Derived.Test.YtpjpkmhaffmbmaaGreatQ26
import Derived.Test.YtpjpkmhaffmbmaaGreatQ16
import Derived.Test.YtpjpkmhaffmbmaaGreatQ17
import Derived.Test.YtpjpkmhaffmbmaaGreatQ13
section
namespace Go.Proofs.YtpjpkmhaffmbmaaGreat.E
open Go Go.RowKit
set_option maxHeartbeats 4000000
set_option maxRecDepth 10000
set_option linter.unusedSimpArgs false
set_option linter.unusedVariables false
set_option linter.unusedSectionVars false
def dcV6:Dec:=⟨[(51,.cm [false]),(112,.cm [false,false])],[9,10,11],[22,30,37,38,39,40,49,56,76,80,87,141,143,159,237,250,259],false⟩
theorem MLet.wide (l:List MLet):qc 3 (l.map MLet.cs)=true:=by
 induction l with
 | nil=>rfl
 | cons a l ih=>simp only [List.map_cons,qc,ih,MLet.cs];rfl
theorem MLet.flat (l:List MLet):flL (l.map MLet.cs)=2:=by
 induction l with
 | nil=>rfl
 | cons a l ih=>simp only [List.map_cons,flL,ih,MLet.cs];rfl
attribute [go_sem] MLet.wide MLet.flat
theorem zkQ (l:List MLet) (hl:l.length * 32≤140737488355328):CallR Tryz.prog 46 [.ro 3 (l.map MLet.cs)] (.blk 0 0 [] 3 0 l.length) [([],⟨3,l.map MLet.cs,2,false⟩)]:=by
 refine zl dcV6 false Tryz.f46 ?_
 conv=>enter [1];reduce
 refine jvR Tryz.f46 14 [.tmp 2] (by kernel_rfl) (by decide +kernel) rfl ?_
 simp -implicitDefEqProofs only [go_sem]
 refine zi (fun h=>?_) (fun h=>?_)
 ·have:l=[]:=by simpa using h
  subst this
  simp -implicitDefEqProofs only [go_sem]
 ·have hm:=zbS hl (by omega)
  have hmk:((32:Nat):Int) * (l.length:Int)≤281474976710656∧(l.length:Int)≤9223372036854775807:=by unfold maxLen at hm;omega
  simp -implicitDefEqProofs only [go_sem,h,hmk,List.length_replicate]
theorem copLN:CallR Tryz.prog 46 [.nilS] (.blk 0 0 [] 3 0 0) [([],⟨3,[],2,false⟩)]:=
 (zkQ [] (by simp)).arg fun rd vs h=>by
  obtain ⟨v,us,rfl,hr,hp⟩:=h.uncons
  have:us=[]:=List.eq_nil_of_length_eq_zero hp.1.symm
  subst this
  exact PW.cons (hr.wk (.inr ⟨rfl,3,rfl⟩)) PW.nil
theorem zhf {s:ByteArray}:(zj s).1.root.ok:=by
 generalize hW:zj s=W
 obtain ⟨m,c,a⟩:=W
 by_cases hc:c=0
 ·have:=qC s
  rw [hW] at this
  exact (this hc).2.1
 ·have:=zlu hW hc
  subst this
  exact yy
structure MKeep where
 old:MPt
 new:MPt
 proof:List MDig
def MKeep.cs (k:MKeep) (a:AV):List AV:=k.old.cs++(k.new.cs++[a])
structure MHeard where
 disk:MDisk
 wishes:List MWish
 raws:List MRaw
 kept:Option MKeep
 letters:List MLet
 alarms:List MAl
def MHeard.av (h:MHeard):AV:=.agg (h.disk.cs++[.blk 0 0 [] 7 0 h.wishes.length,.blk 1 0 [] 3 0 h.raws.length,.blk 2 0 [] 11 0 h.kept.toList.length,.blk 3 0 [] 3 0 h.letters.length,.blk 4 0 [] 13 0 h.alarms.length])
def zkn:Option MKeep→Row
 | none=>⟨11,[],2,false⟩
 | some k=>⟨11,[k.cs (.blk 5 0 [] 4 0 k.proof.length)],0,false⟩
def zkm:Option MKeep→Sig
 | none=>[]
 | some k=>[(5,0,one ⟨4,k.proof.map MDig.cs,2,false⟩)]
def MHeard.out (h:MHeard):Sig:=[(0,0,one ⟨7,h.wishes.map MWish.cs,2,false⟩),(1,0,one ⟨3,h.raws.map MRaw.cs,2,false⟩),(2,0,one (zkn h.kept)),(3,0,one ⟨3,h.letters.map MLet.cs,2,false⟩),(4,0,one ⟨13,h.alarms.map MAl.cs,2,false⟩)]++zkm h.kept
def MHeard.base (w:MWit):MHeard:=⟨w.disk,w.wishes,[],none,[],[]⟩
attribute [go_sem] MKeep.cs MHeard.av zkn zkm MHeard.out Option.toList_none Option.toList_some MHeard.base
def zd1 (me a b:Int):MLet:=⟨me,0,zr ⟨4,0,a,b,dig0,0,[],[]⟩⟩
def yh (w:MWit) (held:MPt) (me who s:Int) (p:MPt):MHeard:=
 if p.size=0∨p.size<held.size then .base w
 else if yR p held then {MHeard.base w with letters:=[zbe me who s p]}
 else if p.size=held.size then {MHeard.base w with alarms:=[⟨1,who,held,p,0⟩]}
 else if (yE w.wishes ⟨who,s,p⟩).length≤8 then {MHeard.base w with wishes:=yE w.wishes ⟨who,s,p⟩,letters:=[zd1 me held.size p.size]}
 else .base w
theorem qM {l:List MWish} (h:l.length≤8) (x:MWish):(yE l x).length≤17:=by
 have:=zdK x l
 unfold yE
 split
 ·omega
 ·rw [List.length_append];simp;omega
def zkp (w:MWit):AV:=.agg (w.disk.cs++[.blk 1000000 0 [] 7 0 w.wishes.length,.nilS,.nilS,.nilS,.nilS])
attribute [go_sem] zkp
theorem c44_c (w:MWit) (held:MPt) (me who:Int) (m:MMsg) (hl:w.wishes.length≤8):zW Tryz.prog 44 [(1000000,0,one ⟨7,w.wishes.map MWish.cs,2,false⟩)] [zkp w,.agg held.cs,vI me,vI who,m.ro] (yh w held me who m.session ⟨m.size,m.root⟩).av (yh w held me who m.session ⟨m.size,m.root⟩).out:=by
 refine zl dcV6 false Tryz.f44 ?_
 conv=>enter [1];reduce
 refine jvM Tryz.f44 80 [.cell 10 42] (by kernel_rfl) (by decide +kernel) rfl ?_
 have hak:=zkZ me who m.session ⟨m.size,m.root⟩
 have hwi:=zsu w.wishes ⟨who,m.session,⟨m.size,m.root⟩⟩ hl
 have hwl:=qM hl ⟨who,m.session,⟨m.size,m.root⟩⟩
 have hpl:=znA me 0 ⟨4,0,held.size,m.size,dig0,0,[],[]⟩ rfl rfl
 unfold yh
 simp only
 generalize hA:zbe me who m.session ⟨m.size,m.root⟩=A at *
 generalize hW:yE w.wishes ⟨who,m.session,⟨m.size,m.root⟩⟩=W at *
 simp -implicitDefEqProofs only [go_sem]
 by_cases c1:m.size=0
 ·have c1':(m.size==0)=true:=by rw [c1];rfl
  rw [if_pos (.inl c1)]
  simp -implicitDefEqProofs only [go_sem,c1',ze,zf,zg,zc,zb,za]
 ·have c1':(m.size==0)=false:=beq_eq_false_iff_ne.2 c1
  by_cases c2:m.size<held.size
  ·rw [if_pos (.inr c2)]
   simp -implicitDefEqProofs only [go_sem,c1',c2,ze,zf,zg,zc,zb,za]
  ·rw [if_neg (fun h=>h.elim c1 c2)]
   cases c3:yR ⟨m.size,m.root⟩ held with
   | true=>
    have c3':=c3
    unfold yR at c3'
    simp only at c3'
    simp -implicitDefEqProofs only [go_sem,c1',c2,c3',ze,zf,zg,zc,zb,za]
    refine Want.intro hak ?_
    simp -implicitDefEqProofs only [go_sem]
   | false=>
    have c3':=c3
    unfold yR at c3'
    simp only at c3'
    by_cases c4:m.size=held.size
    ·have c4':(m.size==held.size)=true:=by rw [c4];simp
     rw [if_neg (by simp),if_pos c4]
     rw [c4',Bool.true_and] at c3'
     simp -implicitDefEqProofs only [go_sem,c1',c2,c3',c4',ze,zf,zg,zc,zb,za]
    ·have c4':(m.size==held.size)=false:=beq_eq_false_iff_ne.2 c4
     rw [if_neg (by simp),if_neg c4]
     simp -implicitDefEqProofs only [go_sem,c1',c2,c3',c4',ze,zf,zg,zc,zb,za]
     refine Want.intro hwi ?_
     by_cases c5:W.length≤8
     ·have c5':¬((W.length:Int)>8):=by omega
      rw [if_pos c5]
      simp -implicitDefEqProofs only [go_sem,c5',zb,za]
      refine Want.intro (ziv W (by omega)) ?_
      simp -implicitDefEqProofs only [go_sem]
      refine Want.intro hpl ?_
      simp -implicitDefEqProofs only [go_sem]
      rfl
     ·have c5':((W.length:Int)>8):=by omega
      rw [if_neg c5]
      simp -implicitDefEqProofs only [go_sem,c5',zb,za]
theorem c49_c (w:MWit) (me who:Int) (m:MMsg) (hl:w.wishes.length≤8) (hd:w.disk.ok) (hr:m.root.ok):zW Tryz.prog 49 [] [w.ro,vI me,vI who,m.ro] (yh w (zx w.disk) me who m.session ⟨m.size,m.root⟩).av (yh w (zx w.disk) me who m.session ⟨m.size,m.root⟩).out:=by
 refine zl dcV6 false Tryz.f49 ?_
 conv=>enter [1];reduce
 refine jvM Tryz.f49 91 [.cell 8 42] (by kernel_rfl) (by decide +kernel) rfl ?_
 have hcp:=zpf w (by omega)
 have hhe:=zix w.disk hd
 have hak:=zkY me ⟨who,m.session,⟨m.size,m.root⟩⟩ hr
 have hwi:=zsq w.wishes ⟨who,m.session,⟨m.size,m.root⟩⟩ hl
 generalize zx w.disk=held at *
 have hwl:=qM hl ⟨who,m.session,⟨m.size,m.root⟩⟩
 have hpl:=wbS ⟨4,0,held.size,m.size,dig0,0,[],[]⟩ rfl rfl yy
 unfold yh
 simp only at hak ⊢
 generalize hA:zbe me who m.session ⟨m.size,m.root⟩=A at *
 generalize hW:yE w.wishes ⟨who,m.session,⟨m.size,m.root⟩⟩=W at *
 simp -implicitDefEqProofs only [go_sem]
 refine WantM.intro hcp ?_
 simp -implicitDefEqProofs only [go_sem]
 refine Want.intro hhe ?_
 by_cases c1:m.size=0
 ·have c1':(m.size==0)=true:=by rw [c1];rfl
  rw [if_pos (.inl c1)]
  simp -implicitDefEqProofs only [go_sem,c1',ze,zf,zg,zc,zb,za]
 ·have c1':(m.size==0)=false:=beq_eq_false_iff_ne.2 c1
  by_cases c2:m.size<held.size
  ·rw [if_pos (.inr c2)]
   simp -implicitDefEqProofs only [go_sem,c1',c2,ze,zf,zg,zc,zb,za]
  ·rw [if_neg (fun h=>h.elim c1 c2)]
   cases c3:yR ⟨m.size,m.root⟩ held with
   | true=>
    have c3':=c3
    unfold yR at c3'
    simp only at c3'
    simp -implicitDefEqProofs only [go_sem,c1',c2,c3',ze,zf,zg,zc,zb,za]
    refine Want.intro hak ?_
    simp -implicitDefEqProofs only [go_sem]
   | false=>
    have c3':=c3
    unfold yR at c3'
    simp only at c3'
    by_cases c4:m.size=held.size
    ·have c4':(m.size==held.size)=true:=by rw [c4];simp
     rw [if_neg (by simp),if_pos c4]
     rw [c4',Bool.true_and] at c3'
     simp -implicitDefEqProofs only [go_sem,c1',c2,c3',c4',ze,zf,zg,zc,zb,za]
    ·have c4':(m.size==held.size)=false:=beq_eq_false_iff_ne.2 c4
     rw [if_neg (by simp),if_neg c4]
     simp -implicitDefEqProofs only [go_sem,c1',c2,c3',c4',ze,zf,zg,zc,zb,za]
     refine WantM.intro hwi ?_
     by_cases c5:W.length≤8
     ·have c5':decide (W.length≤8)=true:=decide_eq_true c5
      rw [if_pos c5]
      simp -implicitDefEqProofs only [go_sem,c5',Bool.not_true,zb,za]
      refine Want.intro hpl ?_
      simp -implicitDefEqProofs only [go_sem]
      rfl
     ·have c5':decide (W.length≤8)=false:=decide_eq_false c5
      rw [if_neg c5]
      simp -implicitDefEqProofs only [go_sem,c5',Bool.not_false,zb,za]
theorem znk {l:List MDig} (h:∀d∈l,d.ok):(l.map MDig.bd).map BD.cs=l.map MDig.cs:=by
 rw [List.map_map]
 refine List.map_congr_left fun d hd=>?_
 show d.bd.dig.cs=d.cs
 rw [MDig.bd_dig (h d hd)]
theorem zss (o p:MPt) (P:List MDig) (h:∀d∈P,d.ok):CallR Tryz.prog 109 [.agg o.cs,.agg p.cs,.ro 4 (P.map MDig.cs)] (vI (mGC o p (P.map MDig.bd))) []:=by
 rw [←znk h]
 exact zst o p _
theorem zsf (o p:MPt) (P:List MDig) (h:∀d∈P,d.ok):CallR Tryz.prog 14 [.agg o.cs,.agg p.cs,.ro 4 (P.map MDig.cs)] (vI (mGC o p (P.map MDig.bd))) []:=by
 rw [←znk h]
 exact c14_c o p _
structure GSt where
 left:List MWish
 taken:Bool
 p:MPt
 al:List MAl
def yY (held:MPt) (size:Int) (P:List MDig) (s:GSt) (x:MWish):GSt:=
 if s.taken=true∨x.pt.size≠size then {s with left:=s.left++[x]}
 else if mGC held x.pt (P.map MDig.bd)≠0 then {s with al:=s.al++[⟨2,x.who,held,x.pt,mGC held x.pt (P.map MDig.bd)⟩]}
 else {s with left:=s.left++[x],taken:=true,p:=x.pt}
def gF (held:MPt) (size:Int) (P:List MDig) (l:List MWish):GSt:=l.foldl (yY held size P) ⟨[],false,.zero,[]⟩
theorem zkx {held:MPt} {size:Int} {P:List MDig} {l:List MWish} {i:Nat} (h:i<l.length):gF held size P (l.take (i+1))=yY held size P (gF held size P (l.take i)) l[i]:=by
 unfold gF
 rw [List.take_succ_eq_append_getElem h,List.foldl_append]
 rfl
theorem zrv (held:MPt) (size:Int) (P:List MDig) (l:List MWish):∀s:GSt,(l.foldl (yY held size P) s).left.length+(l.foldl (yY held size P) s).al.length=s.left.length+s.al.length+l.length:=by
 induction l with
 | nil=>intro s;simp
 | cons a l ih=>
  intro s
  rw [List.foldl_cons,ih,List.length_cons]
  have e:(yY held size P s a).left.length+(yY held size P s a).al.length=s.left.length+s.al.length+1:=by
   unfold yY
   repeat' split
   all_goals simp
   all_goals omega
  omega
theorem zii (held:MPt) (size:Int) (P:List MDig) (l:List MWish):(gF held size P l).left.length≤l.length∧(gF held size P l).al.length≤l.length:=by
 have:=zrv held size P l ⟨[],false,.zero,[]⟩
 unfold gF
 simp only [List.length_nil] at this
 omega
structure HSt where
 le:List MLet
 al:List MAl
 rest:List MWish
def xM (me:Int) (p:MPt) (s:HSt) (x:MWish):HSt:=
 if yR x.pt p=true then {s with le:=s.le++[zbe me x.who x.session p]}
 else if x.pt.size=p.size then {s with al:=s.al++[⟨1,x.who,p,x.pt,0⟩]}
 else if x.pt.size>p.size then {s with rest:=s.rest++[x]}
 else s
def hvF (me:Int) (p:MPt) (al:List MAl) (l:List MWish):HSt:=l.foldl (xM me p) ⟨[],al,[]⟩
theorem zbn {me:Int} {p:MPt} {al:List MAl} {l:List MWish} {i:Nat} (h:i<l.length):hvF me p al (l.take (i+1))=xM me p (hvF me p al (l.take i)) l[i]:=by
 unfold hvF
 rw [List.take_succ_eq_append_getElem h,List.foldl_append]
 rfl
theorem zoB (me:Int) (p:MPt) (l:List MWish):∀s:HSt,(l.foldl (xM me p) s).le.length+(l.foldl (xM me p) s).al.length+(l.foldl (xM me p) s).rest.length≤s.le.length+s.al.length+s.rest.length+l.length:=by
 induction l with
 | nil=>intro s;simp
 | cons a l ih=>
  intro s
  rw [List.foldl_cons,List.length_cons]
  have:=ih (xM me p s a)
  have e:(xM me p s a).le.length+(xM me p s a).al.length+(xM me p s a).rest.length≤s.le.length+s.al.length+s.rest.length+1:=by
   unfold xM
   repeat' split
   all_goals simp
   all_goals omega
  omega
theorem zds (me:Int) (p:MPt) (al:List MAl) (l:List MWish):(hvF me p al l).le.length≤al.length+l.length∧(hvF me p al l).al.length≤al.length+l.length∧(hvF me p al l).rest.length≤al.length+l.length:=by
 have:=zoB me p l ⟨[],al,[]⟩
 unfold hvF
 simp only [List.length_nil] at this
 omega
def zZ (w:MWit) (held:MPt) (me:Int) (m:MMsg):MHeard:=
 if m.from_≠held.size then .base w
 else if (gF held m.size m.proof w.wishes).taken=false then {MHeard.base w with wishes:=(gF held m.size m.proof w.wishes).left,alarms:=(gF held m.size m.proof w.wishes).al}
 else if yT w.disk (gF held m.size m.proof w.wishes).p.size (gF held m.size m.proof w.wishes).p.root=[] then .base w
 else ⟨zF w.disk (yT w.disk (gF held m.size m.proof w.wishes).p.size (gF held m.size m.proof w.wishes).p.root),(hvF me (gF held m.size m.proof w.wishes).p (gF held m.size m.proof w.wishes).al (gF held m.size m.proof w.wishes).left).rest,yT w.disk (gF held m.size m.proof w.wishes).p.size (gF held m.size m.proof w.wishes).p.root,some ⟨held,(gF held m.size m.proof w.wishes).p,m.proof⟩,(hvF me (gF held m.size m.proof w.wishes).p (gF held m.size m.proof w.wishes).al (gF held m.size m.proof w.wishes).left).le,(hvF me (gF held m.size m.proof w.wishes).p (gF held m.size m.proof w.wishes).al (gF held m.size m.proof w.wishes).left).al⟩
def yi (d:MDisk) (w r k l a:AV):List AV:=d.cs++[w,r,k,l,a]
attribute [go_sem] yi
inductive Shp (H:HSt) (P:List MDig) (k:Nat):AV→AV→Sig→Nat→Prop
 | s00 (h1:H.le=[]) (h2:H.al=[]):Shp H P k .nilS .nilS [(40000+k,0,one ⟨4,P.map MDig.cs,2,false⟩)] (40000+k)
 | s01 (h1:H.le=[]) (h2:H.al≠[]):Shp H P k .nilS (.blk (40000+k) 0 [] 13 0 H.al.length) [(40000+k,0,one ⟨13,H.al.map MAl.cs,2,false⟩),(50000+k,0,one ⟨4,P.map MDig.cs,2,false⟩)] (50000+k)
 | s10 (h1:H.le≠[]) (h2:H.al=[]):Shp H P k (.blk (40000+k) 0 [] 3 0 H.le.length) .nilS [(40000+k,0,one ⟨3,H.le.map MLet.cs,2,false⟩),(50000+k,0,one ⟨4,P.map MDig.cs,2,false⟩)] (50000+k)
 | s11 (h1:H.le≠[]) (h2:H.al≠[]):Shp H P k (.blk (40000+k) 0 [] 3 0 H.le.length) (.blk (50000+k) 0 [] 13 0 H.al.length) [(40000+k,0,one ⟨3,H.le.map MLet.cs,2,false⟩),(50000+k,0,one ⟨13,H.al.map MAl.cs,2,false⟩),(60000+k,0,one ⟨4,P.map MDig.cs,2,false⟩)] (60000+k)
def MHeard.zero:MHeard:=⟨zdisk,[],[],none,[],[]⟩
attribute [go_sem] MHeard.zero
def ym (w:MWit) (me:Int) (l:MLet):MHeard:=
 if yr w&&(qu l&&mIn me 1 20) then
  (if ((zj l.text).2.1==0)&&(((zj l.text).1.kind==3)&&decide (l.from_>0)) then yh w (zx w.disk) me l.from_ (zj l.text).1.session ⟨(zj l.text).1.size,(zj l.text).1.root⟩
   else if ((zj l.text).2.1==0)&&(((zj l.text).1.kind==5)&&(l.from_==0)) then zZ w (zx w.disk) me (zj l.text).1
   else .base w)
 else .zero
theorem zbu {w:MWit} (h:yr w=true):w.wishes.length≤8:=by
 unfold yr at h
 rw [Bool.and_eq_true,decide_eq_true_eq] at h
 exact h.1
theorem zfL (w:MWit) (held:MPt) (me who s:Int) (p:MPt):(yh w held me who s p).letters.length≤100∧(yh w held me who s p).alarms.length≤100:=by
 unfold yh
 repeat' split
 all_goals simp [MHeard.base]
theorem zfa (w:MWit) (held:MPt) (me:Int) (m:MMsg) (h:w.wishes.length≤8):(zZ w held me m).letters.length≤100∧(zZ w held me m).alarms.length≤100:=by
 have h1:=zii held m.size m.proof w.wishes
 have h2:=zds me (gF held m.size m.proof w.wishes).p (gF held m.size m.proof w.wishes).al (gF held m.size m.proof w.wishes).left
 unfold zZ
 repeat' split
 ·simp [MHeard.base]
 ·constructor
  ·simp [MHeard.base]
  ·show (gF held m.size m.proof w.wishes).al.length≤100;omega
 ·simp [MHeard.base]
 ·constructor
  ·show (hvF me (gF held m.size m.proof w.wishes).p (gF held m.size m.proof w.wishes).al (gF held m.size m.proof w.wishes).left).le.length≤100;omega
  ·show (hvF me (gF held m.size m.proof w.wishes).p (gF held m.size m.proof w.wishes).al (gF held m.size m.proof w.wishes).left).al.length≤100;omega
end Go.Proofs.YtpjpkmhaffmbmaaGreat.E
end
section
namespace Go.Proofs.YtpjpkmhaffmbmaaGreat.E
open Go Go.RowKit
set_option linter.unusedVariables false
set_option linter.unusedSimpArgs false
def zhL (h:Int) (x:MWish):Bool:=mIn x.who 1 20&&(mIn x.session 1 1000000&&mIn x.pt.size (h+1) 256)
theorem zc2 {h:Int} {l:List MWish} (hi:0<l.length):xg h l 0=zhL h l[0]:=by
 unfold xg zhL
 rw [List.getElem?_eq_getElem hi]
 simp
theorem zap {h:Int} {l:List MWish} {j:Nat} (hi:j+1<l.length):xg h l (j+1)=(zhL h l[j+1]&&decide (l[j].who<l[j+1].who)):=by
 unfold xg zhL
 rw [List.getElem?_eq_getElem hi]
 simp only [List.getElem?_eq_getElem (show j<l.length by omega)]
 cases mIn l[j+1].who 1 20<;>cases decide (l[j].who<l[j+1].who)<;>simp
theorem witOk_iff {w:MWit}:yr w=true↔w.wishes.length≤8∧w.wishes.Pairwise (fun x y=>x.who<y.who)∧∀x∈w.wishes,zhL (zx w.disk).size x=true:=by
 obtain ⟨d,l⟩:=w
 unfold yr
 simp only [Bool.and_eq_true,decide_eq_true_eq,List.all_eq_true,List.mem_range]
 generalize (zx d).size=h
 constructor
 ·rintro ⟨h8,ha⟩
  have adj:∀j (hj:j+1<l.length),l[j].who<l[j+1].who:=fun j hj=>by
   have:=ha (j+1) hj
   rw [zap hj,Bool.and_eq_true,decide_eq_true_eq] at this
   exact this.2
  refine ⟨h8,List.pairwise_iff_getElem.2 fun i j hi hj hij=>?_,fun x hx=>?_⟩
  ·induction j with
   | zero=>omega
   | succ j ih=>
    rcases Nat.lt_succ_iff_lt_or_eq.1 hij with hij | rfl
    ·exact Int.lt_trans (ih (by omega) hij) (adj j hj)
    ·exact adj i hj
  ·obtain ⟨i,hi,rfl⟩:=List.getElem_of_mem hx
   cases i with
   | zero=>rw [←zc2 hi];exact ha 0 hi
   | succ j=>
    have:=ha (j+1) hi
    rw [zap hi,Bool.and_eq_true] at this
    exact this.1
 ·rintro ⟨h8,hp,ha⟩
  refine ⟨h8,fun i hi=>?_⟩
  cases i with
  | zero=>rw [zc2 hi];exact ha _ (List.getElem_mem hi)
  | succ j=>
   rw [zap hi,Bool.and_eq_true,decide_eq_true_eq]
   exact ⟨ha _ (List.getElem_mem hi),List.pairwise_iff_getElem.1 hp j (j+1) (by omega) hi (by omega)⟩
theorem zoP (held:MPt) (size:Int) (P:List MDig) (l:List MWish):∀s:GSt,s.taken=true→(l.foldl (yY held size P) s).taken=true∧(l.foldl (yY held size P) s).p=s.p:=by
 induction l with
 | nil=>intro s h;exact ⟨h,rfl⟩
 | cons a l ih=>
  intro s h
  have e:yY held size P s a={s with left:=s.left++[a]}:=by unfold yY;rw [if_pos (.inl h)]
  rw [List.foldl_cons,e]
  exact ih _ h
theorem zbp (held:MPt) (size:Int) (P:List MDig) (l:List MWish):∀s:GSt,s.taken=false→(l.foldl (yY held size P) s).taken=true→∃x∈l,(l.foldl (yY held size P) s).p=x.pt∧x.pt.size=size∧mGC held x.pt (P.map MDig.bd)=0:=by
 induction l with
 | nil=>intro s h h2;rw [List.foldl_nil,h] at h2;cases h2
 | cons a l ih=>
  intro s h h2
  rw [List.foldl_cons] at h2 ⊢
  by_cases c:s.taken=true∨a.pt.size≠size
  ·have e:yY held size P s a={s with left:=s.left++[a]}:=by unfold yY;rw [if_pos c]
   rw [e] at h2 ⊢
   obtain ⟨x,hx,r⟩:=ih {s with left:=s.left++[a]} h h2
   exact ⟨x,List.mem_cons_of_mem _ hx,r⟩
  ·by_cases g:mGC held a.pt (P.map MDig.bd)≠0
   ·have e:yY held size P s a={s with al:=s.al++[⟨2,a.who,held,a.pt,mGC held a.pt (P.map MDig.bd)⟩]}:=by unfold yY;rw [if_neg c,if_pos g]
    rw [e] at h2 ⊢
    obtain ⟨x,hx,r⟩:=ih {s with al:=s.al++[⟨2,a.who,held,a.pt,mGC held a.pt (P.map MDig.bd)⟩]} h h2
    exact ⟨x,List.mem_cons_of_mem _ hx,r⟩
   ·have e:yY held size P s a={s with left:=s.left++[a],taken:=true,p:=a.pt}:=by unfold yY;rw [if_neg c,if_neg g]
    rw [e] at h2 ⊢
    refine ⟨a,List.mem_cons_self ..,(zoP held size P l _ rfl).2,?_,?_⟩
    ·exact Classical.byContradiction fun h=>c (.inr h)
    ·exact Classical.byContradiction fun h=>g h
theorem zhr (held:MPt) (size:Int) (P:List MDig) (l:List MWish):∀s:GSt,∃l',(l.foldl (yY held size P) s).left=s.left++l'∧l'.Sublist l:=by
 induction l with
 | nil=>intro s;exact ⟨[],(List.append_nil _).symm,List.Sublist.refl _⟩
 | cons a l ih=>
  intro s
  rw [List.foldl_cons]
  obtain ⟨l',e,hs⟩:=ih (yY held size P s a)
  have:(yY held size P s a).left=s.left++[a]∨(yY held size P s a).left=s.left:=by
   unfold yY
   split
   ·exact .inl rfl
   ·split
    ·exact .inr rfl
    ·exact .inl rfl
  rcases this with t | t
  ·exact ⟨a::l',by rw [e,t,List.append_assoc];rfl,hs.cons_cons a⟩
  ·exact ⟨l',by rw [e,t],hs.cons a⟩
theorem zgm (me:Int) (p:MPt) (l:List MWish):∀s:HSt,∃l',(l.foldl (xM me p) s).rest=s.rest++l'∧l'.Sublist l∧∀x∈l',x.pt.size>p.size:=by
 induction l with
 | nil=>intro s;exact ⟨[],(List.append_nil _).symm,List.Sublist.refl _,by simp⟩
 | cons a l ih=>
  intro s
  rw [List.foldl_cons]
  obtain ⟨l',e,hs,hg⟩:=ih (xM me p s a)
  have:((xM me p s a).rest=s.rest++[a]∧a.pt.size>p.size)∨(xM me p s a).rest=s.rest:=by
   unfold xM
   split
   ·exact .inr rfl
   ·split
    ·exact .inr rfl
    ·split
     ·rename_i h;exact .inl ⟨rfl,h⟩
     ·exact .inr rfl
  rcases this with ⟨t,ha⟩ | t
  ·exact ⟨a::l',by rw [e,t,List.append_assoc];rfl,hs.cons_cons a,fun x hx=>by rcases List.mem_cons.1 hx with rfl | hx;exact ha;exact hg x hx⟩
  ·exact ⟨l',by rw [e,t],hs.cons a,hg⟩
end Go.Proofs.YtpjpkmhaffmbmaaGreat.E
end
section
namespace Go.Proofs.YtpjpkmhaffmbmaaGreat.E
open Go Go.RowKit
set_option linter.unusedVariables false
set_option linter.unusedSimpArgs false
theorem zfK (x:MWish):∀(l:List MWish) (out:List MWish),(∀y∈l,x.who<y.who)→l.foldl (ya x) (out,true)=(out++l,true)
 | [],out,h=>by rw [List.append_nil];rfl
 | y::l,out,h=>by
  have hy:=h y (List.mem_cons_self ..)
  have e:ya x (out,true) y=(out++[y],true):=by
   unfold ya
   rw [if_neg (by simp),if_neg (by omega)]
  rw [List.foldl_cons,e,zfK x l _ fun z hz=>h z (List.mem_cons_of_mem _ hz),List.append_assoc]
  rfl
def wFin (x:MWish) (s:List MWish × Bool):List MWish:=if s.2 then s.1 else s.1++[x]
theorem ziY (x:MWish):∀(l out:List MWish),l.Pairwise (fun a b=>a.who<b.who)→wFin x (l.foldl (ya x) (out,false))=out++(l.filter (fun y=>decide (y.who<x.who))++x::l.filter fun y=>decide (x.who<y.who))
 | [],out,h=>rfl
 | y::l,out,h=>by
  obtain ⟨h1,h2⟩:=List.pairwise_cons.1 h
  rw [List.foldl_cons]
  by_cases c:y.who<x.who
  ·have e:ya x (out,false) y=(out++[y],false):=by
    unfold ya
    rw [if_neg (fun q=>by have:=q.2;omega),if_neg (by omega)]
   rw [e,ziY x l _ h2,List.filter_cons_of_pos (by simpa using c),List.filter_cons_of_neg (by simp;omega),List.append_assoc]
   rfl
  ·have hlt:∀z∈l,x.who<z.who:=fun z hz=>by have:=h1 z hz;omega
   have f1:l.filter (fun y=>decide (y.who<x.who))=[]:=by
    rw [List.filter_eq_nil_iff]
    intro z hz
    have:=hlt z hz
    simp
    omega
   have f2:l.filter (fun y=>decide (x.who<y.who))=l:=by
    rw [List.filter_eq_self]
    intro z hz
    simpa using hlt z hz
   rw [List.filter_cons_of_neg (by simpa using c),f1]
   by_cases g:y.who=x.who
   ·have e:ya x (out,false) y=(out++[x],true):=by
     unfold ya
     rw [if_pos ⟨rfl,by omega⟩,if_pos g]
    rw [e,zfK x l _ hlt,List.filter_cons_of_neg (by simp;omega),f2]
    simp [wFin]
   ·have e:ya x (out,false) y=(out++[x]++[y],true):=by
     unfold ya
     rw [if_pos ⟨rfl,by omega⟩,if_neg g]
    rw [e,zfK x l _ hlt,List.filter_cons_of_pos (by simp;omega),f2]
    simp [wFin]
theorem zh6 {l:List MWish} (h:l.Pairwise fun a b=>a.who<b.who) (x:MWish):yE l x=l.filter (fun y=>decide (y.who<x.who))++x::l.filter fun y=>decide (x.who<y.who):=by
 have:=ziY x l [] h
 rw [List.nil_append] at this
 exact this
theorem zbv {l:List MWish} (h:l.Pairwise fun a b=>a.who<b.who) (x:MWish):(yE l x).Pairwise (fun a b=>a.who<b.who)∧∀y∈yE l x,y=x∨y∈l:=by
 rw [zh6 h]
 constructor
 ·refine List.pairwise_append.2 ⟨h.sublist List.filter_sublist,List.pairwise_cons.2 ⟨fun y hy=>?_,h.sublist List.filter_sublist⟩,fun a ha b hb=>?_⟩
  ·simpa using (List.mem_filter.1 hy).2
  ·have ha:=(List.mem_filter.1 ha).2
   simp only [decide_eq_true_eq] at ha
   rcases List.mem_cons.1 hb with rfl | hb
   ·exact ha
   ·have hb:=(List.mem_filter.1 hb).2
    simp only [decide_eq_true_eq] at hb
    omega
 ·intro y hy
  rcases List.mem_append.1 hy with hy | hy
  ·exact .inr (List.mem_filter.1 hy).1
  ·rcases List.mem_cons.1 hy with rfl | hy
   ·exact .inl rfl
   ·exact .inr (List.mem_filter.1 hy).1
end Go.Proofs.YtpjpkmhaffmbmaaGreat.E
end
section
namespace Go.Proofs.YtpjpkmhaffmbmaaGreat.E
open Go Go.RowKit
set_option linter.unusedVariables false
set_option linter.unusedSimpArgs false
theorem zlz {w:MWit} {me who s:Int} {p:MPt} (h:yr w=true) (h1:mIn who 1 20=true) (h2:mIn s 1 1000000=true) (h3:p.size≤256):
  yr ⟨(yh w (zx w.disk) me who s p).disk,(yh w (zx w.disk) me who s p).wishes⟩=true∧(yh w (zx w.disk) me who s p).disk=w.disk∧(yh w (zx w.disk) me who s p).kept=none∧(yh w (zx w.disk) me who s p).raws=[]:=by
 unfold yh
 split
 ·exact ⟨h,rfl,rfl,rfl⟩
 ·rename_i c1
  split
  ·exact ⟨h,rfl,rfl,rfl⟩
  ·split
   ·exact ⟨h,rfl,rfl,rfl⟩
   ·rename_i c4
    split
    ·rename_i h8
     obtain ⟨_,hp,ha⟩:=witOk_iff.1 h
     obtain ⟨q1,q2⟩:=zbv hp ⟨who,s,p⟩
     refine ⟨witOk_iff.2 ⟨h8,q1,fun x hx=>?_⟩,rfl,rfl,rfl⟩
     rcases q2 x hx with rfl | hx
     ·show (mIn who 1 20&&(mIn s 1 1000000&&mIn p.size ((zx w.disk).size+1) 256))=true
      rw [h1,h2,mIn_iff.2 ⟨by omega,h3⟩]
      rfl
     ·exact ha x hx
    ·exact ⟨h,rfl,rfl,rfl⟩
theorem ziW {a b:Int} {x:MWish} (h:zhL a x=true) (hb:b+1≤x.pt.size):zhL b x=true:=by
 simp only [zhL,Bool.and_eq_true,mIn_iff] at h ⊢
 exact ⟨h.1,h.2.1,by omega⟩
structure GTop (w:MWit) (H:MHeard):Prop where
 ok:yr ⟨H.disk,H.wishes⟩=true
 no:H.kept=none→H.disk=w.disk∧H.raws=[]
 yes:∀k,H.kept=some k→(k.old=zx w.disk∧k.new=zx H.disk)∧(mGC k.old k.new (k.proof.map MDig.bd)=0∧H.disk=zF w.disk H.raws)∧(zx w.disk).size<(zx H.disk).size
theorem zku {w:MWit} {me:Int} {m:MMsg} (h:yr w=true):GTop w (zZ w (zx w.disk) me m):=by
 obtain ⟨h8,hp,ha⟩:=witOk_iff.1 h
 have hbase:GTop w (.base w):=⟨h,fun _=>⟨rfl,rfl⟩,fun k e=>(by cases e)⟩
 obtain ⟨l',e1,s1⟩:=zhr (zx w.disk) m.size m.proof w.wishes ⟨[],false,.zero,[]⟩
 have tk:=zbp (zx w.disk) m.size m.proof w.wishes ⟨[],false,.zero,[]⟩ rfl
 have e1:(gF (zx w.disk) m.size m.proof w.wishes).left=l':=e1
 have tk:(gF (zx w.disk) m.size m.proof w.wishes).taken=true→∃x∈w.wishes,(gF (zx w.disk) m.size m.proof w.wishes).p=x.pt∧x.pt.size=m.size∧mGC (zx w.disk) x.pt (m.proof.map MDig.bd)=0:=tk
 unfold zZ
 generalize gF (zx w.disk) m.size m.proof w.wishes=S at *
 split
 ·exact hbase
 ·split
  ·refine ⟨witOk_iff.2 ⟨?_,?_,?_⟩,fun _=>⟨rfl,rfl⟩,fun k e=>(by cases e)⟩
   ·show S.left.length≤8
    rw [e1]
    have:=s1.length_le
    omega
   ·show S.left.Pairwise _
    rw [e1]
    exact hp.sublist s1
   ·show ∀x∈S.left,zhL (zx w.disk).size x=true
    rw [e1]
    exact fun x hx=>ha x (s1.subset hx)
  ·rename_i ht
   split
   ·exact hbase
   ·rename_i hR
    obtain ⟨x,hx,p1,p2,p3⟩:=tk (by cases q:S.taken<;>simp_all)
    have hh:=wV hR
    obtain ⟨l2,e2,s2,g2⟩:=zgm me S.p S.left ⟨[],S.al,[]⟩
    have e2:(hvF me S.p S.al S.left).rest=l2:=e2
    generalize hvF me S.p S.al S.left=H2 at *
    have hx1:=ha x hx
    simp only [zhL,Bool.and_eq_true,mIn_iff] at hx1
    have hsz:(zx w.disk).size<S.p.size:=by rw [p1];omega
    have s3:l2.Sublist w.wishes:=s2.trans (e1▸s1)
    refine ⟨witOk_iff.2 ⟨?_,?_,?_⟩,fun e=>(by cases e),fun k e=>?_⟩
    ·show H2.rest.length≤8
     rw [e2]
     have:=s3.length_le
     omega
    ·show H2.rest.Pairwise _
     rw [e2]
     exact hp.sublist s3
    ·show ∀y∈H2.rest,zhL (zx (zF w.disk (yT w.disk S.p.size S.p.root))).size y=true
     rw [e2,hh]
     intro y hy
     have:=g2 y hy
     exact ziW (ha y (s3.subset hy)) (by show S.p.size+1≤_;omega)
    ·cases e
     refine ⟨⟨rfl,?_⟩,⟨?_,rfl⟩,?_⟩
     ·show S.p=zx (zF w.disk (yT w.disk S.p.size S.p.root))
      rw [hh]
     ·show mGC (zx w.disk) S.p (m.proof.map MDig.bd)=0
      rw [p1]
      exact p3
     ·show _<(zx (zF w.disk (yT w.disk S.p.size S.p.root))).size
      rw [hh]
      exact hsz
end Go.Proofs.YtpjpkmhaffmbmaaGreat.E
end
section
namespace Go.Proofs.YtpjpkmhaffmbmaaGreat.E
open Go Go.RowKit
set_option linter.unusedVariables false
set_option linter.unusedSimpArgs false
def zcQ (me:Int) (now:MPt) (l:MLet):Prop:=(zj l.text).2.1=0∧l.from_=me∧
 (((zj l.text).1.kind=6∧((zj l.text).1.size=now.size∧(zj l.text).1.root=now.root)∧1≤now.size)∨((zj l.text).1.kind=4∧l.to_=0))
theorem zgn (me:Int) (p:MPt) (l:List MWish) (Q:MLet→Prop) (hq:∀x∈l,yR x.pt p=true→Q (zbe me x.who x.session p)):∀s:HSt,(∀y∈s.le,Q y)→∀y∈(l.foldl (xM me p) s).le,Q y:=by
 induction l with
 | nil=>intro s h;exact h
 | cons a l ih=>
  intro s h
  rw [List.foldl_cons]
  refine ih (fun x hx=>hq x (List.mem_cons_of_mem _ hx)) _ ?_
  unfold xM
  split
  ·rename_i e
   intro y hy
   rcases List.mem_append.1 hy with hy | hy
   ·exact h y hy
   ·rw [List.mem_singleton.1 hy]
    exact hq a (List.mem_cons_self ..) e
  ·split
   ·exact h
   ·split
    ·exact h
    ·exact h
theorem zaL {m:MMsg} (hok:zC m=true) (hr:m.root.ok) (hd:∀d∈m.proof,d.ok):zj (zr m)=(m,0,0):=by
 unfold zr
 rw [if_pos hok]
 exact ziS hok hr hd
theorem zlb {me who s:Int} {p:MPt} (hs:1≤s∧s≤1000000) (hz:1≤p.size∧p.size≤256) (hr:p.root.ok):zcQ me p (zbe me who s p):=by
 have h:=zaL (m:=zkb s p) (zdU hs ⟨by omega,hz.2⟩) hr (by intro d hd;cases hd)
 unfold zcQ
 rw [show (zbe me who s p).text=zr (zkb s p) from rfl,h]
 exact ⟨rfl,rfl,.inl ⟨rfl,⟨rfl,rfl⟩,hz.1⟩⟩
theorem zjI {me a b:Int} {now:MPt} (ha:0≤a∧a≤256) (hb:0≤b∧b≤256):zcQ me now (zd1 me a b):=by
 have h:=zaL (m:=⟨4,0,a,b,dig0,0,[],[]⟩) (zoc ha hb) yy (by intro d hd;cases hd)
 unfold zcQ
 rw [show (zd1 me a b).text=zr ⟨4,0,a,b,dig0,0,[],[]⟩ from rfl,h]
 exact ⟨rfl,rfl,.inr ⟨rfl,rfl⟩⟩
theorem zi0 {w:MWit} {me who s:Int} {p:MPt} (hs:1≤s∧s≤1000000) (hz:0≤p.size∧p.size≤256) (hr:p.root.ok):∀l∈(yh w (zx w.disk) me who s p).letters,zcQ me (zx w.disk) l:=by
 unfold yh
 split
 ·intro l hl;cases hl
 ·rename_i c1
  split
  ·rename_i e
   intro l hl
   have hp:p=zx w.disk:=by
    have e:=e
    generalize zx w.disk=q at *
    obtain ⟨a,⟨a1,a2,a3,a4⟩⟩:=p
    obtain ⟨b,⟨b1,b2,b3,b4⟩⟩:=q
    simp only [yR,Bool.and_eq_true,beq_iff_eq] at e
    obtain ⟨h1,h2,h3,h4,h5⟩:=e
    have:a1=b1:=by omega
    have:a2=b2:=by omega
    have:a3=b3:=by omega
    have:a4=b4:=by omega
    subst_vars
    rfl
   have hl:l=zbe me who s p:=List.mem_singleton.1 hl
   rw [hl,←hp]
   exact zlb hs ⟨by omega,hz.2⟩ hr
  ·split
   ·intro l hl;cases hl
   ·split
    ·intro l hl
     have hl:l=zd1 me (zx w.disk).size p.size:=List.mem_singleton.1 hl
     rw [hl]
     exact zjI (wN w.disk) hz
    ·intro l hl;cases hl
theorem zie {w:MWit} {me:Int} {m:MMsg} (h:yr w=true) (hwo:∀x∈w.wishes,x.pt.root.ok):∀l∈(zZ w (zx w.disk) me m).letters,zcQ me (zx (zZ w (zx w.disk) me m).disk) l:=by
 obtain ⟨h8,hp,ha⟩:=witOk_iff.1 h
 obtain ⟨l',e1,s1⟩:=zhr (zx w.disk) m.size m.proof w.wishes ⟨[],false,.zero,[]⟩
 have tk:=zbp (zx w.disk) m.size m.proof w.wishes ⟨[],false,.zero,[]⟩ rfl
 have e1:(gF (zx w.disk) m.size m.proof w.wishes).left=l':=e1
 have tk:(gF (zx w.disk) m.size m.proof w.wishes).taken=true→∃x∈w.wishes,(gF (zx w.disk) m.size m.proof w.wishes).p=x.pt∧x.pt.size=m.size∧mGC (zx w.disk) x.pt (m.proof.map MDig.bd)=0:=tk
 unfold zZ
 generalize gF (zx w.disk) m.size m.proof w.wishes=S at *
 split
 ·intro l hl;cases hl
 ·split
  ·intro l hl;cases hl
  ·rename_i ht
   split
   ·intro l hl;cases hl
   ·rename_i hR
    obtain ⟨x,hx,p1,p2,p3⟩:=tk (by cases q:S.taken<;>simp_all)
    have hx1:=ha x hx
    simp only [zhL,Bool.and_eq_true,mIn_iff] at hx1
    have hb:=wN w.disk
    intro l hl
    show zcQ me (zx (zF w.disk (yT w.disk S.p.size S.p.root))) l
    rw [wV hR]
    refine zgn me S.p S.left (zcQ me ⟨S.p.size,S.p.root⟩) (fun y hy e=>?_) ⟨[],S.al,[]⟩ (fun y hy=>by cases hy) l hl
    rw [e1] at hy
    have hy1:=ha y (s1.subset hy)
    simp only [zhL,Bool.and_eq_true,mIn_iff] at hy1
    exact zlb (by omega) ⟨by show 1≤S.p.size;rw [p1];omega,by show S.p.size≤256;rw [p1];omega⟩ (by show S.p.root.ok;rw [p1];exact hwo x hx)
theorem GTop.vouch {w:MWit} {H:MHeard} (h:yr ⟨H.disk,H.wishes⟩=true∧H.disk=w.disk∧H.kept=none∧H.raws=[]):GTop w H:=
 ⟨h.1,fun _=>⟨h.2.1,h.2.2.2⟩,fun k e=>by rw [h.2.2.1] at e;cases e⟩
theorem ziX {w:MWit} {me:Int} {l:MLet} (hw:yr w=true) (hl:qu l=true) (hm:mIn me 1 20=true) (hwo:∀x∈w.wishes,x.pt.root.ok):
  GTop w (ym w me l)∧∀x∈(ym w me l).letters,zcQ me (zx (ym w me l).disk) x:=by
 unfold ym
 rw [if_pos (by rw [hw,hl,hm];rfl)]
 have hinv:=qC l.text
 generalize zj l.text=W at *
 obtain ⟨x,code,at_⟩:=W
 simp only at hinv ⊢
 split
 ·rename_i c
  simp only [Bool.and_eq_true,beq_iff_eq,decide_eq_true_eq] at c
  obtain ⟨c1,c2,c3⟩:=c
  obtain ⟨i1,i2,-,-⟩:=hinv c1
  have ok:=WOk.of i1
  have hs:1≤x.session∧x.session≤1000000:=by
   simp only [zC,Bool.and_eq_true] at i1
   have h:=i1.2.1
   rw [c2] at h
   exact mIn_iff.1 h
  have hf:mIn l.from_ 1 20=true:=by
   simp only [qu,Bool.and_eq_true,mIn_iff] at hl
   exact mIn_iff.2 ⟨by omega,hl.1.2⟩
  have hv:=zlz (w:=w) (me:=me) (p:=⟨x.size,x.root⟩) hw hf (mIn_iff.2 hs) ok.z.2
  refine ⟨.vouch hv,?_⟩
  rw [hv.2.1]
  exact zi0 hs ok.z i2
 ·split
  ·exact ⟨zku hw,zie hw hwo⟩
  ·exact ⟨⟨hw,fun _=>⟨rfl,rfl⟩,fun k e=>(by cases e)⟩,fun y hy=>(by cases hy)⟩
end Go.Proofs.YtpjpkmhaffmbmaaGreat.E
end
section
namespace Go.Proofs.YtpjpkmhaffmbmaaGreat.E
open Go Go.RowKit
set_option linter.unusedVariables false
set_option linter.unusedSimpArgs false
structure HMore (w:MWit) (H:MHeard):Prop where
 d:H.disk.ok
 ws:H.wishes.length≤17
 r:H.raws.length≤8
 l:H.letters.length≤100
 a:H.alarms.length≤100
 k:∀k,H.kept=some k→(∀d∈k.proof,d.ok)∧k.proof.length≤1000
 n:H.kept=none→H.raws=[]
 s:∀k,H.kept=some k→H.raws=yT w.disk k.new.size k.new.root∧H.raws≠[]
 x:(∀x∈w.wishes,x.pt.root.ok)→∀x∈H.wishes,x.pt.root.ok
 v:∀r∈H.raws,r.value<18446744073709551616
theorem ziN (d:MDisk) (size:Int) (root:MDig):(yT d size root).length≤8:=by
 rw [xq]
 split
 ·exact Nat.le_refl 8
 ·exact Nat.zero_le _
theorem HMore.base {w:MWit} (hd:w.disk.ok) (h:w.wishes.length≤17):HMore w (.base w):=
 ⟨hd,h,Nat.zero_le _,Nat.zero_le _,Nat.zero_le _,fun k e=>(by cases e),fun _=>rfl,fun k e=>(by cases e),fun h=>h,fun r hr=>(by cases hr)⟩
theorem zhM {w:MWit} {held:MPt} {me who s:Int} {p:MPt} (hd:w.disk.ok) (h:w.wishes.length≤8) (hp:p.root.ok):HMore w (yh w held me who s p):=by
 have hb:=HMore.base hd (show w.wishes.length≤17 by omega)
 have hl:=qM h ⟨who,s,p⟩
 have hm:(∀x∈w.wishes,x.pt.root.ok)→∀x∈yE w.wishes ⟨who,s,p⟩,x.pt.root.ok:=by
  intro hw
  unfold yE
  have key:∀(l:List MWish) (st:List MWish × Bool),(∀x∈l,x.pt.root.ok)→(∀x∈st.1,x.pt.root.ok)→∀x∈(l.foldl (ya ⟨who,s,p⟩) st).1,x.pt.root.ok:=by
   intro l
   induction l with
   | nil=>intro st _ h;exact h
   | cons a l ih=>
    intro st h1 h2
    rw [List.foldl_cons]
    refine ih _ (fun x hx=>h1 x (List.mem_cons_of_mem _ hx)) ?_
    have ha:=h1 a (List.mem_cons_self ..)
    unfold ya
    intro x hx
    repeat' split at hx
    all_goals
     try simp only [List.mem_append,List.mem_singleton,List.mem_cons,List.not_mem_nil,or_false] at hx
    all_goals first
     | exact h2 x hx
     | (rcases hx with hx | rfl
        ·exact h2 x hx
        ·first | exact ha | exact hp)
     | (rcases hx with (hx | rfl) | rfl
        ·exact h2 x hx
        ·exact hp
        ·exact ha)
     | (rcases hx with hx | rfl | rfl
        ·exact h2 x hx
        ·exact hp
        ·exact ha)
  have hk:=key w.wishes ([],false) hw (fun x hx=>by cases hx)
  split
  ·exact hk
  ·intro x hx
   rcases List.mem_append.1 hx with hx | hx
   ·exact hk x hx
   ·rw [List.mem_singleton.1 hx];exact hp
 unfold yh
 split
 ·exact hb
 ·split
  ·exact ⟨hd,hb.ws,Nat.zero_le _,by show 1≤100;omega,Nat.zero_le _,fun k e=>(by cases e),fun _=>rfl,fun k e=>(by cases e),fun h=>h,fun r hr=>(by cases hr)⟩
  ·split
   ·exact ⟨hd,hb.ws,Nat.zero_le _,Nat.zero_le _,by show 1≤100;omega,fun k e=>(by cases e),fun _=>rfl,fun k e=>(by cases e),fun h=>h,fun r hr=>(by cases hr)⟩
   ·split
    ·exact ⟨hd,hl,Nat.zero_le _,by show 1≤100;omega,Nat.zero_le _,fun k e=>(by cases e),fun _=>rfl,fun k e=>(by cases e),hm,fun r hr=>(by cases hr)⟩
    ·exact hb
theorem zgq {w:MWit} {held:MPt} {me:Int} {m:MMsg} (hd:w.disk.ok) (h:w.wishes.length≤8) (hm:∀d∈m.proof,d.ok) (hml:m.proof.length≤1000) (hwo:∀x∈w.wishes,x.pt.root.ok):HMore w (zZ w held me m):=by
 have hb:=HMore.base hd (show w.wishes.length≤17 by omega)
 have h1:=zii held m.size m.proof w.wishes
 have h2:=zds me (gF held m.size m.proof w.wishes).p (gF held m.size m.proof w.wishes).al (gF held m.size m.proof w.wishes).left
 obtain ⟨l',e1,s1⟩:=zhr held m.size m.proof w.wishes ⟨[],false,.zero,[]⟩
 have tk:(gF held m.size m.proof w.wishes).taken=true→∃x∈w.wishes,(gF held m.size m.proof w.wishes).p=x.pt∧x.pt.size=m.size∧mGC held x.pt (m.proof.map MDig.bd)=0:=zbp held m.size m.proof w.wishes ⟨[],false,.zero,[]⟩ rfl
 have e1:(gF held m.size m.proof w.wishes).left=l':=e1
 obtain ⟨l2,e2,s2,-⟩:=zgm me (gF held m.size m.proof w.wishes).p (gF held m.size m.proof w.wishes).left ⟨[],(gF held m.size m.proof w.wishes).al,[]⟩
 have e2:(hvF me (gF held m.size m.proof w.wishes).p (gF held m.size m.proof w.wishes).al (gF held m.size m.proof w.wishes).left).rest=l2:=e2
 unfold zZ
 generalize gF held m.size m.proof w.wishes=S at *
 split
 ·exact hb
 ·split
  ·exact ⟨hd,by show S.left.length≤17;omega,Nat.zero_le _,Nat.zero_le _,by show S.al.length≤100;omega,fun k e=>(by cases e),fun _=>rfl,fun k e=>(by cases e),fun hw x hx=>hw x (s1.subset (e1▸hx)),fun r hr=>(by cases hr)⟩
  ·rename_i ht
   split
   ·exact hb
   ·rename_i hR
    obtain ⟨x,hx,p1,p2,p3⟩:=tk (by cases q:S.taken<;>simp_all)
    generalize hvF me S.p S.al S.left=T at *
    refine ⟨zko hd (by rw [p1];exact hwo x hx),by show T.rest.length≤17;omega,ziN _ _ _,by show T.le.length≤100;omega,by show T.al.length≤100;omega,fun k e=>?_,fun e=>(by cases e),fun k e=>?_,fun hw x hx=>hw x (s1.subset (e1▸s2.subset (e2▸hx))),ze3 (by rw [p1];exact hwo x hx)⟩
    ·cases e;exact ⟨hm,hml⟩
    ·cases e;exact ⟨rfl,hR⟩
theorem zaq {w:MWit} {me:Int} {l:MLet} (hd:w.disk.ok) (hwo:∀x∈w.wishes,x.pt.root.ok):HMore w (ym w me l):=by
 have hinv:=qC l.text
 have hro:=zhf (s:=l.text)
 have hln:=zb6 l.text
 unfold ym
 generalize zj l.text=W at *
 obtain ⟨x,code,at_⟩:=W
 simp only at hinv hro hln ⊢
 split
 ·rename_i h
  simp only [Bool.and_eq_true] at h
  have h8:=zbu h.1
  split
  ·exact zhM hd h8 hro
  ·split
   ·rename_i c
    simp only [Bool.and_eq_true,beq_iff_eq] at c
    obtain ⟨i1,i2,i3,-⟩:=hinv c.1
    exact zgq hd h8 i3 hln.1 hwo
   ·exact HMore.base hd (by omega)
 ·exact ⟨wC,Nat.zero_le _,Nat.zero_le _,Nat.zero_le _,Nat.zero_le _,fun k e=>(by cases e),fun _=>rfl,fun k e=>(by cases e),fun _ x hx=>(by cases hx),fun r hr=>(by cases hr)⟩
theorem zkL {d:MDisk} {l:List MRaw} {cut:Int} (hd:d.ok) (hl:∀r∈l,r.value<18446744073709551616):(zcc d l cut).ok:=zb5 hd (qE hl _)
theorem zj0 {d:MDisk} {cut:Int} (hd:d.ok):(zcc d (qh d) cut).ok:=zkL hd fun r hr=>by rw [zj5 d r hr];decide
theorem zdz {w:MWit} {H:MHeard} (h:HMore w H) (cut:Nat) (j:Int):
  (cut<H.raws.length→zx (zcc (zcc w.disk H.raws cut) (qh (zcc w.disk H.raws cut)) j)=zx w.disk)∧
  (cut=H.raws.length→∀k,H.kept=some k→zx (zcc (zcc w.disk H.raws cut) (qh (zcc w.disk H.raws cut)) j)=k.new):=by
 have hm:=za2 (zjZ (zcc w.disk H.raws cut) j)
 rw [hm]
 refine ⟨fun hlt=>?_,fun he k hk=>?_⟩
 ·cases hk:H.kept with
  | none=>
   rw [h.n hk] at hlt
   cases hlt
  | some k=>
   rw [(h.s k hk).1] at hlt ⊢
   exact za2 (zjA hlt)
 ·have e:zcc w.disk H.raws cut=zF w.disk H.raws:=by
   unfold zcc
   rw [show ((cut:Int)).toNat=cut from rfl,he,List.take_length]
  obtain ⟨e1,e2⟩:=h.s k hk
  rw [e]
  rw [e1] at e2 ⊢
  exact wV e2
end Go.Proofs.YtpjpkmhaffmbmaaGreat.E
end
section
namespace Go.Proofs.YtpjpkmhaffmbmaaGreat.E
open Go Go.RowKit
set_option linter.unusedVariables false
set_option linter.unusedSimpArgs false
theorem zjl {l:List ByteArray} {lo hi:Nat} (h:lo≤hi) (h2:hi≤l.length):(seg l lo hi).length=hi - lo:=by
 unfold seg
 rw [List.length_take,List.length_drop]
 omega
theorem zqy {l:List ByteArray} {lo hi k:Nat} (h:lo+k≤hi):(seg l lo hi).take k=seg l lo (lo+k):=by
 unfold seg
 rw [List.take_take]
 congr 1
 omega
theorem zqw {l:List ByteArray} {lo hi k:Nat} (h:lo+k≤hi):(seg l lo hi).drop k=seg l (lo+k) hi:=by
 unfold seg
 rw [List.drop_take,List.drop_drop]
 congr 1
 omega
def ndB (l:List ByteArray) (x:Nd):BD:=xi (seg l x.1 x.2)
theorem zbW {l:List ByteArray} {D:Nd→BD} {m:Nat}:∀(k lo hi:Nat),lo<hi→hi≤l.length→hi - lo≤k→(∀x,x∈(gN m k lo hi).1∨x∈(gN m k lo hi).2→D x=ndB l x)→jo D m k lo hi=ndB l (lo,hi)
 | 0,lo,hi,h,h2,hk,hD=>by omega
 | k+1,lo,hi,h,h2,hk,hD=>by
  by_cases c:hi≤m∨m≤lo
  ·rw [wM c]
   refine hD (lo,hi) ?_
   by_cases h1:hi≤m
   ·rw [xU h1];simp
   ·rw [xN h1 (c.resolve_left h1)];simp
  ·rw [zb8 c]
   have hs:=xJ (n:=hi - lo) (by omega)
   have e:=xV (m:=m) (k:=k) (lo:=lo) (hi:=hi) (by omega) (by omega)
   rw [zbW k lo (lo+spl (hi - lo)) (by omega) (by omega) (by omega) (fun x hx=>hD x (by
    rw [e]
    rcases hx with hx | hx
    ·exact .inl (List.mem_append_left _ hx)
    ·exact .inr (List.mem_append_left _ hx)))]
   rw [zbW k (lo+spl (hi - lo)) hi (by omega) (by omega) (by omega) (fun x hx=>hD x (by
    rw [e]
    rcases hx with hx | hx
    ·exact .inl (List.mem_append_right _ hx)
    ·exact .inr (List.mem_append_right _ hx)))]
   have hl:=zjl (l:=l) (lo:=lo) (hi:=hi) (by omega) h2
   unfold ndB
   rw [zb7 (l:=seg l lo hi) (by omega),hl,zqy (by omega),zqw (by omega)]
theorem zmi {n:Nat} (h:1≤n):jc n=n∨(jc n=spl n∧2≤n∧jc n<n):=by
 have hb:=js h
 by_cases e:jc n=n
 ·exact .inl e
 ·refine .inr ⟨?_,by omega,by omega⟩
  unfold jc at hb e ⊢
  rw [zjc (j:=n.log2) (by omega) (by omega)]
theorem zdb {l:List ByteArray}:∀(k lo m:Nat),lo<m→m≤l.length→m - lo≤k→xA ((pks k lo m).map (ndB l))=ndB l (lo,m)
 | 0,lo,m,h,h2,hk=>by omega
 | k+1,lo,m,h,h2,hk=>by
  have hb:=js (n:=m - lo) (by omega)
  have e:pks (k+1) lo m=(lo,lo+jc (m - lo))::pks k (lo+jc (m - lo)) m:=by
   rw [pks,if_pos (by omega)]
  rw [e,List.map_cons]
  rcases zmi (n:=m - lo) (by omega) with hh | ⟨h1,h3,h4⟩
  ·have e2:lo+jc (m - lo)=m:=by omega
   rw [e2,qJ (Nat.le_refl m)]
   rfl
  ·have ih:=zdb (l:=l) k (lo+jc (m - lo)) m (by omega) h2 (by omega)
   rw [wr,ih]
   ·have hl:=zjl (l:=l) (lo:=lo) (hi:=m) (by omega) h2
    unfold ndB
    rw [zb7 (l:=seg l lo m) (by omega),hl,zqy (by omega),zqw (by omega),h1]
   ·intro e0
    have:pks k (lo+jc (m - lo)) m=[]:=List.map_eq_nil_iff.1 e0
    cases k with
    | zero=>omega
    | succ k=>rw [pks,if_pos (by omega)] at this;cases this
theorem BD.dig_bd (b:BD):b.dig.bd=b:=by
 obtain ⟨a1,a2,a3,a4⟩:=b
 simp [BD.dig,MDig.bd]
theorem jJ (d:MDig):eqD d d=true:=by simp [eqD]
theorem zn0 (l:List ByteArray):seg l 0 l.length=l:=by unfold seg;simp
theorem zlF (l:List ByteArray) (m:Nat):seg l 0 m=l.take m:=by unfold seg;simp
theorem zgr {l:List ByteArray} (hl:zI l=true) {m:Nat} (hm:m≤l.length):mGC (tPt (l.take m)) (tPt l) ((zQ l m).map MDig.bd)=0:=by
 have h256:=(yK hl).1
 have ht:=jE hl m
 have hln:(l.take m).length=m:=by rw [List.length_take];omega
 have e1:tPt (l.take m)=⟨m,(xi (l.take m)).dig⟩:=by unfold tPt;rw [if_pos ht,hln]
 have e2:tPt l=⟨l.length,(xi l).dig⟩:=by unfold tPt;rw [if_pos hl]
 have hg:jq (m:Int) (l.length:Int)=true:=by
  unfold jq
  simp only [Bool.and_eq_true,mIn_iff,decide_eq_true_eq]
  omega
 have hgo:zQ l m=mGr l m:=by
  unfold zQ zaB
  rw [hl,hg]
  rfl
 rw [hgo,e1,e2]
 unfold mGC
 rw [if_pos hg]
 simp only
 by_cases c:m=0∨m=l.length
 ·rw [zd2 c]
  have hz:xF (m:Int) (l.length:Int)=0:=by
   unfold xF
   rw [if_pos hg,if_pos (by omega)]
  rw [hz,if_pos (by rfl)]
  rcases c with rfl | c
  ·rw [if_pos (by rfl)]
   have e0:xi (l.take 0)=zJ []:=by rw [List.take_zero,xi]
   rw [e0,jJ,if_pos rfl]
   split
   ·rename_i h0
    have:l=[]:=List.length_eq_zero_iff.1 (by omega)
    rw [this,xi,jJ,if_pos rfl]
   ·rfl
  ·by_cases z:m=0
   ·subst z
    have hl0:l=[]:=List.length_eq_zero_iff.1 c.symm
    subst hl0
    rw [if_pos (by rfl)]
    rw [List.take_nil,xi,jJ,if_pos rfl,if_pos (by rfl),if_pos rfl]
   ·rw [if_neg (by omega),if_pos (by omega),c,List.take_length,jJ,if_pos rfl]
 ·have h0:0<m:=by omega
  have h1:m<l.length:=by omega
  have hmg:mGr l m=(gA m l.length).map (ndR l):=by unfold mGr gA;rw [if_neg c]
  have hbd:(mGr l m).map MDig.bd=(gA m l.length).map (ndB l):=by
   rw [hmg,List.map_map]
   refine List.map_congr_left fun x hx=>?_
   show ((xi (seg l x.1 x.2)).dig).bd=_
   rw [BD.dig_bd]
   rfl
  rw [hbd]
  have hlen:(((gA m l.length).map (ndB l)).length:Int)=xF (m:Int) (l.length:Int):=by
   rw [zd3 hg h0 h1,List.length_map]
  rw [if_pos hlen,if_neg (by omega),if_neg (by omega)]
  have ep:(gN m l.length 0 l.length).1=pks m 0 m:=zdv l.length m 0 l.length h0 h1 (by omega) (by omega)
  have hpc:(pks m 0 m).length=jf 9 m:=by
   have:=zdS m 0 m 9 (by omega) (by omega)
   simpa using this
  have et:((gA m l.length).map (ndB l)).take (jf 9 (m:Int).toNat)=(pks m 0 m).map (ndB l):=by
   rw [show (m:Int).toNat=m from rfl]
   unfold gA
   rw [ep,List.map_append,List.take_append_of_le_length (by rw [List.length_map,hpc];exact Nat.le_refl _),List.take_of_length_le (by rw [List.length_map,hpc];exact Nat.le_refl _)]
  rw [et,zdb m 0 m h0 hm (by omega)]
  have r1:ndB l (0,m)=xi (l.take m):=by unfold ndB;rw [zlF]
  rw [r1,jJ,if_pos rfl]
  rw [show (m:Int).toNat=m from rfl,show (l.length:Int).toNat=l.length from rfl]
  have r2:jo (mD ((gA m l.length).map (ndB l)) m l.length) m l.length 0 l.length=ndB l (0,l.length):=by
   refine zbW l.length 0 l.length (by omega) (Nat.le_refl _) (by omega) (fun x hx=>?_)
   have hx:x∈gA m l.length:=by
    unfold gA
    rcases hx with hx | hx
    ·exact List.mem_append_left _ hx
    ·exact List.mem_append_right _ hx
   obtain ⟨i,hi,rfl⟩:=List.getElem_of_mem hx
   unfold mD
   rw [zos (by omega) hi (by rw [List.length_map]),Option.getD_some,List.getElem_map]
  rw [r2]
  have r3:ndB l (0,l.length)=xi l:=by unfold ndB;rw [zn0]
  rw [r3,jJ,if_pos rfl]
end Go.Proofs.YtpjpkmhaffmbmaaGreat.E
end
section
namespace Go.Proofs.YtpjpkmhaffmbmaaGreat.E
open Go Go.RowKit
set_option linter.unusedVariables false
set_option linter.unusedSimpArgs false
def tP (L:List ByteArray) (n:Nat):MPt:=tPt (L.take n)
theorem qF {L:List ByteArray} (hL:zI L=true) {n:Nat} (h:n≤L.length):(tP L n).size=n:=by
 unfold tP tPt
 rw [if_pos (jE hL n),List.length_take]
 simp only
 omega
theorem znW (L:List ByteArray):tP L 0=⟨0,(zJ []).dig⟩:=by
 unfold tP tPt
 rw [List.take_zero,if_pos (by rfl),xi]
 rfl
theorem zfh (p:MPt):yR p p=true:=by simp [yR]
structure Hon (L:List ByteArray) (w:MWit):Prop where
 d:w.disk.ok
 h:∃s,s≤L.length∧zx w.disk=tP L s
 ws:∀x∈w.wishes,∃s,s≤L.length∧x.pt=tP L s
 l:w.wishes.length≤17
def zsC (L:List ByteArray) (l:MLet):Prop:=(zj l.text).2.1=0→
 ((zj l.text).1.kind=3→∃n,n≤L.length∧(⟨(zj l.text).1.size,(zj l.text).1.root⟩:MPt)=tP L n)∧
 ((zj l.text).1.kind=5→∃m n:Nat,m≤n∧n≤L.length∧(zj l.text).1.from_=m∧(zj l.text).1.size=n∧(zj l.text).1.proof=zQ (L.take n) m)
theorem zoQ (held:MPt) (size:Int) (P:List MDig) (l:List MWish) (h:∀x∈l,x.pt.size=size→mGC held x.pt (P.map MDig.bd)=0):∀s:GSt,(l.foldl (yY held size P) s).al=s.al:=by
 induction l with
 | nil=>intro s;rfl
 | cons a l ih=>
  intro s
  rw [List.foldl_cons,ih (fun x hx=>h x (List.mem_cons_of_mem _ hx))]
  have ha:=h a (List.mem_cons_self ..)
  unfold yY
  split
  ·rfl
  ·rename_i c
   split
   ·rename_i c2
    exact absurd (ha (by
     apply Classical.byContradiction
     intro hn
     exact c (.inr hn))) c2
   ·rfl
theorem zme (me:Int) (p:MPt) (l:List MWish) (h:∀x∈l,x.pt.size=p.size→yR x.pt p=true):∀s:HSt,(l.foldl (xM me p) s).al=s.al:=by
 induction l with
 | nil=>intro s;rfl
 | cons a l ih=>
  intro s
  rw [List.foldl_cons,ih (fun x hx=>h x (List.mem_cons_of_mem _ hx))]
  have ha:=h a (List.mem_cons_self ..)
  unfold xM
  split
  ·rfl
  ·rename_i c
   split
   ·rename_i c2
    exact absurd (ha c2) c
   ·split<;>rfl
theorem zre:zx zdisk=⟨0,(zJ []).dig⟩:=by
 have h0:zD (⟨0,0,0,dig0⟩:MSlot)=false:=znX rfl
 unfold zx zL zdisk
 simp only [h0]
 rfl
theorem zhp (L:List ByteArray):Hon L ⟨zdisk,[]⟩:=⟨wC,⟨0,Nat.zero_le _,by rw [znW];exact zre⟩,fun x hx=>(by cases hx),Nat.zero_le _⟩
theorem zmf {L:List ByteArray} (hL:zI L=true) {w:MWit} (h:Hon L w) {me:Int} {l:MLet} (hl:zsC L l) (hr:∀x∈w.wishes,x.pt.root.ok):
  (ym w me l).alarms=[]∧Hon L ⟨(ym w me l).disk,(ym w me l).wishes⟩:=by
 have hm:=zaq (me:=me) (l:=l) h.d hr
 unfold zsC at hl
 unfold ym at hm ⊢
 generalize zj l.text=W at *
 obtain ⟨x,code,at_⟩:=W
 simp only at hl hm ⊢
 obtain ⟨s,hs,es⟩:=h.h
 split
 case isFalse=>exact ⟨rfl,zhp L⟩
 rename_i c
 rw [if_pos c] at hm
 simp only [Bool.and_eq_true] at c
 obtain ⟨h8,hp,ha⟩:=witOk_iff.1 c.1
 split
 ·rename_i c1
  rw [if_pos c1] at hm
  simp only [Bool.and_eq_true,beq_iff_eq] at c1
  obtain ⟨n,hn,en⟩:=(hl c1.1).1 c1.2.1
  rw [en] at hm ⊢
  have zn:=qF hL hn
  have zs:=qF hL hs
  unfold yh at hm ⊢
  split
  ·exact ⟨rfl,h⟩
  ·split
   ·exact ⟨rfl,h⟩
   ·rename_i c3
    split
    ·rename_i c4
     exfalso
     rw [es,zn,zs] at c4
     have:n=s:=by omega
     rw [es,this,zfh] at c3
     exact c3 rfl
    ·split
     ·refine ⟨rfl,h.d,⟨s,hs,es⟩,fun y hy=>?_,qM h8 _⟩
      rcases (zbv hp _).2 y hy with rfl | hy
      ·exact ⟨n,hn,rfl⟩
      ·exact h.ws y hy
     ·exact ⟨rfl,h⟩
 ·rename_i c1
  rw [if_neg c1] at hm
  split
  ·rename_i c2
   rw [if_pos c2] at hm
   simp only [Bool.and_eq_true,beq_iff_eq] at c2
   obtain ⟨m,n,hmn,hn,e1,e2,e3⟩:=(hl c2.1).2 c2.2.1
   by_cases q:x.from_≠(zx w.disk).size
   ·have:zZ w (zx w.disk) me x=.base w:=by unfold zZ;rw [if_pos q]
    rw [this]
    exact ⟨rfl,h⟩
   ·have q:x.from_=(zx w.disk).size:=Classical.not_not.1 q
    have hms:m=s:=by
     rw [es,qF hL hs,e1] at q
     omega
    subst hms
    have calm:∀y∈w.wishes,y.pt.size=x.size→mGC (zx w.disk) y.pt (x.proof.map MDig.bd)=0:=by
     intro y hy hz
     obtain ⟨t,ht,et⟩:=h.ws y hy
     rw [et,qF hL ht,e2] at hz
     have hnt:t=n:=by omega
     subst hnt
     rw [es,et,e3]
     unfold tP
     have hk:=jE hL t
     have hlt:(L.take t).length=t:=by rw [List.length_take];omega
     have:=zgr hk (m:=m) (by omega)
     rw [List.take_take,Nat.min_eq_left hmn] at this
     exact this
    have k1:(gF (zx w.disk) x.size x.proof w.wishes).al=[]:=zoQ (zx w.disk) x.size x.proof w.wishes calm ⟨[],false,.zero,[]⟩
    obtain ⟨l',l1,l2⟩:=zhr (zx w.disk) x.size x.proof w.wishes ⟨[],false,.zero,[]⟩
    have l1:(gF (zx w.disk) x.size x.proof w.wishes).left=l':=l1
    have tk:(gF (zx w.disk) x.size x.proof w.wishes).taken=true→∃y∈w.wishes,(gF (zx w.disk) x.size x.proof w.wishes).p=y.pt∧y.pt.size=x.size∧mGC (zx w.disk) y.pt (x.proof.map MDig.bd)=0:=zbp (zx w.disk) x.size x.proof w.wishes ⟨[],false,.zero,[]⟩ rfl
    have hm':=hm
    unfold zZ at hm ⊢
    rw [if_neg (fun h=>h q)] at hm ⊢
    generalize gF (zx w.disk) x.size x.proof w.wishes=S at *
    split
    ·rename_i t1
     rw [if_pos t1] at hm
     exact ⟨k1,h.d,⟨m,hs,es⟩,fun y hy=>h.ws y (l2.subset (l1▸hy)),hm.ws⟩
    ·rename_i t1
     rw [if_neg t1] at hm
     split
     ·exact ⟨rfl,h⟩
     ·rename_i t2
      rw [if_neg t2] at hm
      obtain ⟨y,hy,p1,p2,p3⟩:=tk (by cases q:S.taken<;>simp_all)
      obtain ⟨t,ht,et⟩:=h.ws y hy
      have hcalm:∀z∈S.left,z.pt.size=S.p.size→yR z.pt S.p=true:=by
       intro z hz hzz
       obtain ⟨u,hu,eu⟩:=h.ws z (l2.subset (l1▸hz))
       rw [p1,et,eu,qF hL hu,qF hL ht] at hzz
       have:u=t:=by omega
       rw [p1,et,eu,this]
       exact zfh _
      have k2:(hvF me S.p S.al S.left).al=S.al:=zme me S.p S.left hcalm ⟨[],S.al,[]⟩
      obtain ⟨l3,m1,m2,-⟩:=zgm me S.p S.left ⟨[],S.al,[]⟩
      have m1:(hvF me S.p S.al S.left).rest=l3:=m1
      refine ⟨by show (hvF me S.p S.al S.left).al=[];rw [k2,k1],hm.d,⟨t,ht,?_⟩,fun z hz=>h.ws z (l2.subset (l1▸m2.subset (m1▸hz))),hm.ws⟩
      show zx (zF w.disk (yT w.disk S.p.size S.p.root))=_
      rw [wV t2,p1,et]
  ·exact ⟨rfl,h⟩
theorem zdF {m:MMsg} (hr:m.root.ok) (hd:∀d∈m.proof,d.ok) (h:(zj (zr m)).2.1=0):(zj (zr m)).1=m:=by
 cases hok:zC m with
 | true=>rw [zaL hok hr hd]
 | false=>
  exfalso
  obtain ⟨i1,-,-,i4⟩:=qC (zr m) h
  have e:zr m=⟨#[]⟩:=by unfold zr;rw [hok];rfl
  have hl:=ziU (WOk.of i1)
  rw [e] at hl i4
  have:=zU (wbL (zj ⟨#[]⟩).1)
  rw [i4] at this
  have z:(⟨#[]⟩:ByteArray).size=0:=rfl
  omega
end Go.Proofs.YtpjpkmhaffmbmaaGreat.E
end
