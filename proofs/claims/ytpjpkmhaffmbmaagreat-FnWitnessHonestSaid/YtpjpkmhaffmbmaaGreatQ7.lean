/- Contracts: a message read, in the program; Contracts: messages that are the same; what is marked and held; Contracts: messages that are the same, marked, held; the law of WireRead; Contracts: parts of messages; numbers in bytes; Contracts: numbers in bytes, in the program; Contracts: digests in bytes; Contracts: messages that are ok -/
import Derived.Test.YtpjpkmhaffmbmaaGreatQ6
section
namespace Go.Proofs.YtpjpkmhaffmbmaaGreat.E
open Go Go.RowKit
set_option maxHeartbeats 4000000
set_option maxRecDepth 10000
set_option linter.unusedSimpArgs false
set_option linter.unusedVariables false
set_option linter.unusedSectionVars false
def dcD5:Dec:=⟨[(100,.cm [true,false]),(102,.cm [true,false,false,false]),(103,.cm [true])],[9,10,11],[22,30,37,38,39,40,49,56,76,80,87,141,143,159,237,250,259],false⟩
theorem znB (l:List MDig) (hl:l.length * 32≤140737488355328):CallR Tryz.prog 104 [.ro 4 (l.map MDig.cs)] (.blk 0 0 [] 4 0 l.length) [([],⟨4,l.map MDig.cs,2,false⟩)]:=by
 refine zl dcD5 false Tryz.f104 ?_
 conv=>enter [1];reduce
 refine jvR Tryz.f104 14 [.tmp 2] (by kernel_rfl) (by decide +kernel) rfl ?_
 simp -implicitDefEqProofs only [go_sem]
 refine zi (fun h=>?_) (fun h=>?_)
 ·have:l=[]:=by simpa using h
  subst this
  simp -implicitDefEqProofs only [go_sem]
 ·have hm:=zbS hl (by omega)
  have hmk:((32:Nat):Int) * (l.length:Int)≤281474976710656∧(l.length:Int)≤9223372036854775807:=by unfold maxLen at hm;omega
  simp -implicitDefEqProofs only [go_sem,h,hmk,List.length_replicate]
theorem zsv (l:List ByteArray) (hl:l.length * 16≤140737488355328):CallR Tryz.prog 105 [.ro 1 (l.map zw)] (.blk 0 0 [] 1 0 l.length) [([],⟨1,l.map zw,2,false⟩)]:=by
 refine zl dcD5 false Tryz.f105 ?_
 conv=>enter [1];reduce
 refine jvR Tryz.f105 14 [.tmp 2] (by kernel_rfl) (by decide +kernel) rfl ?_
 simp -implicitDefEqProofs only [go_sem]
 refine zi (fun h=>?_) (fun h=>?_)
 ·have:l=[]:=by simpa using h
  subst this
  simp -implicitDefEqProofs only [go_sem]
 ·have hm:=zbS hl (by omega)
  have hmk:((16:Nat):Int) * (l.length:Int)≤281474976710656∧(l.length:Int)≤9223372036854775807:=by unfold maxLen at hm;omega
  simp -implicitDefEqProofs only [go_sem,h,hmk,List.length_replicate]
def pP2 (x:MRd × MMsg):MRd × MMsg:=((yP (yq x.1 1 0 16).1.toNat (yq x.1 1 0 16).2).2,{x.2 with proof:=x.2.proof++(yP (yq x.1 1 0 16).1.toNat (yq x.1 1 0 16).2).1})
def pL2 (x:MRd × MMsg):MRd × MMsg:=((zP (yq x.1 1 0 8).1.toNat (yq x.1 1 0 8).2).2,{x.2 with leaves:=x.2.leaves++(zP (yq x.1 1 0 8).1.toNat (yq x.1 1 0 8).2).1})
def pOf (c:Nat) (x:MRd × MMsg):MRd × MMsg:=match c with
 | 115=>pS x
 | 102=>pF x
 | 122=>pZ x
 | 114=>pR x
 | 99=>pC x
 | 112=>pP2 x
 | 108=>pL2 x
 | _=>x
def zpC (l:List UInt8) (x:MRd × MMsg):MRd × MMsg:=l.foldl (fun x b=>pOf b.toNat x) x
theorem zjO (l:List UInt8) (b:UInt8) (x:MRd × MMsg):zpC (l++[b]) x=pOf b.toNat (zpC l x):=by
 unfold zpC
 rw [List.foldl_append]
 rfl
theorem letters {k:Nat} (hk:1≤k∧k≤8) {pos:Nat} (h:pos<(l5P (k:Int)).size):pos≤2∧∃c,Utf8.decode (l5P (k:Int)) pos=(c,1)∧(l5P (k:Int)).data.toList.take (pos+1)=(l5P (k:Int)).data.toList.take pos++[UInt8.ofNat c]∧(UInt8.ofNat c).toNat=c∧
  (c=115∨c=102∨c=122∨c=114∨c=99∨c=112∨c=108):=by
 have hk':k=1∨k=2∨k=3∨k=4∨k=5∨k=6∨k=7∨k=8:=by omega
 have hs:(l5P (k:Int)).size≤3:=by rcases hk' with rfl | rfl | rfl | rfl | rfl | rfl | rfl | rfl<;>decide
 have hp:pos=0∨pos=1∨pos=2:=by omega
 refine ⟨by omega,?_⟩
 rcases hk' with rfl | rfl | rfl | rfl | rfl | rfl | rfl | rfl<;>rcases hp with rfl | rfl | rfl<;>
  first
  | exact absurd h (by decide)
  | exact ⟨115,by decide,by decide,by decide,by decide⟩
  | exact ⟨102,by decide,by decide,by decide,by decide⟩
  | exact ⟨122,by decide,by decide,by decide,by decide⟩
  | exact ⟨114,by decide,by decide,by decide,by decide⟩
  | exact ⟨99,by decide,by decide,by decide,by decide⟩
  | exact ⟨112,by decide,by decide,by decide,by decide⟩
  | exact ⟨108,by decide,by decide,by decide,by decide⟩
theorem zjM {k:Nat} (hk:1≤k∧k≤8) (r:MRd) (z:Int):xu k (r,{MMsg.zero with kind:=z})=zpC ((l5P (k:Int)).data.toList.take (l5P (k:Int)).size) (r,{MMsg.zero with kind:=z}):=by
 have hk':k=1∨k=2∨k=3∨k=4∨k=5∨k=6∨k=7∨k=8:=by omega
 rcases hk' with rfl | rfl | rfl | rfl | rfl | rfl | rfl | rfl<;>rfl
def zqm:List AV:=[vI 0,vI 0,vI 0,vI 0,vU 0,vU 0,vU 0,vU 0,vI 0,.nilS,.nilS]
def mRow (m:MMsg):List AV:=[vI m.kind,vI m.session,vI m.from_,vI m.size,vU m.root.a,vU m.root.b,vU m.root.c,vU m.root.d,vI m.count,.blk 10006 0 [] 4 0 m.proof.length,.blk 20006 0 [] 1 0 m.leaves.length]
def mSig (x:MRd × MMsg):Sig:=[(2,0,one ⟨11,[zqm],0,false⟩),(3,0,one ⟨2,[[vI 0,vI 0]],0,false⟩),(4,0,one ⟨4,[x.1.cs],0,false⟩),(6,0,one ⟨11,[mRow x.2],0,false⟩),(10006,0,one ⟨4,x.2.proof.map MDig.cs,2,false⟩),(20006,0,one ⟨1,x.2.leaves.map zw,2,false⟩)]
attribute [go_sem] zqm mRow mSig
structure InvX (text:ByteArray) (pos:Nat) (x:MRd × MMsg):Prop where
 rd:RdOK text x.1
 pl:x.2.proof.length≤16 * pos
 ll:x.2.leaves.length≤8 * pos
def MMsg.avM (m:MMsg):AV:=.agg [vI m.kind,vI m.session,vI m.from_,vI m.size,vU m.root.a,vU m.root.b,vU m.root.c,vU m.root.d,vI m.count,.blk 0 0 [] 4 0 m.proof.length,.blk 1 0 [] 1 0 m.leaves.length]
def MMsg.out (m:MMsg):Sig:=[(0,0,one ⟨4,m.proof.map MDig.cs,2,false⟩),(1,0,one ⟨1,m.leaves.map zw,2,false⟩)]
attribute [go_sem] MMsg.avM MMsg.out
theorem c43_c (text:ByteArray) (ht:text.size≤1000000000000):zW Tryz.prog 43 [] [vS text] (.tup [(zj text).1.avM,.agg [vI (zj text).2.1,vI (zj text).2.2]]) (zj text).1.out:=by
 refine zl dcD5 false Tryz.f43 ?_
 conv=>enter [1];reduce
 refine jvM Tryz.f43 157 [.cell 2 58,.cell 3 60] (by kernel_rfl) (by decide +kernel) rfl ?_
 simp -implicitDefEqProofs only [go_sem]
 refine WantM.intro (zhC ⟨text,0,0,0⟩ 1 (by omega) (Nat.zero_le _) ht) ?_
 rcases Nat.eq_zero_or_pos text.size with h0 | h0
 ·have hr:xS ⟨text,0,0,0⟩ 1=(⟨#[]⟩,⟨text,0,2,(text.size:Int)⟩):=by
   unfold xS
   rw [if_pos rfl,if_pos (show 0+1>text.size by omega)]
  have hM:zj text=(.zero,2,0):=by unfold zj;rw [if_pos h0]
  rw [hM]
  simp -implicitDefEqProofs only [go_sem,hr,h0,MMsg.zero]
  first | rfl | exact ⟨rfl,rfl⟩
 ·have hr:xS ⟨text,0,0,0⟩ 1=(text.extract 0 1,⟨text,1,0,0⟩):=by
   unfold xS
   rw [if_pos rfl,if_neg (show ¬0+1>text.size by omega)]
  have hs:(text.extract 0 1).size=1:=by rw [ByteArray.size_extract];omega
  have hg:=qQ (s:=text.extract 0 1) (i:=0) (by omega)
  rw [znE h0] at hg
  have hb:=zgM text 0
  have w1:IntKind.i64.wrap (bN text 0:Int)=(bN text 0:Int):=wrS (by omega)
  have h':¬text.size=0:=by omega
  simp -implicitDefEqProofs only [go_sem,hr,hg,w1]
  refine Want.intro (qy _ _ _) ?_
  simp -implicitDefEqProofs only [go_sem]
  refine zi (fun h=>?_) (fun h=>?_)
  ·have hin:¬(1≤bN text 0∧bN text 0≤8):=fun hh=>by
    have h3:(1:Int)≤(bN text 0:Int)∧(bN text 0:Int)≤8:=by omega
    simp [mIn,h3.1,h3.2] at h
   have hM:zj text=(.zero,1,0):=by unfold zj;rw [if_neg h',if_neg hin]
   rw [hM]
   simp -implicitDefEqProofs only [go_sem,h,MMsg.zero]
   first | rfl | exact ⟨rfl,rfl⟩
  ·have hin:1≤bN text 0∧bN text 0≤8:=by
    have:(1:Int)≤(bN text 0:Int)∧(bN text 0:Int)≤8:=by simpa [mIn] using h
    omega
   simp -implicitDefEqProofs only [go_sem,h,hg,w1]
   refine Want.intro (znD (bN text 0)) ?_
   simp -implicitDefEqProofs only [go_sem]
   refine zeL (l5P (bN text 0:Int)) [0,2,3,4,6,51] [(10006,4),(11006,1)] (fun r pos z=>pos≤(l5P (bN text 0:Int)).size∧∃X,X=zpC ((l5P (bN text 0:Int)).data.toList.take pos) (⟨text,1,0,0⟩,{MMsg.zero with kind:=bN text 0})∧InvX text pos X∧z=⟨157,[(0,vS text),(2,.ptr 2 0 [] 11 0 0),(3,.ptr 3 0 [] 2 0 0),(4,.ptr 4 0 [] 4 0 0),(6,.ptr 6 0 [] 11 0 0),(51,.it r)],mSig X,1⟩) ?_ ?_ ?_ ?_ ?_ ?_
   ·rfl
   ·omega
   ·intro r
    simp -implicitDefEqProofs only [go_sem]
    exact ⟨Nat.zero_le _,_,rfl,⟨⟨rfl,by show 1≤text.size;omega⟩,Nat.zero_le _,Nat.zero_le _⟩,rfl⟩
   ·rintro r pos z ⟨-,X,-,-,rfl⟩
    exact ⟨rfl,rfl⟩
   ·rintro r pos z ⟨hle,X,hX,hinv,rfl⟩ hlt
    obtain ⟨hp2,c,hd,htk,huc,hc⟩:=letters hin hlt
    have hX1:pOf c X=zpC ((l5P (bN text 0:Int)).data.toList.take (pos+1)) (⟨text,1,0,0⟩,{MMsg.zero with kind:=bN text 0}):=by rw [htk,zjO,huc,←hX]
    refine ⟨c,hd,?_⟩
    clear hX
    have hrp:X.1.p≤X.1.t.size:=by rw [hinv.rd.t];exact hinv.rd.p
    have hrt:X.1.t.size≤1000000000000:=by rw [hinv.rd.t];exact ht
    have hpl:=hinv.pl
    have hll:=hinv.ll
    rcases hc with rfl | rfl | rfl | rfl | rfl | rfl | rfl
    ·have hcc:((115:Nat):Int)=115:=rfl
     simp -implicitDefEqProofs only [go_sem,hcc]
     refine WantM.intro (zcy X.1 3 1 1000000 (by omega) hrp hrt) ?_
     simp -implicitDefEqProofs only [go_sem]
     exact ⟨hlt,pS X,hX1,⟨hinv.rd.num _ _ _,by show X.2.proof.length≤_;omega,by show X.2.leaves.length≤_;omega⟩,rfl⟩
    ·have hcc:((102:Nat):Int)=102:=rfl
     simp -implicitDefEqProofs only [go_sem,hcc]
     refine WantM.intro (zcy X.1 2 0 256 (by omega) hrp hrt) ?_
     simp -implicitDefEqProofs only [go_sem]
     exact ⟨hlt,pF X,hX1,⟨hinv.rd.num _ _ _,by show X.2.proof.length≤_;omega,by show X.2.leaves.length≤_;omega⟩,rfl⟩
    ·have hcc:((122:Nat):Int)=122:=rfl
     simp -implicitDefEqProofs only [go_sem,hcc]
     refine WantM.intro (zcy X.1 2 0 256 (by omega) hrp hrt) ?_
     simp -implicitDefEqProofs only [go_sem]
     exact ⟨hlt,pZ X,hX1,⟨hinv.rd.num _ _ _,by show X.2.proof.length≤_;omega,by show X.2.leaves.length≤_;omega⟩,rfl⟩
    ·have hcc:((114:Nat):Int)=114:=rfl
     simp -implicitDefEqProofs only [go_sem,hcc]
     refine WantM.intro (znC X.1 hrp hrt) ?_
     simp -implicitDefEqProofs only [go_sem]
     exact ⟨hlt,pR X,hX1,⟨hinv.rd.dig,by show X.2.proof.length≤_;omega,by show X.2.leaves.length≤_;omega⟩,rfl⟩
    ·have hcc:((99:Nat):Int)=99:=rfl
     simp -implicitDefEqProofs only [go_sem,hcc]
     refine WantM.intro (zcy X.1 1 1 8 (by omega) hrp hrt) ?_
     simp -implicitDefEqProofs only [go_sem]
     exact ⟨hlt,pC X,hX1,⟨hinv.rd.num _ _ _,by show X.2.proof.length≤_;omega,by show X.2.leaves.length≤_;omega⟩,rfl⟩
    ·have hcc:((112:Nat):Int)=112:=rfl
     simp -implicitDefEqProofs only [go_sem,hcc]
     refine WantM.intro (zcy X.1 1 0 16 (by omega) hrp hrt) ?_
     have hv:=jn X.1 1 16 (by omega)
     have hr1:=hinv.rd.num 1 0 16
     have hfin:pOf 112 X=((yP (yq X.1 1 0 16).1.toNat (yq X.1 1 0 16).2).2,{X.2 with proof:=X.2.proof++(yP (yq X.1 1 0 16).1.toNat (yq X.1 1 0 16).2).1}):=rfl
     generalize yq X.1 1 0 16=y at *
     obtain ⟨v,R⟩:=y
     simp only at hv hr1 hfin
     simp -implicitDefEqProofs only [go_sem]
     refine zX (fun m z=>∃i:Nat,i≤v.toNat∧m=v.toNat - i∧z=⟨157,[(0,vS text),(2,.ptr 2 0 [] 11 0 0),(3,.ptr 3 0 [] 2 0 0),(4,.ptr 4 0 [] 4 0 0),(6,.ptr 6 0 [] 11 0 0),(9,vI (v - (i:Int))),(51,.it r)],mSig ((yP i R).2,{X.2 with proof:=X.2.proof++(yP i R).1}),1⟩) v.toNat ?_ ?_
     ·simp -implicitDefEqProofs only [go_sem]
      exact ⟨0,Nat.zero_le _,rfl,by simp [yP]⟩
     ·rintro m z ⟨i,hi,rfl,rfl⟩
      have hlen:=zcb i R
      have hri:=hr1.digs i
      rcases Nat.lt_or_ge i v.toNat with hl | hge
      ·have hlt':v - (i:Int)>0:=by omega
       have w4:IntKind.i64.wrap (v - (i:Int) - 1)=v - ((i+1:Nat):Int):=by rw [wrS (by omega)];omega
       have ha:∀x,_:=fun x=>zK (E:=MDig.cs) (l:=X.2.proof++(yP i R).1) (xs:=[x]) (b:=32) (n:=100) (by simp [hlen];omega) (by omega) (by omega)
       simp -implicitDefEqProofs only [go_sem,hlt']
       refine WantM.intro (znC (yP i R).2 (by rw [hri.t];exact hri.p) (by rw [hri.t];exact ht)) ?_
       simp -implicitDefEqProofs only [go_sem,ha,w4]
       exact ⟨_,by omega,i+1,hl,rfl,by simp [yP];rfl⟩
      ·have hi:i=v.toNat:=by omega
       have hlt':¬(v - (i:Int)>0):=by omega
       simp -implicitDefEqProofs only [go_sem,hlt']
       subst hi
       rw [hfin] at hX1
       exact ⟨hlt,_,hX1,⟨hri,by simp [hlen];omega,by simp [hlen];omega⟩,rfl⟩
    ·have hcc:((108:Nat):Int)=108:=rfl
     simp -implicitDefEqProofs only [go_sem,hcc]
     refine WantM.intro (zcy X.1 1 0 8 (by omega) hrp hrt) ?_
     have hv:=jn X.1 1 8 (by omega)
     have hr1:=hinv.rd.num 1 0 8
     have hfin:pOf 108 X=((zP (yq X.1 1 0 8).1.toNat (yq X.1 1 0 8).2).2,{X.2 with leaves:=X.2.leaves++(zP (yq X.1 1 0 8).1.toNat (yq X.1 1 0 8).2).1}):=rfl
     generalize yq X.1 1 0 8=y at *
     obtain ⟨v,R⟩:=y
     simp only at hv hr1 hfin
     simp -implicitDefEqProofs only [go_sem]
     refine zX (fun m z=>∃i:Nat,i≤v.toNat∧m=v.toNat - i∧z=⟨157,[(0,vS text),(2,.ptr 2 0 [] 11 0 0),(3,.ptr 3 0 [] 2 0 0),(4,.ptr 4 0 [] 4 0 0),(6,.ptr 6 0 [] 11 0 0),(10,vI (v - (i:Int))),(51,.it r)],mSig ((zP i R).2,{X.2 with leaves:=X.2.leaves++(zP i R).1}),1⟩) v.toNat ?_ ?_
     ·simp -implicitDefEqProofs only [go_sem]
      exact ⟨0,Nat.zero_le _,rfl,by simp [zP]⟩
     ·rintro m z ⟨i,hi,rfl,rfl⟩
      have hlen:=zaA i R
      have hri:=hr1.leafs i
      rcases Nat.lt_or_ge i v.toNat with hl | hge
      ·have hlt':v - (i:Int)>0:=by omega
       have w4:IntKind.i64.wrap (v - (i:Int) - 1)=v - ((i+1:Nat):Int):=by rw [wrS (by omega)];omega
       have ha:∀x,_:=fun x=>zK (E:=zw) (l:=X.2.leaves++(zP i R).1) (xs:=[x]) (b:=16) (n:=100) (by simp [hlen];omega) (by omega) (by omega)
       simp -implicitDefEqProofs only [go_sem,hlt']
       refine WantM.intro (zcy (zP i R).2 1 0 40 (by omega) (by rw [hri.t];exact hri.p) (by rw [hri.t];exact ht)) ?_
       have hr2:=hri.num 1 0 40
       have hbd:=jn (zP i R).2 1 40 (by omega)
       have hcast:(yq (zP i R).2 1 0 40).1=((yq (zP i R).2 1 0 40).1.toNat:Int):=(Int.toNat_of_nonneg hbd.1).symm
       simp -implicitDefEqProofs only [go_sem]
       rw [hcast]
       refine WantM.intro (zhC (yq (zP i R).2 1 0 40).2 (yq (zP i R).2 1 0 40).1.toNat (by omega) (by rw [hr2.t];exact hr2.p) (by rw [hr2.t];exact ht)) ?_
       simp -implicitDefEqProofs only [go_sem,ha,w4]
       exact ⟨_,by omega,i+1,hl,rfl,by simp [zP,zbd,zw]⟩
      ·have hi:i=v.toNat:=by omega
       have hlt':¬(v - (i:Int)>0):=by omega
       simp -implicitDefEqProofs only [go_sem,hlt']
       subst hi
       rw [hfin] at hX1
       exact ⟨hlt,_,hX1,⟨hri,by simp [hlen];omega,by simp [hlen];omega⟩,rfl⟩
   ·rintro r pos z ⟨hle,X,hX,hinv,rfl⟩ hge
    have hpos:pos=(l5P (bN text 0:Int)).size:=by omega
    subst hpos
    have hM:zj text=xo text X:=by
     unfold zj
     rw [if_neg h',if_pos hin,zjM hin,hX]
    have hs3:(l5P (bN text 0:Int)).size≤3:=by
     have hk':bN text 0=1∨bN text 0=2∨bN text 0=3∨bN text 0=4∨bN text 0=5∨bN text 0=6∨bN text 0=7∨bN text 0=8:=by omega
     rcases hk' with e | e | e | e | e | e | e | e<;>rw [e]<;>decide
    have hpl:=hinv.pl
    have hll:=hinv.ll
    have hrp:=hinv.rd.p
    rw [hM]
    obtain ⟨⟨t1,p1,c1,a1⟩,k1,s1,f1,z1,⟨da,db,dc,dd⟩,n1,ps,ls⟩:=X
    have ht1:t1=text:=hinv.rd.t
    subst t1
    simp only at hpl hll hrp
    clear hM hX hinv
    by_cases hc:c1=0
    ·subst hc
     by_cases hp:p1<text.size
     ·have hp':(p1:Int)<(text.size:Int):=by omega
      rw [show xo text (⟨text,p1,0,a1⟩,⟨k1,s1,f1,z1,⟨da,db,dc,dd⟩,n1,ps,ls⟩)=(.zero,4,(p1:Int)) from by simp [xo,hp]]
      simp -implicitDefEqProofs only [go_sem,hp',MMsg.zero]
      first | done | rfl | exact ⟨rfl,rfl⟩
     ·have hp':¬(p1:Int)<(text.size:Int):=by omega
      rw [show xo text (⟨text,p1,0,a1⟩,⟨k1,s1,f1,z1,⟨da,db,dc,dd⟩,n1,ps,ls⟩)=(⟨k1,s1,f1,z1,⟨da,db,dc,dd⟩,n1,ps,ls⟩,0,0) from by simp [xo,hp]]
      simp -implicitDefEqProofs only [go_sem,hp']
      refine Want.intro (znB ps (by omega)) ?_
      simp -implicitDefEqProofs only [go_sem]
      refine Want.intro (zsv ls (by omega)) ?_
      simp -implicitDefEqProofs only [go_sem]
      first | done | rfl | exact ⟨rfl,rfl⟩
    ·have hc1:(c1==0)=false:=by simpa using hc
     have hc2:(c1 != 0)=true:=by simpa using hc
     rw [show xo text (⟨text,p1,c1,a1⟩,⟨k1,s1,f1,z1,⟨da,db,dc,dd⟩,n1,ps,ls⟩)=(.zero,c1,a1) from by simp [xo,hc]]
     simp -implicitDefEqProofs only [go_sem,hc1,hc2,MMsg.zero]
     first | done | rfl | exact ⟨rfl,rfl⟩
end Go.Proofs.YtpjpkmhaffmbmaaGreat.E
end
section
namespace Go.Proofs.YtpjpkmhaffmbmaaGreat.E
open Go Go.RowKit
set_option maxHeartbeats 4000000
set_option maxRecDepth 10000
set_option linter.unusedSimpArgs false
set_option linter.unusedVariables false
set_option linter.unusedSectionVars false
def dcD6:Dec:=⟨[],[9,10,11],[22,30,37,38,39,40,49,56,76,80,87,141,143,159,237,250,259],false⟩
theorem zG {i n:Nat} (h:i<n) (hn:n≤maxLen):IntKind.i64.wrap ((i:Int)+1)=((i+1:Nat):Int):=by
 unfold maxLen at hn
 rw [wrS (by omega)]
 omega
def zj8 {α:Type} (e:α→α→Bool):List α→List α→Bool
 | [],[]=>true
 | a::l,b::m=>e a b&&zj8 e l m
 | _,_=>false
theorem zhg {α:Type} {e:α→α→Bool}:∀{l m:List α},zj8 e l m=true→l.length=m.length
 | [],[],_=>rfl
 | a::l,b::m,h=>by simp only [zj8,Bool.and_eq_true] at h;simp [zhg h.2]
theorem zj7 {α:Type} {e:α→α→Bool} {l m:List α} {i:Nat} (h:i<l.length) (k:i<m.length):zj8 e (l.drop i) (m.drop i)=(e l[i] m[i]&&zj8 e (l.drop (i+1)) (m.drop (i+1))):=by
 rw [List.drop_eq_getElem_cons h,List.drop_eq_getElem_cons k];rfl
theorem zj6 {α:Type} {e:α→α→Bool} (h:∀a,e a a=true):∀l:List α,zj8 e l l=true
 | []=>rfl
 | a::l=>by simp [zj8,h,zj6 h l]
def yM {α:Type} (mk:Int→α × Int):Nat→Int→List α × Int
 | 0,k=>([],k)
 | n+1,k=>((yM mk n k).1++[(mk (yM mk n k).2).1],(mk (yM mk n k).2).2)
theorem yU {α:Type} {mk:Int→α × Int} {n:Nat} {k:Int}:(yM mk n k).1.length=n:=by
 induction n with
 | zero=>rfl
 | succ n ih=>simp [yM,ih]
theorem zkw {α:Type} {mk:Int→α × Int} {n i:Nat} {k:Int} (h:i<n):(yM mk n k).1[i]?=some (mk (yM mk i k).2).1:=by
 induction n with
 | zero=>omega
 | succ n ih=>
  simp only [yM]
  rcases Nat.lt_or_ge i n with hi | hi
  ·rw [List.getElem?_append_left (by rw [yU];exact hi),ih hi]
  ·have:i=n:=by omega
   subst this
   rw [List.getElem?_append_right (by rw [yU];exact Nat.le_refl _),yU,Nat.sub_self]
   rfl
def jm {α:Type} (E:α→List AV) (mk:Int→α × Int) (l:List α) (i:Nat) (k:Int):List (List AV):=(yM mk i k).1.map E++(l.drop i).map E
theorem zop {α:Type} {E:α→List AV} {mk:Int→α × Int} {l:List α} {k:Int}:jm E mk l 0 k=l.map E:=by simp [jm,yM]
theorem zpK {α:Type} {E:α→List AV} {mk:Int→α × Int} {l:List α} {k:Int}:jm E mk l l.length k=(yM mk l.length k).1.map E:=by simp [jm]
theorem zpI {α:Type} {E:α→List AV} {mk:Int→α × Int} {l:List α} {i:Nat} {k:Int} (h:i≤l.length):(jm E mk l i k).length=l.length:=by simp [jm,yU];omega
theorem zpJ {α:Type} {E:α→List AV} {mk:Int→α × Int} {l:List α} {i:Nat} {k:Int} (h:i<l.length):(jm E mk l i k)[i]?=some (E l[i]):=by
 unfold jm
 rw [List.getElem?_append_right (by simp [yU]),List.length_map,yU,Nat.sub_self,List.getElem?_map,List.getElem?_drop,Nat.add_zero,List.getElem?_eq_getElem h]
 rfl
theorem zpH {α:Type} {E:α→List AV} {mk:Int→α × Int} {l:List α} {i:Nat} {k:Int} (h:i<l.length):(jm E mk l i k).set i (E (mk (yM mk i k).2).1)=jm E mk l (i+1) k:=by
 unfold jm
 rw [List.set_append_right _ _ (by simp [yU]),List.length_map,yU,Nat.sub_self,List.drop_eq_getElem_cons h,List.map_cons,List.set_cons_zero]
 simp [yM]
def zmk {α:Type} (eq:α→Int→Bool) (nx:Int→Int):List α→Int→Int
 | [],k=>k
 | a::l,k=>if eq a k then zmk eq nx l (nx k) else -1
theorem zih {α:Type} {eq:α→Int→Bool} {mk:Int→α × Int} (he:∀k,eq (mk k).1 k=true):∀(n i:Nat) (k:Int),i≤n→zmk eq (fun k=>(mk k).2) ((yM mk n k).1.drop i) (yM mk i k).2=(yM mk n k).2:=by
 intro n i k hi
 obtain ⟨d,hd⟩:∃d,n=i+d:=⟨n - i,by omega⟩
 induction d generalizing i with
 | zero=>
  have:i=n:=by omega
  subst this
  rw [List.drop_of_length_le (by rw [yU];exact Nat.le_refl _)]
  rfl
 | succ d ih=>
  have hlt:i<(yM mk n k).1.length:=by rw [yU];omega
  rw [List.drop_eq_getElem_cons hlt,zmk]
  have hg:=zkw (mk:=mk) (k:=k) (show i<n by omega)
  rw [List.getElem?_eq_getElem hlt] at hg
  have hg:=Option.some.inj hg
  rw [hg,if_pos (he _)]
  exact ih (i+1) (by omega) (by omega)
theorem zru {α:Type} {eq:α→Int→Bool} {mk:Int→α × Int} (he:∀k,eq (mk k).1 k=true) (n:Nat) (k:Int):zmk eq (fun k=>(mk k).2) (yM mk n k).1 k=(yM mk n k).2:=by
 have:=zih he n 0 k (Nat.zero_le _)
 simpa [yM] using this
theorem zrt {α:Type} {mk:Int→α × Int} {c:Nat} (hmk:∀k:Int,0≤k→k+c<9223372036854775807→(mk k).2=k+c):∀(n:Nat) (k:Int),0≤k→k+c * n<9223372036854775807→(yM mk n k).2=k+c * n:=by
 intro n
 induction n with
 | zero=>intro k h1 h2;simp [yM]
 | succ n ih=>
  intro k h1 h2
  have e:(c:Int) * ((n+1:Nat):Int)=c * n+c:=by rw [Int.natCast_succ,Int.mul_add,Int.mul_one]
  rw [e] at h2 ⊢
  have hc:0≤(c:Int) * n:=Int.mul_nonneg (Int.natCast_nonneg _) (Int.natCast_nonneg _)
  simp only [yM]
  rw [ih k h1 (by omega),hmk _ (by omega) (by omega)]
  omega
def zrG (k:Nat) (out:ByteArray):ByteArray:=if h:k=0 then out else zrG (k/10) (⟨#[UInt8.ofNat (48+k%10)]⟩++out)
termination_by k
decreasing_by omega
def zqV (k:Int):ByteArray:=if k≤0 then ⟨#[109,48]⟩ else ⟨#[109]⟩++zrG k.toNat ⟨#[]⟩
theorem zrE {k:Nat} {out:ByteArray} (h:0<k):zrG k out=zrG (k/10) (⟨#[UInt8.ofNat (48+k%10)]⟩++out):=by
 rw [zrG,dif_neg (by omega)]
theorem size_one (b:UInt8):(⟨#[b]⟩:ByteArray).size=1:=rfl
attribute [go_sem] qT
def jd (a b:MDig):Bool:=!((a.a:Int) != (b.a:Int))&&(!((a.b:Int) != (b.b:Int))&&(!((a.c:Int) != (b.c:Int))&&!((a.d:Int) != (b.d:Int))))
theorem zqa (a:MDig):jd a a=true:=by simp [jd]
theorem c89_c (a b:MDig):CallR Tryz.prog 89 [.agg a.cs,.agg b.cs] (vB (jd a b)) []:=by
 refine zl dcD6 false Tryz.f89 ?_
 conv=>enter [1];reduce
 refine jvR Tryz.f89 25 [.tmp 4] (by kernel_rfl) (by decide +kernel) rfl ?_
 simp -implicitDefEqProofs only [go_sem,jd]
 repeat' first | (refine zm (fun h=>?_) (fun h=>?_)<;>try simp -implicitDefEqProofs only [go_sem,h]) | (refine zi (fun h=>?_) (fun h=>?_)<;>try simp -implicitDefEqProofs only [go_sem,h])
 all_goals simp_all
def eqBy (a b:ByteArray):Bool:=a.toList==b.toList
theorem zrB (a:ByteArray):eqBy a a=true:=by simp [eqBy]
theorem c34_c (l m:List MDig) (hl:l.length≤maxLen):CallR Tryz.prog 34 [.ro 4 (l.map MDig.cs),.ro 4 (m.map MDig.cs)] (vB (zj8 jd l m)) []:=by
 refine zl dcD6 false Tryz.f34 ?_
 conv=>enter [1];reduce
 refine jvR Tryz.f34 27 [.tmp 4] (by kernel_rfl) (by decide +kernel) rfl ?_
 simp -implicitDefEqProofs only [go_sem]
 refine zi (fun h=>?_) (fun h=>?_)
 ·simp -implicitDefEqProofs only [go_sem,h]
  have h:¬l.length=m.length:=by have:=bne_iff_ne.1 h;omega
  cases hm:zj8 jd l m with
  | true=>exact absurd (zhg hm) h
  | false=>rfl
 ·have h0:l.length=m.length:=by have:=bne_eq_false_iff_eq.1 h;omega
  simp -implicitDefEqProofs only [go_sem,h]
  refine zX (fun k s=>∃(i:Nat),i≤l.length∧k=l.length - i∧zj8 jd (l.drop i) (m.drop i)=zj8 jd l m∧s=⟨27,[(0,.ro 4 (l.map MDig.cs)),(1,.ro 4 (m.map MDig.cs)),(5,vI i)],[],1⟩) l.length
   (by simp -implicitDefEqProofs only [go_sem];exact ⟨0,Nat.zero_le _,rfl,rfl,rfl⟩) ?_
  rintro k s ⟨i,hi,rfl,hx,rfl⟩
  rcases Nat.lt_or_ge i l.length with hlt | hge
  ·have hlt':(i:Int)<(l.length:Int):=by omega
   have hlm:i<m.length:=by omega
   have hlm':(i:Int)<(m.length:Int):=by omega
   have hg:l[i]?=some l[i]:=List.getElem?_eq_getElem hlt
   have hg2:m[i]?=some m[i]:=List.getElem?_eq_getElem hlm
   have hw:=zG hlt hl
   rw [zj7 hlt hlm] at hx
   simp -implicitDefEqProofs only [go_sem,hlt',hlm',hg,hg2]
   refine Want.intro (c89_c _ _) ?_
   simp -implicitDefEqProofs only [go_sem]
   refine zi (fun h=>?_) (fun h=>?_)
   ·simp -implicitDefEqProofs only [go_sem,h]
    simp_all
   ·simp -implicitDefEqProofs only [go_sem,h,hw]
    refine ⟨_,by omega,i+1,hlt,rfl,?_,rfl⟩
    simp_all
  ·have hi:i=l.length:=by omega
   subst hi
   have hlt':¬((l.length:Int)<(l.length:Int)):=by omega
   rw [List.drop_length,h0,List.drop_length] at hx
   simp -implicitDefEqProofs only [go_sem,hlt']
   rw [←hx];rfl
def zge (k:Int):MDig × Int:=(⟨k.toNat,(k+1).toNat,(k+1+1).toNat,(k+1+1+1).toNat⟩,k+1+1+1+1)
def zrD (d:MDig) (k:Int):Bool:=(d.a:Int)==(k.toNat:Int)&&((d.b:Int)==((k+1).toNat:Int)&&((d.c:Int)==((k+1+1).toNat:Int)&&(d.d:Int)==((k+1+1+1).toNat:Int)))
theorem digIs_mk (k:Int):zrD (zge k).1 k=true:=by simp [zrD,zge]
theorem zqQ (n:Nat) (k:Int):(yM zge n k).2=k+4 * n:=by
 induction n with
 | zero=>simp [yM]
 | succ n ih=>simp only [yM,zge,ih];omega
theorem u64_of {z:Int} (h:0≤z∧z<9223372036854775808):IntKind.u64.wrap z=(z.toNat:Int):=by
 obtain ⟨n,rfl⟩:∃n:Nat,z=n:=⟨z.toNat,by omega⟩
 rw [yF n (by omega)]
 rfl
def zpG (k:Int):ByteArray × Int:=(zqV k,k+1)
def byIs (s:ByteArray) (k:Int):Bool:=s.toList==(zqV k).toList
theorem byIs_mk (k:Int):byIs (zpG k).1 k=true:=by simp [byIs,zpG]
theorem mkBy_num (n:Nat) (k:Int):(yM zpG n k).2=k+n:=by
 induction n with
 | zero=>simp [yM]
 | succ n ih=>simp only [yM,zpG,ih];omega
end Go.Proofs.YtpjpkmhaffmbmaaGreat.E
end
section
namespace Go.Proofs.YtpjpkmhaffmbmaaGreat.E
open Go Go.RowKit
set_option maxHeartbeats 4000000
set_option maxRecDepth 10000
set_option linter.unusedSimpArgs false
set_option linter.unusedVariables false
set_option linter.unusedSectionVars false
def MMsg.ro (m:MMsg):AV:=.agg [vI m.kind,vI m.session,vI m.from_,vI m.size,vU m.root.a,vU m.root.b,vU m.root.c,vU m.root.d,vI m.count,.ro 4 (m.proof.map MDig.cs),.ro 1 (m.leaves.map zw)]
def MMsg.mv (m:MMsg):AV:=.agg [vI m.kind,vI m.session,vI m.from_,vI m.size,vU m.root.a,vU m.root.b,vU m.root.c,vU m.root.d,vI m.count,.blk 1000000 0 [] 4 0 m.proof.length,.blk 1000001 0 [] 1 0 m.leaves.length]
attribute [go_sem] MMsg.ro MMsg.mv
def mkMsg (m:MMsg) (k:Int):MMsg:={m with proof:=(yM zge m.proof.length k).1,leaves:=(yM zpG m.leaves.length (yM zge m.proof.length k).2).1}
def mkMsgN (m:MMsg) (k:Int):Int:=(yM zpG m.leaves.length (yM zge m.proof.length k).2).2
theorem zh7 {text:ByteArray} (r:MRd) (z:Int) (k:Nat):(xu k (r,{MMsg.zero with kind:=z})).2.proof.length≤1000∧(xu k (r,{MMsg.zero with kind:=z})).2.leaves.length≤1000:=by
 unfold xu
 split<;>first
  | exact ⟨Nat.zero_le _,Nat.zero_le _⟩
  | (refine ⟨?_,Nat.zero_le _⟩
     show (yP _ _).1.length≤1000
     rw [zcb]
     have:=jn (pZ (pF (r,{MMsg.zero with kind:=z}))).1 1 16 (by omega)
     omega)
  | (refine ⟨Nat.zero_le _,?_⟩
     show (zP _ _).1.length≤1000
     rw [zaA]
     have:=jn (pF (r,{MMsg.zero with kind:=z})).1 1 8 (by omega)
     omega)
theorem zb6 (text:ByteArray):(zj text).1.proof.length≤1000∧(zj text).1.leaves.length≤1000:=by
 unfold zj
 split
 ·exact ⟨Nat.zero_le _,Nat.zero_le _⟩
 ·split
  ·unfold xo
   split
   ·split
    ·exact ⟨Nat.zero_le _,Nat.zero_le _⟩
    ·exact zh7 (text:=text) _ _ _
   ·exact ⟨Nat.zero_le _,Nat.zero_le _⟩
  ·exact ⟨Nat.zero_le _,Nat.zero_le _⟩
end Go.Proofs.YtpjpkmhaffmbmaaGreat.E
end
section
namespace Go.Proofs.YtpjpkmhaffmbmaaGreat.E
open Go Go.RowKit
set_option maxHeartbeats 4000000
set_option maxRecDepth 10000
set_option linter.unusedSimpArgs false
set_option linter.unusedVariables false
set_option linter.unusedSectionVars false
def zqf:Dec:=⟨[],[9,10,11],[22,30,37,38,39,40,49,56,76,80,87,141,143,159,237,250,259],false⟩
def xT (h:Bool) (n lo hi:Int):Bool:=if h then mIn n lo hi else n==0
theorem znn (h:Bool) (n lo hi:Int):CallR Tryz.prog 196 [vB h,vI n,vI lo,vI hi] (vB (xT h n lo hi)) []:=by
 refine zl zqf false Tryz.f196 ?_
 conv=>enter [1];reduce
 refine jvR Tryz.f196 17 [.tmp 8] (by kernel_rfl) (by decide +kernel) rfl ?_
 simp -implicitDefEqProofs only [go_sem]
 refine zi (fun h1=>?_) (fun h1=>?_)
 ·have h2:h=false:=by simpa using h1
  subst h2
  simp -implicitDefEqProofs only [go_sem,xT]
  try rfl
 ·have h2:h=true:=by simpa using h1
  subst h2
  simp -implicitDefEqProofs only [go_sem,xT]
  refine Want.intro (qy n lo hi) ?_
  simp -implicitDefEqProofs only [go_sem]
  try rfl
def zt (l:List ByteArray):Bool:=l.all fun s=>decide (s.size≤40)
theorem qO {l:List ByteArray} {i:Nat} (h:i<l.length):zt (l.drop i)=(decide (l[i].size≤40)&&zt (l.drop (i+1))):=by
 rw [List.drop_eq_getElem_cons h];rfl
theorem znv (l:List ByteArray) (hl:l.length≤maxLen):CallR Tryz.prog 133 [.ro 1 (l.map zw)] (vB (decide (l.length≤8)&&zt l)) []:=by
 refine zl zqf false Tryz.f133 ?_
 conv=>enter [1];reduce
 refine jvR Tryz.f133 19 [.tmp 2] (by kernel_rfl) (by decide +kernel) rfl ?_
 simp -implicitDefEqProofs only [go_sem]
 refine zi (fun h=>?_) (fun h=>?_)
 ·have h2:¬l.length≤8:=by have:=of_decide_eq_true h;omega
  simp -implicitDefEqProofs only [go_sem,h]
  simp [h2]
 ·have h2:l.length≤8:=by have:=of_decide_eq_false h;omega
  simp -implicitDefEqProofs only [go_sem,h]
  refine zX (fun k s=>∃(i:Nat),i≤l.length∧k=l.length - i∧zt (l.drop i)=zt l∧s=⟨19,[(0,.ro 1 (l.map zw)),(3,vI i)],[],1⟩) l.length
   (by simp -implicitDefEqProofs only [go_sem];exact ⟨0,Nat.zero_le _,rfl,rfl,rfl⟩) ?_
  rintro k s ⟨i,hi,rfl,hx,rfl⟩
  rcases Nat.lt_or_ge i l.length with hlt | hge
  ·have hlt':(i:Int)<(l.length:Int):=by omega
   have hg:l[i]?=some l[i]:=List.getElem?_eq_getElem hlt
   have hw:=zG hlt hl
   rw [qO hlt] at hx
   simp -implicitDefEqProofs only [go_sem,hlt',hg]
   refine zi (fun h=>?_) (fun h=>?_)
   ·have h3:¬l[i].size≤40:=by have:=of_decide_eq_true h;omega
    simp -implicitDefEqProofs only [go_sem,h]
    simp [h3] at hx
    simp [h2,←hx]
   ·have h3:l[i].size≤40:=by have:=of_decide_eq_false h;omega
    simp -implicitDefEqProofs only [go_sem,h,hw]
    refine ⟨_,by omega,i+1,hlt,rfl,?_,rfl⟩
    rw [←hx]
    simp [h3]
  ·have hi:i=l.length:=by omega
   subst hi
   have hlt':¬((l.length:Int)<(l.length:Int)):=by omega
   rw [List.drop_length] at hx
   simp -implicitDefEqProofs only [go_sem,hlt']
   simp [h2,←hx]
   try rfl
def jl (v:Nat):Nat→ByteArray
 | 0=>⟨#[]⟩
 | n+1=>jl (v/256) n++⟨#[UInt8.ofNat (v%256)]⟩
theorem zbU (v n:Nat):(jl v n).size=n:=by
 induction n generalizing v with
 | zero=>rfl
 | succ n ih=>rw [jl,ByteArray.size_append,ih];rfl
theorem zmB:∀(n v:Nat),n≤10→v≤1000000000→CallR Tryz.prog 76 [vI v,vI n] (vS (jl v n)) []
 | 0,v,hn,hv=>by
  refine zl zqf false Tryz.f76 ?_
  conv=>enter [1];reduce
  refine jvR Tryz.f76 18 [.tmp 4] (by kernel_rfl) (by decide +kernel) rfl ?_
  simp -implicitDefEqProofs only [go_sem]
  refine zi (fun h=>?_) (fun h=>?_)
  ·simp -implicitDefEqProofs only [go_sem,h]
   rfl
  ·exact absurd h (by decide)
 | n+1,v,hn,hv=>by
  refine zl zqf false Tryz.f76 ?_
  conv=>enter [1];reduce
  refine jvR Tryz.f76 18 [.tmp 4] (by kernel_rfl) (by decide +kernel) rfl ?_
  simp -implicitDefEqProofs only [go_sem]
  have hlt:¬(((n+1:Nat):Int)<1):=by omega
  have htm:((v:Int)).tmod 256=((v%256:Nat):Int):=by rw [Int.tmod_eq_emod_of_nonneg (by omega)];omega
  have htd:((v:Int)).tdiv 256=((v/256:Nat):Int):=by rw [Int.tdiv_eq_ediv_of_nonneg (by omega)];omega
  have w1:IntKind.i64.wrap ((v/256:Nat):Int)=((v/256:Nat):Int):=wrS (by omega)
  have w2:IntKind.i64.wrap (((n+1:Nat):Int) - 1)=(n:Int):=by rw [wrS (by omega)];omega
  have w3:(IntKind.u8.wrap ((v%256:Nat):Int))=((v%256:Nat):Int):=by
   have h8:IntKind.u8.bits=8:=rfl
   have hs:IntKind.u8.signed=false:=rfl
   simp only [IntKind.wrap,h8,hs,Bool.false_and,Bool.false_eq_true,if_false]
   omega
  simp -implicitDefEqProofs only [go_sem,hlt,htm,htd,w1,w2,w3]
  refine Want.intro (zmB n (v/256) (by omega) (by omega)) ?_
  have hsz:¬((((jl (v/256) n).size+(#[UInt8.ofNat (v%256)]:Array UInt8).size:Nat):Int)>9223372036854775807):=by
   rw [zbU]
   simp
   omega
  simp -implicitDefEqProofs only [go_sem,hsz]
  rfl
theorem zg9 (k:Int):CallR Tryz.prog 101 [vI k] (vS (l5P k)) []:=by
 by_cases hk:0≤k
 ·obtain ⟨n,rfl⟩:∃n:Nat,k=n:=⟨k.toNat,by omega⟩
  exact znD n
 ·refine zl zqf false Tryz.f101 ?_
  conv=>enter [1];reduce
  refine jvR Tryz.f101 10 [.tmp 2] (by kernel_rfl) (by decide +kernel) rfl ?_
  simp -implicitDefEqProofs only [go_sem]
  refine Want.intro (qy _ _ _) ?_
  have hin:mIn k 1 8=false:=by simp [mIn];omega
  simp -implicitDefEqProofs only [go_sem,hin]
  rw [l5P,if_neg (by omega),if_neg (by omega),if_neg (by omega),if_neg (by omega),if_neg (by omega),if_neg (by omega)]
theorem zl9 (k:Int):(l5P k).size≤3:=by
 unfold l5P
 repeat' split
 all_goals decide
theorem xX (k:Int) (c:Nat):CallR Tryz.prog 197 [vI k,.sc (.int .u8 (c:Int))] (vB (zS (l5P k) c)) []:=by
 refine zl zqf false Tryz.f197 ?_
 conv=>enter [1];reduce
 refine jvR Tryz.f197 20 [.tmp 4] (by kernel_rfl) (by decide +kernel) rfl ?_
 simp -implicitDefEqProofs only [go_sem]
 refine Want.intro (zg9 k) ?_
 have hs3:=zl9 k
 generalize l5P k=s at *
 simp -implicitDefEqProofs only [go_sem]
 refine zX (fun m z=>∃i,i≤s.size∧m=s.size - i∧zgh (s.data.toList.drop i) c=zS s c∧z=⟨20,[(1,.sc (.int .u8 (c:Int))),(5,vS s),(6,vI i)],[],1⟩) s.size ?_ ?_
 ·simp -implicitDefEqProofs only [go_sem]
  exact ⟨0,Nat.zero_le _,rfl,rfl,rfl⟩
 ·rintro m z ⟨i,hi,rfl,hx,rfl⟩
  rcases Nat.lt_or_ge i s.size with hlt | hge
  ·have hlt':(i:Int)<(s.size:Int):=by omega
   have hg:=qQ (s:=s) (i:=i) hlt
   have w4:IntKind.i64.wrap ((i:Int)+1)=((i+1:Nat):Int):=by rw [wrS (by omega)];omega
   rw [zdl hlt] at hx
   simp -implicitDefEqProofs only [go_sem,hlt',hg]
   refine zi (fun h=>?_) (fun h=>?_)
   ·have h2:bN s i=c:=by have:=of_decide_eq_true h;omega
    simp -implicitDefEqProofs only [go_sem,h]
    rw [←hx,h2]
    simp
   ·have h2:¬bN s i=c:=fun e=>by rw [e] at h;simp at h
    simp -implicitDefEqProofs only [go_sem,h,w4]
    refine ⟨_,by omega,i+1,hlt,rfl,?_,rfl⟩
    rw [←hx]
    simp [h2]
  ·have hi:i=s.size:=by omega
   subst hi
   have hlt':¬((s.size:Int)<(s.size:Int)):=by omega
   simp -implicitDefEqProofs only [go_sem,hlt']
   rw [←hx]
   rw [List.drop_of_length_le (by rw [Array.length_toList];exact Nat.le_refl _)]
   rfl
end Go.Proofs.YtpjpkmhaffmbmaaGreat.E
end
section
namespace Go.Proofs.YtpjpkmhaffmbmaaGreat.E
open Go Go.RowKit
set_option maxHeartbeats 4000000
set_option maxRecDepth 10000
set_option linter.unusedSimpArgs false
set_option linter.unusedVariables false
set_option linter.unusedSectionVars false
def dcD9:Dec:=⟨[],[9,10,11],[22,30,37,38,39,40,49,56,76,80,87,141,143,159,237,250,259],false⟩
def low (v:Nat):Nat→List UInt8
 | 0=>[]
 | j+1=>UInt8.ofNat (v/256 ^ j%256)::low v j
theorem zT (v j:Nat):(low v j).length=j:=by
 induction j with
 | zero=>rfl
 | succ j ih=>simp [low,ih]
theorem zbl (v n:Nat):low v (n+1)=low (v/256) n++[UInt8.ofNat (v%256)]:=by
 induction n with
 | zero=>simp [low]
 | succ n ih=>
  rw [low,ih,low]
  simp [Nat.div_div_eq_div_mul,Nat.pow_succ,Nat.mul_comm]
theorem zbj (v n:Nat):(jl v n).data.toList=low v n:=by
 induction n generalizing v with
 | zero=>rfl
 | succ n ih=>
  rw [zbl,jl,ByteArray.data_append,Array.toList_append,ih]
theorem tmN (q:Nat):((q:Int)).tmod 256=((q%256:Nat):Int):=by rw [Int.tmod_eq_emod_of_nonneg (by omega)];omega
theorem tdN (q:Nat):((q:Int)).tdiv 256=((q/256:Nat):Int):=by rw [Int.tdiv_eq_ediv_of_nonneg (by omega)];omega
theorem wrN {q:Nat} (h:q≤1000000000):IntKind.i64.wrap (q:Int)=(q:Int):=wrS (by omega)
def zlq (v n j:Nat):List (List AV):=List.replicate (n - j) [.sc (.int .u8 0)]++(low v j).map zy
theorem zhb {v n j:Nat} (h:j≤n):(zlq v n j).length=n:=by simp [zlq,zT];omega
theorem zlZ {v n j:Nat} (h:j<n):(zlq v n j)[n - 1 - j]?=some [.sc (.int .u8 0)]:=by
 unfold zlq
 rw [List.getElem?_append_left (by simp;omega),List.getElem?_replicate,if_pos (by omega)]
theorem zlY {v n j:Nat} (h:j<n):(zlq v n j).set (n - 1 - j) [.sc (.int .u8 ((v/256 ^ j%256:Nat):Int))]=zlq v n (j+1):=by
 unfold zlq
 obtain ⟨m,hm⟩:∃m,n - j=m+1:=⟨n - j - 1,by omega⟩
 have h1:n - 1 - j=m:=by omega
 have h2:n - (j+1)=m:=by omega
 rw [hm,h1,h2,List.replicate_succ',List.append_assoc,List.set_append_right _ _ (by simp)]
 simp [low,zy]
theorem zkS (v n:Nat) (hn:n≤10) (hv:v≤1000000000):CallR Tryz.prog 198 [vI v,vI n] (.blk 0 0 [] 1 0 n) [([],⟨1,(low v n).map zy,2,false⟩)]:=by
 refine zl dcD9 false Tryz.f198 ?_
 conv=>enter [1];reduce
 refine jvR Tryz.f198 24 [.tmp 4] (by kernel_rfl) (by decide +kernel) rfl ?_
 have hmk:((1:Nat):Int) * (n:Int)≤281474976710656∧(n:Int)≤9223372036854775807:=by omega
 have w1:IntKind.i64.wrap ((n:Int) - 1)=(n:Int) - 1:=wrS (by omega)
 simp -implicitDefEqProofs only [go_sem,hmk,w1,List.length_replicate]
 refine zX (fun m z=>∃j,j≤n∧m=n - j∧z=⟨24,[(0,vI ((v/256 ^ j:Nat):Int)),(5,.blk 5 0 [] 1 0 n),(6,vI ((n:Int) - 1 - (j:Int)))],[(5,0,one ⟨1,zlq v n j,2,false⟩)],1⟩) n ?_ ?_
 ·simp -implicitDefEqProofs only [go_sem]
  exact ⟨0,Nat.zero_le _,rfl,by simp [zlq,low]⟩
 ·rintro m z ⟨j,hj,rfl,rfl⟩
  rcases Nat.lt_or_ge j n with hlt | hge
  ·have hidx:(n:Int) - 1 - (j:Int)=((n - 1 - j:Nat):Int):=by omega
   have hge0:((n - 1 - j:Nat):Int)≥0:=by omega
   have hlt':((n - 1 - j:Nat):Int)<(n:Int):=by omega
   have hq:v/256 ^ j≤v:=Nat.div_le_self _ _
   have htm:(((v/256 ^ j:Nat):Int)).tmod 256=((v/256 ^ j%256:Nat):Int):=tmN _
   have htd:(((v/256 ^ j:Nat):Int)).tdiv 256=((v/256 ^ (j+1):Nat):Int):=by
    rw [tdN,Nat.pow_succ,←Nat.div_div_eq_div_mul]
   have hq2:v/256 ^ (j+1)≤v:=Nat.div_le_self _ _
   have w2:IntKind.i64.wrap ((v/256 ^ (j+1):Nat):Int)=((v/256 ^ (j+1):Nat):Int):=wrN (Nat.le_trans hq2 hv)
   have w4:IntKind.i64.wrap (((n - 1 - j:Nat):Int) - 1)=(n:Int) - 1 - ((j+1:Nat):Int):=by rw [wrS (by omega)];omega
   have w3:(IntKind.u8.wrap ((v/256 ^ j%256:Nat):Int))=((v/256 ^ j%256:Nat):Int):=by
    have h8:IntKind.u8.bits=8:=rfl
    have hs:IntKind.u8.signed=false:=rfl
    simp only [IntKind.wrap,h8,hs,Bool.false_and,Bool.false_eq_true,if_false]
    omega
   have hget:=zlZ (v:=v) hlt
   have hset:=zlY (v:=v) hlt
   have hlen:=zhb (v:=v) hj
   simp -implicitDefEqProofs only [go_sem,hidx,hge0,hlt',htm,htd,w2,w3,hget,hset,hlen]
   exact ⟨_,by omega,j+1,hlt,rfl,by rw [w4]⟩
  ·have hj:j=n:=by omega
   subst hj
   have hge0:¬((j:Int) - 1 - (j:Int)≥0):=by omega
   have hlen:=zhb (v:=v) (Nat.le_refl j)
   simp -implicitDefEqProofs only [go_sem,hge0,hlen]
   simp [zlq]
end Go.Proofs.YtpjpkmhaffmbmaaGreat.E
end
section
namespace Go.Proofs.YtpjpkmhaffmbmaaGreat.E
open Go Go.RowKit
set_option maxHeartbeats 4000000
set_option maxRecDepth 10000
set_option linter.unusedSimpArgs false
set_option linter.unusedVariables false
set_option linter.unusedSectionVars false
def zmx:Dec:=⟨[(120,.cm [false,true,false])],[9,10,11],[22,30,37,38,39,40,49,56,76,80,87,141,143,159,237,250,259],false⟩
theorem xp (l:List UInt8):qT (l.map zy)=some l:=by
 induction l with
 | nil=>rfl
 | cons a l ih=>simp [qT,zy,ih]
theorem jx (v:Nat) (hv:v<18446744073709551616):CallR Tryz.prog 117 [vU v] (vS (jl v 8)) []:=by
 refine zl zmx false Tryz.f117 ?_
 conv=>enter [1];reduce
 refine jvR Tryz.f117 21 [.tmp 2] (by kernel_rfl) (by decide +kernel) rfl ?_
 simp -implicitDefEqProofs only [go_sem]
 refine zX (fun m z=>∃j,j≤8∧m=8 - j∧z=⟨21,[(0,vU v),(3,.blk 3 0 [] 1 0 (low (v/256 ^ (8 - j)) j).length),(4,vI (7 - (j:Int)))],[(3,0,one ⟨1,(low (v/256 ^ (8 - j)) j).map zy,2,false⟩)],1⟩) 8 ?_ ?_
 ·simp -implicitDefEqProofs only [go_sem]
  exact ⟨0,by omega,rfl,rfl⟩
 ·rintro m z ⟨j,hj,rfl,rfl⟩
  rcases Nat.lt_or_ge j 8 with hlt | hge
  ·have hge0:7 - (j:Int)≥0:=by omega
   have e1:IntKind.i64.wrap (8 * (7 - (j:Int)))=((8 * (7 - j):Nat):Int):=by rw [wrS (by omega)];omega
   have e2:IntKind.u64.wrap ((8 * (7 - j):Nat):Int)=((8 * (7 - j):Nat):Int):=yF _ (by omega)
   have e3:¬(((8 * (7 - j):Nat):Int)<0):=by omega
   have e4:8 * (7 - j)≤64:=by omega
   have e5:((v:Int)).fdiv (2 ^ (8 * (7 - j)))=((v/256 ^ (7 - j):Nat):Int):=by
    have hp:(2:Int) ^ (8 * (7 - j))=((256 ^ (7 - j):Nat):Int):=by
     rw [Int.pow_mul]
     simp
    rw [hp,Int.fdiv_eq_ediv_of_nonneg _ (Int.natCast_nonneg _)]
    rfl
   have e6:IntKind.u8.wrap ((v/256 ^ (7 - j):Nat):Int)=((v/256 ^ (7 - j)%256:Nat):Int):=by
    generalize v/256 ^ (7 - j)=q
    have h8:IntKind.u8.bits=8:=rfl
    have hs:IntKind.u8.signed=false:=rfl
    simp only [IntKind.wrap,h8,hs,Bool.false_and,Bool.false_eq_true,if_false]
    omega
   have e7:IntKind.i64.wrap (7 - (j:Int) - 1)=7 - ((j+1:Nat):Int):=by rw [wrS (by omega)];omega
   have ha:∀x,_:=fun x=>zK (E:=zy) (l:=low (v/256 ^ (8 - j)) j) (xs:=[x]) (b:=1) (n:=100) (by simp [zT];omega) (by omega) (by omega)
   simp -implicitDefEqProofs only [go_sem,hge0,e1,e2,e3,e4,e5,e6,e7,ha]
   have hst:low (v/256 ^ (8 - (j+1))) (j+1)=low (v/256 ^ (8 - j)) j++[UInt8.ofNat (v/256 ^ (7 - j)%256)]:=by
    rw [show 8 - (j+1)=7 - j by omega,zbl,Nat.div_div_eq_div_mul,←Nat.pow_succ,show (7 - j).succ=8 - j by omega]
   exact ⟨_,by omega,j+1,hlt,rfl,by rw [hst];simp [zy]⟩
  ·have hj:j=8:=by omega
   subst hj
   have hge0:¬(7 - ((8:Nat):Int)≥0):=by omega
   simp -implicitDefEqProofs only [go_sem,hge0,xp]
   have e:(⟨(low (v/256 ^ 0) 8).toArray⟩:ByteArray)=jl v 8:=by
    have:=zbj v 8
    rw [show v/256 ^ 0=v by simp,←this]
   rw [e]
structure MDig.ok (d:MDig):Prop where
 a:d.a<18446744073709551616
 b:d.b<18446744073709551616
 c:d.c<18446744073709551616
 d:d.d<18446744073709551616
def MDig.bytes (d:MDig):ByteArray:=jl d.a 8++jl d.b 8++jl d.c 8++jl d.d 8
theorem zaR (q:Nat):IntKind.u8.wrap (q:Int)=((q%256:Nat):Int):=by
 have h8:IntKind.u8.bits=8:=rfl
 have hs:IntKind.u8.signed=false:=rfl
 simp only [IntKind.wrap,h8,hs,Bool.false_and,Bool.false_eq_true,if_false]
 omega
theorem zbA (v:Nat) {m:Nat} (j:Nat) (h:m=8 * j):IntKind.u8.wrap ((v:Int).fdiv (2 ^ m))=((v/256 ^ j%256:Nat):Int):=by
 subst h
 have hp:(2:Int) ^ (8 * j)=((256 ^ j:Nat):Int):=by
  rw [Int.pow_mul]
  simp
 rw [hp,Int.fdiv_eq_ediv_of_nonneg _ (Int.natCast_nonneg _)]
 exact zaR _
theorem zrS (d:MDig) (h:d.ok):CallR Tryz.prog 77 [.agg d.cs] (vS d.bytes) []:=by
 refine zl zmx false Tryz.f77 ?_
 conv=>enter [1];reduce
 refine jvR Tryz.f77 18 [.tmp 2] (by kernel_rfl) (by decide +kernel) rfl ?_
 have hs:∀v,(jl v 8).size=8:=fun v=>zbU v 8
 have hsz:∀a b c d:Nat,¬((((jl a 8).size+(jl b 8).size:Nat):Int)>9223372036854775807)∧¬((((jl a 8).size+(jl b 8).size+(jl c 8).size:Nat):Int)>9223372036854775807)∧¬((((jl a 8).size+(jl b 8).size+(jl c 8).size+(jl d 8).size:Nat):Int)>9223372036854775807):=by
  intro a b c d
  simp only [hs]
  omega
 simp -implicitDefEqProofs only [go_sem]
 repeat' first | (refine Want.intro (by first | exact jx _ h.a | exact jx _ h.b | exact jx _ h.c | exact jx _ h.d) ?_;try simp -implicitDefEqProofs only [go_sem,(hsz d.a d.b d.c d.d).1,(hsz d.a d.b d.c d.d).2.1,(hsz d.a d.b d.c d.d).2.2]) | (refine WantM.intro (by first | exact jx _ h.a | exact jx _ h.b | exact jx _ h.c | exact jx _ h.d) ?_;try simp -implicitDefEqProofs only [go_sem,(hsz d.a d.b d.c d.d).1,(hsz d.a d.b d.c d.d).2.1,(hsz d.a d.b d.c d.d).2.2]) | (refine zm (fun h=>?_) (fun h=>?_)<;>try simp -implicitDefEqProofs only [go_sem,(hsz d.a d.b d.c d.d).1,(hsz d.a d.b d.c d.d).2.1,(hsz d.a d.b d.c d.d).2.2,h]) | (refine zi (fun h=>?_) (fun h=>?_)<;>try simp -implicitDefEqProofs only [go_sem,(hsz d.a d.b d.c d.d).1,(hsz d.a d.b d.c d.d).2.1,(hsz d.a d.b d.c d.d).2.2,h])
 rfl
theorem za5 (l:List UInt8) (v:Nat) (hl:l.length≤1000000):zW Tryz.prog 120 [(1000000,0,one ⟨1,l.map zy,2,false⟩)] [.agg [],.blk 1000000 0 [] 1 0 l.length,vU v] (.blk 0 0 [] 1 0 (l++low v 8).length) [(0,0,one ⟨1,(l++low v 8).map zy,2,false⟩)]:=by
 refine zl zmx false Tryz.f120 ?_
 conv=>enter [1];reduce
 refine jvM Tryz.f120 33 [.tmp 6] (by kernel_rfl) (by decide +kernel) rfl ?_
 have e0:=zaR v
 have e7:=zbA v (m:=56) 7 rfl
 have e6:=zbA v (m:=48) 6 rfl
 have e5:=zbA v (m:=40) 5 rfl
 have e4:=zbA v (m:=32) 4 rfl
 have e3:=zbA v (m:=24) 3 rfl
 have e2:=zbA v (m:=16) 2 rfl
 have e1:=zbA v (m:=8) 1 rfl
 have ha:∀x0 x1 x2 x3 x4 x5 x6 x7,_:=fun x0 x1 x2 x3 x4 x5 x6 x7=>zK (E:=zy) (l:=l) (xs:=[x0,x1,x2,x3,x4,x5,x6,x7]) (b:=1) (n:=10000000) (by simp;omega) (by omega) (by omega)
 simp -implicitDefEqProofs only [go_sem,e0,e1,e2,e3,e4,e5,e6,e7,ha]
 simp [low,zy]
def MDig.bk (d:MDig):Nat→List UInt8
 | 0=>[]
 | 1=>low d.a 8
 | 2=>low d.a 8++low d.b 8
 | 3=>low d.a 8++low d.b 8++low d.c 8
 | _=>low d.a 8++low d.b 8++low d.c 8++low d.d 8
theorem MDig.bytes_bk (d:MDig):d.bytes=⟨(d.bk 4).toArray⟩:=by
 unfold MDig.bytes MDig.bk
 apply ByteArray.ext
 apply Array.toList_inj.1
 simp [ByteArray.data_append,Array.toList_append,zbj]
theorem low8 (v:Nat):(low v 8).length=8:=zT v 8
theorem MDig.bk_len (d:MDig) {i:Nat} (h:i≤4):(d.bk i).length=8 * i:=by
 have hi':i=0∨i=1∨i=2∨i=3∨i=4:=by omega
 rcases hi' with rfl | rfl | rfl | rfl | rfl<;>simp [MDig.bk,low8]
theorem znm (d:MDig):CallR Tryz.prog 199 [.agg d.cs] (vS d.bytes) []:=by
 refine zl zmx false Tryz.f199 ?_
 conv=>enter [1];reduce
 refine jvR Tryz.f199 27 [.tmp 2] (by kernel_rfl) (by decide +kernel) rfl ?_
 simp -implicitDefEqProofs only [go_sem]
 refine qv [(3,1)] (fun m s=>∃i,i≤4∧m=4 - i∧s=⟨27,[(3,.blk 3 0 [] 1 0 (d.bk i).length),(14,.blk 14 0 [] 1 0 4),(15,vI 4),(16,vI i)],[(3,0,one ⟨1,(d.bk i).map zy,2,false⟩),(14,0,one ⟨1,[[vU d.a],[vU d.b],[vU d.c],[vU d.d]],2,false⟩)],1⟩) 4 ?_ ?_
 ·simp -implicitDefEqProofs only [go_sem]
  exact ⟨0,by omega,rfl,rfl⟩
 ·rintro m s ⟨i,hi,rfl,rfl⟩
  rcases Nat.lt_or_ge i 4 with hlt | hge
  ·have hlt':(i:Int)<4:=by omega
   have w4:IntKind.i64.wrap ((i:Int)+1)=((i+1:Nat):Int):=by rw [wrS (by omega)];omega
   obtain ⟨w,hg,hk⟩:∃w,([[vU d.a],[vU d.b],[vU d.c],[vU d.d]]:List (List AV))[i]?=some [vU w]∧d.bk (i+1)=d.bk i++low w 8:=by
    have hi':i=0∨i=1∨i=2∨i=3:=by omega
    rcases hi' with rfl | rfl | rfl | rfl
    ·exact ⟨d.a,rfl,rfl⟩
    ·exact ⟨d.b,rfl,rfl⟩
    ·exact ⟨d.c,rfl,rfl⟩
    ·exact ⟨d.d,rfl,rfl⟩
   have hb:=d.bk_len (i:=i) (by omega)
   simp -implicitDefEqProofs only [go_sem,hlt',Int.cast_ofNat_Int,hg]
   refine WantM.intro (za5 (d.bk i) w (by omega)) ?_
   simp -implicitDefEqProofs only [go_sem,w4]
   exact ⟨_,by omega,i+1,hlt,rfl,by rw [hk]⟩
  ·have hi4:i=4:=by omega
   subst hi4
   have hlt':¬(((4:Nat):Int)<4):=by omega
   simp -implicitDefEqProofs only [go_sem,hlt',xp]
   rw [d.bytes_bk]
end Go.Proofs.YtpjpkmhaffmbmaaGreat.E
end
section
namespace Go.Proofs.YtpjpkmhaffmbmaaGreat.E
open Go Go.RowKit
set_option maxHeartbeats 4000000
set_option maxRecDepth 10000
set_option linter.unusedSimpArgs false
set_option linter.unusedVariables false
set_option linter.unusedSectionVars false
def zrK:Dec:=⟨[],[9,10,11],[22,30,37,38,39,40,49,56,76,80,87,141,143,159,237,250,259],false⟩
def hS (k:Int):Bool:=decide (k=1∨k=2∨k=3∨k=6)
def hF (k:Int):Bool:=decide (k=4∨k=5∨k=7∨k=8)
def hZ (k:Int):Bool:=decide (k=2∨k=3∨k=4∨k=5∨k=6)
def hR (k:Int):Bool:=decide (k=2∨k=3∨k=6)
def hC (k:Int):Bool:=decide (k=7)
def hP (k:Int):Bool:=decide (k=5)
def hL (k:Int):Bool:=decide (k=8)
theorem zkl (k:Int):k=1∨k=2∨k=3∨k=4∨k=5∨k=6∨k=7∨k=8∨(¬k=1∧¬k=2∧¬k=3∧¬k=4∧¬k=5∧¬k=6∧¬k=7∧¬k=8):=by omega
theorem zgp (k:Int):(zS (l5P k) 115=hS k∧zS (l5P k) 102=hF k∧zS (l5P k) 122=hZ k∧zS (l5P k) 114=hR k∧zS (l5P k) 99=hC k∧zS (l5P k) 112=hP k∧zS (l5P k) 108=hL k)∧
  (zS (l5H k) 115=hS k∧zS (l5H k) 102=hF k∧zS (l5H k) 110=hZ k∧zS (l5H k) 114=hR k∧zS (l5H k) 99=hC k∧zS (l5H k) 112=hP k∧zS (l5H k) 108=hL k):=by
 rcases zkl k with rfl | rfl | rfl | rfl | rfl | rfl | rfl | rfl | ⟨h1,h2,h3,h4,h5,h6,h7,h8⟩
 iterate 8 exact ⟨⟨rfl,rfl,rfl,rfl,rfl,rfl,rfl⟩,⟨rfl,rfl,rfl,rfl,rfl,rfl,rfl⟩⟩
 have e1:l5P k=⟨#[]⟩:=by simp [l5P,h1,h2,h3,h4,h5,h6,h7,h8]
 have e2:l5H k=⟨#[]⟩:=by simp [l5H,h1,h2,h3,h4,h5,h6,h7,h8]
 rw [e1,e2]
 simp [hS,hF,hZ,hR,hC,hP,hL,h1,h2,h3,h4,h5,h6,h7,h8,zS,zgh]
def dig0:MDig:=⟨0,0,0,0⟩
def zC (m:MMsg):Bool:=mIn m.kind 1 8&&(xT (hS m.kind) m.session 1 1000000&&(xT (hF m.kind) m.from_ 0 256&&(xT (hZ m.kind) m.size 0 256&&((hR m.kind||jd m.root dig0)&&(xT (hC m.kind) m.count 1 8&&(xT (hP m.kind) m.proof.length 0 16&&(xT (hL m.kind) m.leaves.length 0 8&&zt m.leaves)))))))
def MMsg.roC (m:MMsg):List AV:=[vI m.kind,vI m.session,vI m.from_,vI m.size,vU m.root.a,vU m.root.b,vU m.root.c,vU m.root.d,vI m.count,.ro 4 (m.proof.map MDig.cs),.ro 1 (m.leaves.map zw)]
attribute [go_sem] MMsg.roC
theorem zr7 (m:MMsg) (hl:m.leaves.length≤maxLen):CallR Tryz.prog 183 [m.ro] (vB (zC m)) []:=by
 refine zl zrK false Tryz.f183 ?_
 conv=>enter [1];reduce
 refine jvR Tryz.f183 75 [.tmp 2] (by kernel_rfl) (by decide +kernel) rfl ?_
 simp -implicitDefEqProofs only [go_sem]
 refine zX (fun k s=>∃i:Nat,i≤m.leaves.length∧k=m.leaves.length - i∧zt (m.leaves.drop i)=zt m.leaves∧s=⟨75,[(1,.ptr 1 0 [] 11 0 0),(3,vI m.kind),(9,.ro 1 (m.leaves.map zw)),(10,vI m.leaves.length),(11,vI i)],[(1,0,one ⟨11,[m.roC],0,false⟩)],1⟩) m.leaves.length ?_ ?_
 ·simp -implicitDefEqProofs only [go_sem]
  exact ⟨0,Nat.zero_le _,rfl,rfl,rfl⟩
 ·rintro k s ⟨i,hi,rfl,hx,rfl⟩
  rcases Nat.lt_or_ge i m.leaves.length with hlt | hge
  ·have hlt':(i:Int)<(m.leaves.length:Int):=by omega
   have hg:m.leaves[i]?=some m.leaves[i]:=List.getElem?_eq_getElem hlt
   have hw:=zG hlt hl
   rw [qO hlt] at hx
   simp -implicitDefEqProofs only [go_sem,hlt',hg]
   refine zi (fun h=>?_) (fun h=>?_)
   ·have h3:¬m.leaves[i].size≤40:=by have:=of_decide_eq_true h;omega
    simp -implicitDefEqProofs only [go_sem,h]
    have hx':zt m.leaves=false:=by rw [←hx];simp [h3]
    simp [zC,hx']
   ·have h3:m.leaves[i].size≤40:=by have:=of_decide_eq_false h;omega
    simp -implicitDefEqProofs only [go_sem,h,hw]
    refine ⟨_,by omega,i+1,hlt,rfl,?_,rfl⟩
    rw [←hx]
    simp [h3]
  ·have hi:i=m.leaves.length:=by omega
   subst hi
   have hlt':¬((m.leaves.length:Int)<(m.leaves.length:Int)):=by omega
   rw [List.drop_length] at hx
   have hx':zt m.leaves=true:=hx.symm
   obtain ⟨e1,e2,e3,e4,e5,e6,e7⟩:=(zgp m.kind).1
   simp -implicitDefEqProofs only [go_sem,hlt']
   repeat' first | (refine Want.intro (by first | exact qy _ _ _ | exact xX m.kind 115 | exact xX m.kind 102 | exact xX m.kind 122 | exact xX m.kind 114 | exact xX m.kind 99 | exact xX m.kind 112 | exact xX m.kind 108 | exact znn _ _ _ _) ?_;try simp -implicitDefEqProofs only [go_sem,e1,e2,e3,e4,e5,e6,e7]) | (refine WantM.intro (by first | exact qy _ _ _ | exact xX m.kind 115 | exact xX m.kind 102 | exact xX m.kind 122 | exact xX m.kind 114 | exact xX m.kind 99 | exact xX m.kind 112 | exact xX m.kind 108 | exact znn _ _ _ _) ?_;try simp -implicitDefEqProofs only [go_sem,e1,e2,e3,e4,e5,e6,e7]) | (refine zm (fun h=>?_) (fun h=>?_)<;>try simp -implicitDefEqProofs only [go_sem,e1,e2,e3,e4,e5,e6,e7,h]) | (refine zi (fun h=>?_) (fun h=>?_)<;>try simp -implicitDefEqProofs only [go_sem,e1,e2,e3,e4,e5,e6,e7,h])
   all_goals simp_all [zC,dig0,jd]
   all_goals trace_state
theorem zma:l5H 1=⟨#[115]⟩∧l5H 2=⟨#[115,110,114]⟩∧l5H 3=⟨#[115,110,114]⟩∧l5H 4=⟨#[102,110]⟩∧l5H 5=⟨#[102,110,112]⟩∧l5H 6=⟨#[115,110,114]⟩∧l5H 7=⟨#[102,99]⟩∧l5H 8=⟨#[102,108]⟩:=⟨rfl,rfl,rfl,rfl,rfl,rfl,rfl,rfl⟩
theorem zcS:(hS 1=true∧hS 2=true∧hS 3=true∧hS 4=false∧hS 5=false∧hS 6=true∧hS 7=false∧hS 8=false)∧(hF 1=false∧hF 2=false∧hF 3=false∧hF 4=true∧hF 5=true∧hF 6=false∧hF 7=true∧hF 8=true)∧(hZ 1=false∧hZ 2=true∧hZ 3=true∧hZ 4=true∧hZ 5=true∧hZ 6=true∧hZ 7=false∧hZ 8=false)∧(hR 1=false∧hR 2=true∧hR 3=true∧hR 4=false∧hR 5=false∧hR 6=true∧hR 7=false∧hR 8=false)∧(hC 1=false∧hC 2=false∧hC 3=false∧hC 4=false∧hC 5=false∧hC 6=false∧hC 7=true∧hC 8=false)∧(hP 1=false∧hP 2=false∧hP 3=false∧hP 4=false∧hP 5=true∧hP 6=false∧hP 7=false∧hP 8=false)∧(hL 1=false∧hL 2=false∧hL 3=false∧hL 4=false∧hL 5=false∧hL 6=false∧hL 7=false∧hL 8=true):=by decide
theorem xE:mIn 1 1 8=true∧mIn 2 1 8=true∧mIn 3 1 8=true∧mIn 4 1 8=true∧mIn 5 1 8=true∧mIn 6 1 8=true∧mIn 7 1 8=true∧mIn 8 1 8=true:=by decide
theorem zft (a:UInt8) (l:List UInt8):((a::l)==([]:List UInt8))=false:=rfl
theorem zgI:(([]:List UInt8)==[])=true:=rfl
attribute [go_sem] zft zgI zma jR tl_1 tl_2 zqu
theorem c75_c (m:MMsg) (hl:m.leaves.length≤maxLen):CallR Tryz.prog 75 [m.ro] (vB (zC m)) []:=by
 refine zl zrK false Tryz.f75 ?_
 conv=>enter [1];reduce
 refine jvR Tryz.f75 127 [.tmp 2] (by kernel_rfl) (by decide +kernel) rfl ?_
 obtain ⟨k,se,fr,si,ro,co,pr,le⟩:=m
 simp -implicitDefEqProofs only [go_sem]
 refine Want.intro (zmE k) ?_
 rcases zkl k with rfl | rfl | rfl | rfl | rfl | rfl | rfl | rfl | ⟨h1,h2,h3,h4,h5,h6,h7,h8⟩
 case inr.inr.inr.inr.inr.inr.inr.inr=>
  have e2:l5H k=⟨#[]⟩:=by simp [l5H,h1,h2,h3,h4,h5,h6,h7,h8]
  simp -implicitDefEqProofs only [go_sem,e2,zb]
  have:mIn k 1 8=false:=by simp [mIn];omega
  simp [zC,this]
 all_goals simp -implicitDefEqProofs only [go_sem,zb,za]
 all_goals repeat' first | (refine Want.intro (by first | exact zaK _ _ _ | exact zh _ 115 (by decide) | exact zh _ 102 (by decide) | exact zh _ 110 (by decide) | exact zh _ 114 (by decide) | exact zh _ 99 (by decide) | exact zh _ 112 (by decide) | exact zh _ 108 (by decide) | exact znv le hl) ?_;try simp -implicitDefEqProofs only [go_sem,zb,za]) | (refine WantM.intro (by first | exact zaK _ _ _ | exact zh _ 115 (by decide) | exact zh _ 102 (by decide) | exact zh _ 110 (by decide) | exact zh _ 114 (by decide) | exact zh _ 99 (by decide) | exact zh _ 112 (by decide) | exact zh _ 108 (by decide) | exact znv le hl) ?_;try simp -implicitDefEqProofs only [go_sem,zb,za]) | (refine zm (fun h=>?_) (fun h=>?_)<;>try simp -implicitDefEqProofs only [go_sem,zb,za,h]) | (refine zi (fun h=>?_) (fun h=>?_)<;>try simp -implicitDefEqProofs only [go_sem,zb,za,h])
 all_goals simp_all [zC,dig0,jd,xT,zcS,xE]
 all_goals first
  | (intros;subst_vars;simp_all;done)
  | (cases le<;>simp_all [zt];done)
  | (cases hlo:zt le<;>simp_all [mIn]<;>intros<;>first | omega | (intro e;subst e;simp_all [zt];done) | (subst_vars;simp_all [zt];done))
end Go.Proofs.YtpjpkmhaffmbmaaGreat.E
end
