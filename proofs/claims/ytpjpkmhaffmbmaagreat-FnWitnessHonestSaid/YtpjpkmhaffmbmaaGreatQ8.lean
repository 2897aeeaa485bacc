/- Contracts: messages in bytes. -/
import Derived.Test.YtpjpkmhaffmbmaaGreatQ7
namespace Go.Proofs.YtpjpkmhaffmbmaaGreat.E
open Go Go.RowKit
set_option maxHeartbeats 4000000
set_option maxRecDepth 10000
set_option linter.unusedSimpArgs false
set_option linter.unusedVariables false
set_option linter.unusedSectionVars false
def dcD12:Dec:=⟨[],[9,10,11],[22,30,37,38,39,40,49,56,76,80,87,141,143,159,237,250,259],false⟩
def MDig.bl (d:MDig):List UInt8:=d.bk 4
def bK (m:MMsg):List UInt8:=low m.kind.toNat 1
def bS (m:MMsg):List UInt8:=low m.session.toNat 3
def bF (m:MMsg):List UInt8:=low m.from_.toNat 2
def bZ (m:MMsg):List UInt8:=low m.size.toNat 2
def bC (m:MMsg):List UInt8:=low m.count.toNat 1
def xP (l:List MDig):List UInt8:=l.flatMap MDig.bl
def zaD (s:ByteArray):List UInt8:=low s.size 1++s.data.toList
def yA (l:List ByteArray):List UInt8:=l.flatMap zaD
def bP (m:MMsg):List UInt8:=low m.proof.length 1++xP m.proof
def bL_ (m:MMsg):List UInt8:=low m.leaves.length 1++yA m.leaves
def wbL (m:MMsg):List UInt8:=
 if m.kind=1 then bK m++bS m
 else if m.kind=2∨m.kind=3∨m.kind=6 then bK m++bS m++bZ m++m.root.bl
 else if m.kind=4 then bK m++bF m++bZ m
 else if m.kind=5 then bK m++bF m++bZ m++bP m
 else if m.kind=7 then bK m++bF m++bC m
 else bK m++bF m++bL_ m
def bA (l:List UInt8):ByteArray:=⟨l.toArray⟩
theorem zU (l:List UInt8):(bA l).size=l.length:=by simp [bA,ByteArray.size]
theorem zdG {a b:ByteArray} (h:a.data.toList=b.data.toList):a=b:=ByteArray.ext (Array.toList_inj.1 h)
theorem zai (a b:List UInt8):bA a++bA b=bA (a++b):=zdG (by simp [bA,ByteArray.data_append])
theorem zmI (s:ByteArray):s=bA s.data.toList:=zdG (by simp [bA])
theorem xQ (l:List UInt8):(bA l).data.toList=l:=by simp [bA]
theorem bA_nil:(⟨#[]⟩:ByteArray)=bA []:=rfl
theorem zdV (v n:Nat):jl v n=bA (low v n):=zdG (by rw [zbj];simp [bA])
theorem zei (d:MDig):d.bytes=bA d.bl:=by rw [d.bytes_bk];rfl
theorem xm (d:MDig):d.bl.length=32:=d.bk_len (Nat.le_refl 4)
def zr (m:MMsg):ByteArray:=if zC m then bA (wbL m) else ⟨#[]⟩
theorem zkk (v:Int) (h:0≤v∧v≤1000000000):CallR Tryz.prog 76 [vI v,vI 1] (vS (bA (low v.toNat 1))) []:=by
 have:=zmB 1 v.toNat (by omega) (by omega)
 rw [Int.toNat_of_nonneg h.1,zdV] at this
 exact this
theorem znf (v:Int) (h:0≤v∧v≤1000000000):CallR Tryz.prog 76 [vI v,vI 2] (vS (bA (low v.toNat 2))) []:=by
 have:=zmB 2 v.toNat (by omega) (by omega)
 rw [Int.toNat_of_nonneg h.1,zdV] at this
 exact this
theorem zne (v:Int) (h:0≤v∧v≤1000000000):CallR Tryz.prog 76 [vI v,vI 3] (vS (bA (low v.toNat 3))) []:=by
 have:=zmB 3 v.toNat (by omega) (by omega)
 rw [Int.toNat_of_nonneg h.1,zdV] at this
 exact this
theorem zmh (d:MDig) (h:d.ok):CallR Tryz.prog 77 [.agg d.cs] (vS (bA d.bl)) []:=by
 have:=zrS d h
 rw [zei] at this
 exact this
theorem qt {h:Bool} {x lo hi:Int} (h1:xT h x lo hi=true) (h2:0≤lo) (h3:0≤hi):0≤x∧x≤hi:=by
 cases h with
 | false=>have:x=0:=by simpa [xT] using h1
          omega
 | true=>have:lo≤x∧x≤hi:=by simpa [xT,mIn] using h1
         omega
structure WOk (m:MMsg):Prop where
 k:mIn m.kind 1 8=true
 s:0≤m.session∧m.session≤1000000
 f:0≤m.from_∧m.from_≤256
 z:0≤m.size∧m.size≤256
 c:0≤m.count∧m.count≤8
 p:m.proof.length≤16
 l:m.leaves.length≤8
 lo:zt m.leaves=true
theorem WOk.of {m:MMsg} (h:zC m=true):WOk m:=by
 simp only [zC,Bool.and_eq_true] at h
 obtain ⟨h0,hs,hf,hz,hr,hc,hp,hl,hlo⟩:=h
 have hp':=qt hp (by omega) (by omega)
 have hl':=qt hl (by omega) (by omega)
 exact ⟨h0,qt hs (by omega) (by omega),qt hf (by omega) (by omega),qt hz (by omega) (by omega),qt hc (by omega) (by omega),by omega,by omega,hlo⟩
attribute [go_sem] zai zU
theorem zac {α:Type} (f:α→List UInt8) {l:List α} {i:Nat} (h:i<l.length):(l.take (i+1)).flatMap f=(l.take i).flatMap f++f l[i]:=by
 rw [List.take_succ_eq_append_getElem h,List.flatMap_append]
 simp
theorem zag (l:List MDig):(xP l).length=32 * l.length:=by
 induction l with
 | nil=>rfl
 | cons a l ih=>simp only [xP,List.flatMap_cons,List.length_append,xm,List.length_cons] at *;omega
theorem jG (l:List ByteArray) (h:zt l=true):(yA l).length≤41 * l.length:=by
 induction l with
 | nil=>exact Nat.zero_le _
 | cons a l ih=>
  simp only [zt,List.all_cons,Bool.and_eq_true,decide_eq_true_eq] at h
  have:=ih h.2
  have e:a.data.toList.length=a.size:=Array.length_toList
  simp only [yA,zaD,List.flatMap_cons,List.length_append,List.length_cons,zT,e] at *
  omega
theorem wR {l:List ByteArray} (h:zt l=true) (i:Nat):zt (l.take i)=true:=by
 simp only [zt,List.all_eq_true] at *
 exact fun x hx=>h x (List.mem_of_mem_take hx)
theorem za1 {l:List ByteArray} (h:zt l=true) {i:Nat} (hi:i<l.length):l[i].size≤40:=by
 simp only [zt,List.all_eq_true,decide_eq_true_eq] at h
 exact h _ (List.getElem_mem hi)
theorem zpg (m:MMsg) (hp:m.proof.length≤maxLen) (hl:m.leaves.length≤maxLen) (hr:m.root.ok) (hd:∀d∈m.proof,d.ok):CallR Tryz.prog 23 [m.ro] (vS (zr m)) []:=by
 refine zl dcD12 false Tryz.f23 ?_
 conv=>enter [1];reduce
 refine jvR Tryz.f23 105 [.tmp 2] (by kernel_rfl) (by decide +kernel) rfl ?_
 simp -implicitDefEqProofs only [go_sem]
 refine Want.intro (c75_c m hl) ?_
 simp -implicitDefEqProofs only [go_sem]
 refine zi (fun h=>?_) (fun h=>?_)
 ·have h':zC m=false:=by simpa using h
  simp -implicitDefEqProofs only [go_sem,h]
  simp [zr,h']
 ·have h':zC m=true:=by simpa using h
  have hk:=WOk.of h'
  rw [zr,if_pos h']
  simp -implicitDefEqProofs only [go_sem,h]
  clear h h'
  obtain ⟨k,se,fr,si,ro,co,pr,le⟩:=m
  obtain ⟨k0,ks,kf,kz,kc,kp,kl,klo⟩:=hk
  simp only at k0 ks kf kz kc kp kl klo hr hd
  refine Want.intro (zmE k) ?_
  rcases zkl k with rfl | rfl | rfl | rfl | rfl | rfl | rfl | rfl | ⟨h1,h2,h3,h4,h5,h6,h7,h8⟩
  case inr.inr.inr.inr.inr.inr.inr.inr=>simp [mIn] at k0;omega
  all_goals simp -implicitDefEqProofs only [go_sem,zb,za]
  all_goals repeat' first | (refine Want.intro (by first | exact zh _ 115 (by decide) | exact zh _ 102 (by decide) | exact zh _ 110 (by decide) | exact zh _ 114 (by decide) | exact zh _ 99 (by decide) | exact zh _ 112 (by decide) | exact zh _ 108 (by decide) | exact zkk _ (by omega) | exact znf _ (by omega) | exact zne _ (by omega) | exact zmh ro hr) ?_;try simp -implicitDefEqProofs only [go_sem,zb,za,zT,xm,List.length_append,Int.cast_ofNat_Int,Int.reduceGT]) | (refine WantM.intro (by first | exact zh _ 115 (by decide) | exact zh _ 102 (by decide) | exact zh _ 110 (by decide) | exact zh _ 114 (by decide) | exact zh _ 99 (by decide) | exact zh _ 112 (by decide) | exact zh _ 108 (by decide) | exact zkk _ (by omega) | exact znf _ (by omega) | exact zne _ (by omega) | exact zmh ro hr) ?_;try simp -implicitDefEqProofs only [go_sem,zb,za,zT,xm,List.length_append,Int.cast_ofNat_Int,Int.reduceGT]) | (refine zm (fun h=>?_) (fun h=>?_)<;>try simp -implicitDefEqProofs only [go_sem,zb,za,zT,xm,List.length_append,Int.cast_ofNat_Int,Int.reduceGT,h]) | (refine zi (fun h=>?_) (fun h=>?_)<;>try simp -implicitDefEqProofs only [go_sem,zb,za,zT,xm,List.length_append,Int.cast_ofNat_Int,Int.reduceGT,h])
  all_goals try (simp [wbL,bK,bS,bF,bZ,bC];done)
  ·have hpl:(low 5 1++low fr.toNat 2++low si.toNat 2++low pr.length 1).length=6:=by simp [zT]
   have hW:wbL ⟨5,se,fr,si,ro,co,pr,le⟩=(low 5 1++low fr.toNat 2++low si.toNat 2++low pr.length 1)++xP pr:=by simp [wbL,bK,bF,bZ,bP]
   rw [hW]
   generalize low 5 1++low fr.toNat 2++low si.toNat 2++low pr.length 1=pre at *
   refine zX (fun n z=>∃i:Nat,i≤pr.length∧n=pr.length - i∧z=⟨105,[(1,.ptr 1 0 [] 11 0 0),(3,vS ⟨#[102,110,112]⟩),(4,vS (bA (pre++xP (pr.take i)))),(5,vI i)],[(1,0,one ⟨11,[(MMsg.mk 5 se fr si ro co pr le).roC],0,false⟩)],1⟩) pr.length ?_ ?_
   ·simp -implicitDefEqProofs only [go_sem]
    exact ⟨0,Nat.zero_le _,rfl,by simp [xP]⟩
   ·rintro n z ⟨i,hi,rfl,rfl⟩
    rcases Nat.lt_or_ge i pr.length with hlt | hge
    ·have hlt':(i:Int)<(pr.length:Int):=by omega
     have hg:pr[i]?=some pr[i]:=List.getElem?_eq_getElem hlt
     have hw:=zG hlt hp
     have hft:=zac MDig.bl hlt
     have hdl:=zag (pr.take i)
     rw [List.length_take] at hdl
     have hsz:¬(((pre.length+(xP (pr.take i)).length+32:Nat):Int)>9223372036854775807):=by omega
     simp -implicitDefEqProofs only [go_sem,hlt',hg]
     refine Want.intro (zmh pr[i] (hd _ (List.getElem_mem hlt))) ?_
     simp -implicitDefEqProofs only [go_sem,hw,xm,List.length_append,hsz]
     refine ⟨_,by omega,i+1,hlt,rfl,?_⟩
     rw [xP,xP,hft,List.append_assoc]
    ·have hi:i=pr.length:=by omega
     subst hi
     have hlt':¬((pr.length:Int)<(pr.length:Int)):=by omega
     simp -implicitDefEqProofs only [go_sem,hlt']
     refine Want.intro (zh _ 108 (by decide)) ?_
     simp -implicitDefEqProofs only [go_sem,za,List.take_length]
  ·have hpl:(low 8 1++low fr.toNat 2++low le.length 1).length=4:=by simp [zT]
   have hW:wbL ⟨8,se,fr,si,ro,co,pr,le⟩=(low 8 1++low fr.toNat 2++low le.length 1)++yA le:=by simp [wbL,bK,bF,bZ,bL_]
   rw [hW]
   generalize low 8 1++low fr.toNat 2++low le.length 1=pre at *
   refine zX (fun n z=>∃i:Nat,i≤le.length∧n=le.length - i∧z=⟨105,[(1,.ptr 1 0 [] 11 0 0),(4,vS (bA (pre++yA (le.take i)))),(6,vI i)],[(1,0,one ⟨11,[(MMsg.mk 8 se fr si ro co pr le).roC],0,false⟩)],1⟩) le.length ?_ ?_
   ·simp -implicitDefEqProofs only [go_sem]
    exact ⟨0,Nat.zero_le _,rfl,by simp [yA]⟩
   ·rintro n z ⟨i,hi,rfl,rfl⟩
    rcases Nat.lt_or_ge i le.length with hlt | hge
    ·have hlt':(i:Int)<(le.length:Int):=by omega
     have hg:le[i]?=some le[i]:=List.getElem?_eq_getElem hlt
     have hw:=zG hlt hl
     have hft:=zac zaD hlt
     have hdl:=jG (le.take i) (wR klo i)
     rw [List.length_take] at hdl
     have h40:=za1 klo hlt
     have e:le[i].data.toList.length=le[i].size:=Array.length_toList
     have hsz:¬(((pre.length+(yA (le.take i)).length+1:Nat):Int)>9223372036854775807):=by omega
     have hsz2:¬(((pre.length+(yA (le.take i)).length+1+le[i].size:Nat):Int)>9223372036854775807):=by omega
     have hof:=zmI le[i]
     simp -implicitDefEqProofs only [go_sem,hlt',hg]
     refine Want.intro (zkk _ (by omega)) ?_
     simp -implicitDefEqProofs only [go_sem,hw,zT,List.length_append,hsz,hsz2]
     refine ⟨_,by omega,i+1,hlt,rfl,?_⟩
     have e3:∀p,bA (p++(low le[i].size 1++le[i].data.toList))=bA (p++low le[i].size 1)++le[i]:=by
      intro p
      rw [←List.append_assoc,←zai,←zmI]
     rw [yA,yA,hft,zaD,←List.append_assoc,e3]
    ·have hi:i=le.length:=by omega
     subst hi
     have hlt':¬((le.length:Int)<(le.length:Int)):=by omega
     simp -implicitDefEqProofs only [go_sem,hlt',List.take_length]
end Go.Proofs.YtpjpkmhaffmbmaaGreat.E
