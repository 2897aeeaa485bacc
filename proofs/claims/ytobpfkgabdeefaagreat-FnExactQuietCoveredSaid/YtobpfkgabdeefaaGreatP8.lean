/- Contracts: messages in bytes. -/
import Derived.Test.YtobpfkgabdeefaaGreatP7
namespace Go.Proofs.YtobpfkgabdeefaaGreat.E
open Go Go.RowKit
set_option maxHeartbeats 4000000
set_option maxRecDepth 10000
set_option linter.unusedSimpArgs false
set_option linter.unusedVariables false
set_option linter.unusedSectionVars false
def ae1:bX:=⟨[],[9,10,11],[24,26,30,44,47,50,51,52,57,58,59,62,76,88,138,185,186,187,253,254,297,311],false⟩
def aW.bl (d:aW):List UInt8:=d.bk 4
def bK (m:aM):List UInt8:=low m.kind.toNat 1
def bS (m:aM):List UInt8:=low m.bR.toNat 3
def bF (m:aM):List UInt8:=low m.from_.toNat 2
def bZ (m:aM):List UInt8:=low m.size.toNat 2
def bC (m:aM):List UInt8:=low m.count.toNat 1
def jI (l:List aW):List UInt8:=l.flatMap aW.bl
def pj (s:ByteArray):List UInt8:=low s.size 1++s.data.toList
def jc (l:List ByteArray):List UInt8:=l.flatMap pj
def bP (m:aM):List UInt8:=low m.proof.length 1++jI m.proof
def yI (m:aM):List UInt8:=low m.az.length 1++jc m.az
def gv (m:aM):List UInt8:=
 if m.kind=1 then bK m++bS m
 else if m.kind=2∨m.kind=3∨m.kind=6 then bK m++bS m++bZ m++m.root.bl
 else if m.kind=4 then bK m++bF m++bZ m
 else if m.kind=5 then bK m++bF m++bZ m++bP m
 else if m.kind=7 then bK m++bF m++bC m
 else bK m++bF m++yI m
def bA (l:List UInt8):ByteArray:=⟨l.toArray⟩
theorem iU (l:List UInt8):(bA l).size=l.length:=by simp[bA,ByteArray.size]
theorem AB {a b:ByteArray}(h:a.data.toList=b.data.toList):a=b:=ByteArray.ext (Array.toList_inj.1 h)
theorem ux (a b:List UInt8):bA a++bA b=bA (a++b):=AB (by simp[bA,ByteArray.data_append])
theorem HV (s:ByteArray):s=bA s.data.toList:=AB (by simp[bA])
theorem rH (l:List UInt8):(bA l).data.toList=l:=by simp[bA]
theorem Fy (v n:Nat):fN v n=bA (low v n):=AB (by rw[Fx];simp[bA])
theorem Nl (d:aW):d.bytes=bA d.bl:=by rw[d.VT];rfl
theorem l9 (d:aW):d.bl.length=32:=d.V8 (Nat.le_refl 4)
def i6 (m:aM):ByteArray:=if eQ m then bA (gv m) else⟨#[]⟩
theorem Ku (v:Int) (h:0≤v∧v≤1000000000):aR Tryz.prog 272 [vI v,vI 1] (vS (bA (low v.toNat 1))) []:=by
 have:=HB 1 v.toNat (by omega) (by omega);rw[Int.toNat_of_nonneg h.1,Fy]at this;exact this
theorem R4 (v:Int) (h:0≤v∧v≤1000000000):aR Tryz.prog 272 [vI v,vI 2] (vS (bA (low v.toNat 2))) []:=by
 have:=HB 2 v.toNat (by omega) (by omega);rw[Int.toNat_of_nonneg h.1,Fy]at this;exact this
theorem R3 (v:Int) (h:0≤v∧v≤1000000000):aR Tryz.prog 272 [vI v,vI 3] (vS (bA (low v.toNat 3))) []:=by
 have:=HB 3 v.toNat (by omega) (by omega);rw[Int.toNat_of_nonneg h.1,Fy]at this;exact this
theorem GP (d:aW) (h:d.ok):aR Tryz.prog 251 [.agg d.cs] (vS (bA d.bl)) []:=by
 have:=Vd d h;rw[Nl]at this;exact this
theorem zH {h:Bool}{x lo hi:Int}(h1:jU h x lo hi=true) (h2:0≤lo) (h3:0≤hi):0≤x∧x≤hi:=by
 cases h with
 | false=>have:x=0:=by simpa [jU] using h1
          omega
 | true=>have:lo≤x∧x≤hi:=by simpa [jU,aT] using h1
         omega
structure nr (m:aM):Prop where
 k:aT m.kind 1 8=true
 s:0≤m.bR∧m.bR≤1000000
 f:0≤m.from_∧m.from_≤256
 z:0≤m.size∧m.size≤256
 c:0≤m.count∧m.count≤8
 p:m.proof.length≤16
 l:m.az.length≤8
 lo:dX m.az=true
theorem nr.of {m:aM}(h:eQ m=true):nr m:=by
 simp only[eQ,Bool.and_eq_true]at h;obtain⟨h0,hs,hf,hz,hr,hc,hp,hl,jt⟩:=h;have je:=zH hp (by omega) (by omega);have l0:=zH hl (by omega) (by omega);exact⟨h0,zH hs (by omega) (by omega),zH hf (by omega) (by omega),zH hz (by omega) (by omega),zH hc (by omega) (by omega),by omega,by omega,jt⟩
attribute [go_sem] ux iU
theorem G8 {α:Type}(f:α→List UInt8) {l:List α}{i:Nat}(h:i<l.length):(l.take (i+1)).flatMap f=(l.take i).flatMap f++f l[i]:=by
 rw[List.take_succ_eq_append_getElem h,List.flatMap_append];simp
theorem Hf (l:List aW):(jI l).length=32 * l.length:=by
 induction l with
 | nil=>rfl
 | cons a l ih=>simp only[jI,List.flatMap_cons,List.length_append,l9,List.length_cons]at *;omega
theorem F6 (l:List ByteArray) (h:dX l=true):(jc l).length≤41 * l.length:=by
 induction l with
 | nil=>exact aQ _
 | cons a l ih=>
  simp only[dX,List.all_cons,Bool.and_eq_true,decide_eq_true_eq]at h;have:=ih h.2;have e:a.data.toList.length=a.size:=Array.length_toList;simp only[jc,pj,List.flatMap_cons,List.length_append,List.length_cons,gJ,e]at *;omega
theorem RX {l:List ByteArray}(h:dX l=true) (i:Nat):dX (l.take i)=true:=by
 simp only[dX,List.all_eq_true]at *;exact fun x hx=>h x (List.mem_of_mem_take hx)
theorem RY {l:List ByteArray}(h:dX l=true) {i:Nat}(hi:i<l.length):l[i].size≤40:=by
 simp only[dX,List.all_eq_true,decide_eq_true_eq]at h;exact h _ (List.getElem_mem hi)
theorem Vk (m:aM) (hp:m.proof.length≤maxLen) (hl:m.az.length≤maxLen) (hr:m.root.ok) (hd:∀d∈m.proof,d.ok):aR Tryz.prog 234 [m.ro] (vS (i6 m)) []:=by
 refine aA ae1 false Tryz.f234 ?_;conv=>enter[1];reduce
 refine bf Tryz.f234 105 [.tmp 2] (by kernel_rfl) (by decide +kernel) rfl ?_;refine aw ?_;refine cz (U8 m hl) ?_;refine b8 (fun h=>?_) (fun h=>?_)
 ·have h':eQ m=false:=by simpa using h
  refine aC h ?_;simp[i6,h']
 have h':eQ m=true:=by simpa using h
 have hk:=nr.of h';rw[i6,if_pos h'];refine aC h ?_;clear h h';obtain⟨k,se,fr,si,ro,co,pr,le⟩:=m;obtain⟨k0,ks,kf,kz,kc,kp,kl,Kw⟩:=hk;simp only at k0 ks kf kz kc kp kl Kw hr hd;refine aq.intro (MY k) ?_;rcases kinds k with rfl|rfl|rfl|rfl|rfl|rfl|rfl|rfl|⟨h1,h2,h3,h4,h5,h6,h7,h8⟩
 case inr.inr.inr.inr.inr.inr.inr.inr=>simp[aT]at k0;omega
 all_goals simp -implicitDefEqProofs only[go_sem,aZ,aY]
 all_goals repeat' first|(refine aq.intro (by first|exact aN _ 115 (by decide)|exact aN _ 102 (by decide)|exact aN _ 110 (by decide)|exact aN _ 114 (by decide)|exact aN _ 99 (by decide)|exact aN _ 112 (by decide)|exact aN _ 108 (by decide)|exact Ku _ (by omega)|exact R4 _ (by omega)|exact R3 _ (by omega)|exact GP ro hr) ?_;try simp -implicitDefEqProofs only[go_sem,aZ,aY,gJ,l9,List.length_append,Int.cast_ofNat_Int,Int.reduceGT])|(refine aD.intro (by first|exact aN _ 115 (by decide)|exact aN _ 102 (by decide)|exact aN _ 110 (by decide)|exact aN _ 114 (by decide)|exact aN _ 99 (by decide)|exact aN _ 112 (by decide)|exact aN _ 108 (by decide)|exact Ku _ (by omega)|exact R4 _ (by omega)|exact R3 _ (by omega)|exact GP ro hr) ?_;try simp -implicitDefEqProofs only[go_sem,aZ,aY,gJ,l9,List.length_append,Int.cast_ofNat_Int,Int.reduceGT])|(refine ew (fun h=>?_) (fun h=>?_)<;>try simp -implicitDefEqProofs only[go_sem,aZ,aY,gJ,l9,List.length_append,Int.cast_ofNat_Int,Int.reduceGT,h])|(refine b8 (fun h=>?_) (fun h=>?_)<;>try simp -implicitDefEqProofs only[go_sem,aZ,aY,gJ,l9,List.length_append,Int.cast_ofNat_Int,Int.reduceGT,h])
 all_goals try(simp[gv,bK,bS,bF,bZ,bC];done)
 ·have g9:(low 5 1++low fr.toNat 2++low si.toNat 2++low pr.length 1).length=6:=by simp[gJ]
  have hW:gv ⟨5,se,fr,si,ro,co,pr,le⟩=(low 5 1++low fr.toNat 2++low si.toNat 2++low pr.length 1)++jI pr:=by simp[gv,bK,bF,bZ,bP]
  rw[hW];generalize low 5 1++low fr.toNat 2++low si.toNat 2++low pr.length 1=pre at *;refine cR (fun n z=>∃i:Nat,i≤pr.length∧n=pr.length - i∧z=⟨105,[(1,.ptr 1 0 [] 11 0 0),(3,vS ⟨#[102,110,112]⟩),(4,vS (bA (pre++jI (pr.take i)))),(5,vI i)],[(1,0,one ⟨11,[(aM.mk 5 se fr si ro co pr le).pW],0,false⟩)],1⟩) pr.length ?_ ?_
  ·refine aw ?_;exact⟨0,aQ _,rfl,by simp[jI]⟩
  rintro n z ⟨i,hi,rfl,rfl⟩;rcases bm i pr.length with ab|bH
  ·have ae:(i:Int)<(pr.length:Int):=by omega
   have hg:pr[i]?=some pr[i]:=bz ab;have hw:=df ab hp;have lJ:=G8 aW.bl ab;have GI:=Hf (pr.take i);rw[List.length_take]at GI;have dg:¬(((pre.length+(jI (pr.take i)).length+32:Nat):Int)>9223372036854775807):=by omega
   refine cg ae hg ?_;refine aq.intro (GP pr[i] (hd _ (List.getElem_mem ab))) ?_;simp -implicitDefEqProofs only[go_sem,hw,l9,List.length_append,dg];refine⟨_,by omega,i+1,ab,rfl,?_⟩;rw[jI,jI,lJ,List.append_assoc]
  have hi:i=pr.length:=by omega
  subst hi;have ae:¬((pr.length:Int)<(pr.length:Int)):=by omega
  refine aC ae ?_;refine aq.intro (aN _ 108 (by decide)) ?_;simp -implicitDefEqProofs only[go_sem,aY,List.take_length]
 have g9:(low 8 1++low fr.toNat 2++low le.length 1).length=4:=by simp[gJ]
 have hW:gv ⟨8,se,fr,si,ro,co,pr,le⟩=(low 8 1++low fr.toNat 2++low le.length 1)++jc le:=by simp[gv,bK,bF,bZ,yI]
 rw[hW];generalize low 8 1++low fr.toNat 2++low le.length 1=pre at *;refine cR (fun n z=>∃i:Nat,i≤le.length∧n=le.length - i∧z=⟨105,[(1,.ptr 1 0 [] 11 0 0),(4,vS (bA (pre++jc (le.take i)))),(6,vI i)],[(1,0,one ⟨11,[(aM.mk 8 se fr si ro co pr le).pW],0,false⟩)],1⟩) le.length ?_ ?_
 ·refine aw ?_;exact⟨0,aQ _,rfl,by simp[jc]⟩
 rintro n z ⟨i,hi,rfl,rfl⟩;rcases bm i le.length with ab|bH
 ·have ae:(i:Int)<(le.length:Int):=by omega
  have hg:le[i]?=some le[i]:=bz ab;have hw:=df ab hl;have lJ:=G8 pj ab;have GI:=F6 (le.take i) (RX Kw i);rw[List.length_take]at GI;have h40:=RY Kw ab;have e:le[i].data.toList.length=le[i].size:=Array.length_toList;have dg:¬(((pre.length+(jc (le.take i)).length+1:Nat):Int)>9223372036854775807):=by omega
  have KN:¬(((pre.length+(jc (le.take i)).length+1+le[i].size:Nat):Int)>9223372036854775807):=by omega
  have Gs:=HV le[i];refine cg ae hg ?_;refine aq.intro (Ku _ (by omega)) ?_;simp -implicitDefEqProofs only[go_sem,hw,gJ,List.length_append,dg,KN];refine⟨_,by omega,i+1,ab,rfl,?_⟩;have e3:∀p,bA (p++(low le[i].size 1++le[i].data.toList))=bA (p++low le[i].size 1)++le[i]:=by
   intro p;rw[←List.append_assoc,←ux,←HV]
  rw[jc,jc,lJ,pj,←List.append_assoc,e3]
 have hi:i=le.length:=by omega
 subst hi;have ae:¬((le.length:Int)<(le.length:Int)):=by omega
 exact wo ae
end Go.Proofs.YtobpfkgabdeefaaGreat.E
