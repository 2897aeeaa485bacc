/- Contracts: messages in bytes. -/
import Derived.Test.YtobpfkgabdeefaaGreatQ7
namespace Go.Proofs.YtobpfkgabdeefaaGreat.E
open Go Go.RowKit
set_option maxHeartbeats 4000000
set_option maxRecDepth 10000
set_option linter.unusedSimpArgs false
set_option linter.unusedVariables false
set_option linter.unusedSectionVars false
def afi:cc:=⟨[],cw,cz,false⟩
def aX.bl (d:aX):List UInt8:=d.bk 4
def bK (m:aJ):List UInt8:=low m.kind.toNat 1
def bS (m:aJ):List UInt8:=low m.bU.toNat 3
def bF (m:aJ):List UInt8:=low m.from_.toNat 2
def bZ (m:aJ):List UInt8:=low m.size.toNat 2
def bC (m:aJ):List UInt8:=low m.count.toNat 1
def j5 (l:List aX):List UInt8:=l.flatMap aX.bl
def pE (s:ByteArray):List UInt8:=low s.size 1++s.data.toList
def jx (l:List ByteArray):List UInt8:=l.flatMap pE
def bP (m:aJ):List UInt8:=low m.proof.length 1++j5 m.proof
def yG (m:aJ):List UInt8:=low m.az.length 1++jx m.az
def gO (m:aJ):List UInt8:=
 if m.kind=1 then bK m++bS m
 else if m.kind=2\/m.kind=3\/m.kind=6 then bK m++bS m++bZ m++m.root.bl
 else if m.kind=4 then bK m++bF m++bZ m
 else if m.kind=5 then bK m++bF m++bZ m++bP m
 else if m.kind=7 then bK m++bF m++bC m
 else bK m++bF m++yG m
def bA (l:List UInt8):ByteArray:=⟨l.toArray⟩
theorem iY (l:List UInt8):(bA l).size=l.length:=by simp[bA,ByteArray.size]
theorem Aw {a b:ByteArray}(h:a.data.toList=b.data.toList):a=b:=ByteArray.ext (Array.toList_inj.1 h)
theorem uC (a b:List UInt8):bA a++bA b=bA (a++b):=Aw (by simp[bA,ByteArray.data_append])
theorem HV (s:ByteArray):s=bA s.data.toList:=Aw (by simp[bA])
theorem r5 (l:List UInt8):(bA l).data.toList=l:=by simp[bA]
theorem Fz (v n:Nat):fW v n=bA (low v n):=Aw (by rw[Fy];simp[bA])
theorem M5 (d:aX):d.bytes=bA d.bl:=by rw[d.VX];rfl
theorem mE (d:aX):d.bl.length=32:=d.Wc (Nat.le_refl 4)
def gy (m:aJ):ByteArray:=if fi m then bA (gO m) else⟨#[]⟩
theorem Kl (v:Int) (h:0<=v/\v<=1000000000):ba Tryz.prog 272 [vI v,vI 1] (vS (bA (low v.toNat 1))) []:=by
 have:=HC 1 v.toNat (by omega) (by omega);rw[Int.toNat_of_nonneg h.1,Fz]at this;exact this
theorem R8 (v:Int) (h:0<=v/\v<=1000000000):ba Tryz.prog 272 [vI v,vI 2] (vS (bA (low v.toNat 2))) []:=by
 have:=HC 2 v.toNat (by omega) (by omega);rw[Int.toNat_of_nonneg h.1,Fz]at this;exact this
theorem R7 (v:Int) (h:0<=v/\v<=1000000000):ba Tryz.prog 272 [vI v,vI 3] (vS (bA (low v.toNat 3))) []:=by
 have:=HC 3 v.toNat (by omega) (by omega);rw[Int.toNat_of_nonneg h.1,Fz]at this;exact this
theorem GP (d:aX) (h:d.ok):ba Tryz.prog 251 [.agg d.cs] (vS (bA d.bl)) []:=by
 have:=Ve d h;rw[M5]at this;exact this
theorem zz {h:Bool}{x lo hi:Int}(h1:kj h x lo hi=true) (h2:0<=lo) (h3:0<=hi):0<=x/\x<=hi:=by
 cases h with
 | false=>have:x=0:=by simpa [kj] using h1
          omega
 | true=>have:lo<=x/\x<=hi:=by simpa [kj,aS] using h1
         omega
structure nR (m:aJ):Prop where
 k:aS m.kind 1 8=true
 s:0<=m.bU/\m.bU<=1000000
 f:0<=m.from_/\m.from_<=256
 z:0<=m.size/\m.size<=256
 c:0<=m.count/\m.count<=8
 p:m.proof.length<=16
 l:m.az.length<=8
 lo:ec m.az=true
theorem nR.of {m:aJ}(h:fi m=true):nR m:=by
 simp only[fi,Bool.and_eq_true]at h;obtain⟨h0,hs,hf,hz,hr,hc,hp,hl,iU⟩:=h;have jy:=zz hp (by omega) (by omega);have mq:=zz hl (by omega) (by omega);exact⟨h0,zz hs (by omega) (by omega),zz hf (by omega) (by omega),zz hz (by omega) (by omega),zz hc (by omega) (by omega),by omega,by omega,iU⟩
attribute [go_sem] uC iY
theorem Hf {α:Type}(f:α->List UInt8) {l:List α}{i:Nat}(h:i<l.length):(l.take (i+1)).flatMap f=(l.take i).flatMap f++f l[i]:=by
 rw[List.take_succ_eq_append_getElem h,List.flatMap_append];simp
theorem Hl (l:List aX):(j5 l).length=32 * l.length:=by
 induction l with
 | nil=>rfl
 | cons a l ih=>simp only[j5,List.flatMap_cons,List.length_append,mE,List.length_cons]at *;omega
theorem F8 (l:List ByteArray) (h:ec l=true):(jx l).length<=41 * l.length:=by
 induction l with
 | nil=>exact aR _
 | cons a l ih=>
  simp only[ec,List.all_cons,Bool.and_eq_true,decide_eq_true_eq]at h;have:=ih h.2;have e:a.data.toList.length=a.size:=Array.length_toList;simp only[jx,pE,List.flatMap_cons,List.length_append,List.length_cons,gY,e]at *;omega
theorem R0 {l:List ByteArray}(h:ec l=true) (i:Nat):ec (l.take i)=true:=by
 simp only[ec,List.all_eq_true]at *;exact fun x hx=>h x (List.mem_of_mem_take hx)
theorem R1 {l:List ByteArray}(h:ec l=true) {i:Nat}(hi:i<l.length):l[i].size<=40:=by
 simp only[ec,List.all_eq_true,decide_eq_true_eq]at h;exact h _ (List.getElem_mem hi)
theorem HF (m:aJ) (hp:m.proof.length<=maxLen) (hl:m.az.length<=maxLen) (hr:m.root.ok) (hd:∀d∈m.proof,d.ok):ba Tryz.prog 234 [m.ro] (vS (gy m)) []:=by
 refine aF afi false Tryz.f234 ?_;conv=>enter[1];reduce
 refine bu Tryz.f234 105 [.tmp 2] (by kernel_rfl) (by decide +kernel) rfl ?_;refine au ?_;refine cT (Vb m hl) ?_;refine bX (fun h=>?_) (fun h=>?_)
 ·have h':fi m=false:=by simpa using h
  refine aA h ?_;simp[gy,h']
 have h':fi m=true:=by simpa using h
 have hk:=nR.of h';rw[gy,if_pos h'];refine aA h ?_;clear h h';obtain⟨k,se,fr,si,ro,co,pr,le⟩:=m;obtain⟨k0,ks,kf,kz,kc,kp,kl,Km⟩:=hk;simp only at k0 ks kf kz kc kp kl Km hr hd;refine aq.intro (ML k) ?_;rcases kinds k with rfl|rfl|rfl|rfl|rfl|rfl|rfl|rfl|⟨h1,h2,h3,h4,h5,h6,h7,h8⟩
 case inr.inr.inr.inr.inr.inr.inr.inr=>simp[aS]at k0;omega
 all_goals simp -implicitDefEqProofs only[go_sem,aT,aV]
 all_goals repeat' first|(refine aq.intro (by first|exact aM _ 115 (by decide)|exact aM _ 102 (by decide)|exact aM _ 110 (by decide)|exact aM _ 114 (by decide)|exact aM _ 99 (by decide)|exact aM _ 112 (by decide)|exact aM _ 108 (by decide)|exact Kl _ (by omega)|exact R8 _ (by omega)|exact R7 _ (by omega)|exact GP ro hr) ?_;try simp -implicitDefEqProofs only[go_sem,aT,aV,gY,mE,List.length_append,Int.cast_ofNat_Int,Int.reduceGT])|(refine aE.intro (by first|exact aM _ 115 (by decide)|exact aM _ 102 (by decide)|exact aM _ 110 (by decide)|exact aM _ 114 (by decide)|exact aM _ 99 (by decide)|exact aM _ 112 (by decide)|exact aM _ 108 (by decide)|exact Kl _ (by omega)|exact R8 _ (by omega)|exact R7 _ (by omega)|exact GP ro hr) ?_;try simp -implicitDefEqProofs only[go_sem,aT,aV,gY,mE,List.length_append,Int.cast_ofNat_Int,Int.reduceGT])|(refine fv (fun h=>?_) (fun h=>?_)<;>try simp -implicitDefEqProofs only[go_sem,aT,aV,gY,mE,List.length_append,Int.cast_ofNat_Int,Int.reduceGT,h])|(refine bX (fun h=>?_) (fun h=>?_)<;>try simp -implicitDefEqProofs only[go_sem,aT,aV,gY,mE,List.length_append,Int.cast_ofNat_Int,Int.reduceGT,h])
 all_goals try(simp[gO,bK,bS,bF,bZ,bC];done)
 ·have gU:(low 5 1++low fr.toNat 2++low si.toNat 2++low pr.length 1).length=6:=by simp[gY]
  have hW:gO ⟨5,se,fr,si,ro,co,pr,le⟩=(low 5 1++low fr.toNat 2++low si.toNat 2++low pr.length 1)++j5 pr:=by simp[gO,bK,bF,bZ,bP]
  rw[hW];generalize low 5 1++low fr.toNat 2++low si.toNat 2++low pr.length 1=pre at *;refine dq (fun n z=>∃i:Nat,i<=pr.length/\n=pr.length - i/\z=⟨105,[(1,.ptr 1 0 [] 11 0 0),(3,vS ⟨#[102,110,112]⟩),(4,vS (bA (pre++j5 (pr.take i)))),(5,vI i)],[(1,0,one ⟨11,[(aJ.mk 5 se fr si ro co pr le).qj],0,false⟩)],1⟩) pr.length ?_ ?_
  ·refine au ?_;exact⟨0,aR _,rfl,by simp[j5]⟩
  rintro n z ⟨i,hi,rfl,rfl⟩;rcases bp i pr.length with ab|bM
  ·have ah:(i:Int)<(pr.length:Int):=by omega
   have hg:pr[i]?=some pr[i]:=bm ab;have hw:=dx ab hp;have lU:=Hf aX.bl ab;have GJ:=Hl (pr.take i);rw[List.length_take]at GJ;have dv:¬(((pre.length+(j5 (pr.take i)).length+32:Nat):Int)>9223372036854775807):=by omega
   refine b8 ah hg ?_;refine aq.intro (GP pr[i] (hd _ (List.getElem_mem ab))) ?_;simp -implicitDefEqProofs only[go_sem,hw,mE,List.length_append,dv];refine⟨_,by omega,i+1,ab,rfl,?_⟩;rw[j5,j5,lU,List.append_assoc]
  have hi:i=pr.length:=by omega
  subst hi;have ah:¬((pr.length:Int)<(pr.length:Int)):=by omega
  refine aA ah ?_;refine aq.intro (aM _ 108 (by decide)) ?_;simp -implicitDefEqProofs only[go_sem,aV,List.take_length]
 have gU:(low 8 1++low fr.toNat 2++low le.length 1).length=4:=by simp[gY]
 have hW:gO ⟨8,se,fr,si,ro,co,pr,le⟩=(low 8 1++low fr.toNat 2++low le.length 1)++jx le:=by simp[gO,bK,bF,bZ,yG]
 rw[hW];generalize low 8 1++low fr.toNat 2++low le.length 1=pre at *;refine dq (fun n z=>∃i:Nat,i<=le.length/\n=le.length - i/\z=⟨105,[(1,.ptr 1 0 [] 11 0 0),(4,vS (bA (pre++jx (le.take i)))),(6,vI i)],[(1,0,one ⟨11,[(aJ.mk 8 se fr si ro co pr le).qj],0,false⟩)],1⟩) le.length ?_ ?_
 ·refine au ?_;exact⟨0,aR _,rfl,by simp[jx]⟩
 rintro n z ⟨i,hi,rfl,rfl⟩;rcases bp i le.length with ab|bM
 ·have ah:(i:Int)<(le.length:Int):=by omega
  have hg:le[i]?=some le[i]:=bm ab;have hw:=dx ab hl;have lU:=Hf pE ab;have GJ:=F8 (le.take i) (R0 Km i);rw[List.length_take]at GJ;have h40:=R1 Km ab;have e:le[i].data.toList.length=le[i].size:=Array.length_toList;have dv:¬(((pre.length+(jx (le.take i)).length+1:Nat):Int)>9223372036854775807):=by omega
  have zM:¬(((pre.length+(jx (le.take i)).length+1+le[i].size:Nat):Int)>9223372036854775807):=by omega
  have Gu:=HV le[i];refine b8 ah hg ?_;refine aq.intro (Kl _ (by omega)) ?_;simp -implicitDefEqProofs only[go_sem,hw,gY,List.length_append,dv,zM];refine⟨_,by omega,i+1,ab,rfl,?_⟩;have e3:∀p,bA (p++(low le[i].size 1++le[i].data.toList))=bA (p++low le[i].size 1)++le[i]:=by
   intro p;rw[<-List.append_assoc,<-uC,<-HV]
  rw[jx,jx,lU,pE,<-List.append_assoc,e3]
 have hi:i=le.length:=by omega
 subst hi;have ah:¬((le.length:Int)<(le.length:Int)):=by omega
 exact uN ah
end Go.Proofs.YtobpfkgabdeefaaGreat.E
