/- Contracts: messages in bytes, in the program; What the messages of each kind ask, when drawn; Contracts: blocks are hashed; Contracts: letters and clients that are ok; Contracts: messages without lists, in bytes; letters; Contracts: what comes of letters to clients, in the reference; Contract: the byte of a code at a place -/
import Derived.Test.YtpjpkmhaffmbmaaGreatQ8
section
namespace Go.Proofs.YtpjpkmhaffmbmaaGreat.E
open Go Go.RowKit
set_option maxHeartbeats 4000000
set_option maxRecDepth 10000
set_option linter.unusedSimpArgs false
set_option linter.unusedVariables false
set_option linter.unusedSectionVars false
def zrJ:Dec:=⟨[],[9,10,11],[22,30,37,38,39,40,49,56,76,80,87,141,143,159,237,250,259],false⟩
def bOf (m:MMsg) (c:Nat):List UInt8:=match c with
 | 115=>bS m
 | 102=>bF m
 | 122=>bZ m
 | 114=>m.root.bl
 | 99=>bC m
 | 112=>bP m
 | 108=>bL_ m
 | _=>[]
theorem zpp {m:MMsg} (h:WOk m) (c:Nat):(bOf m c).length≤600:=by
 have h1:=zag m.proof
 have h2:=jG m.leaves h.lo
 have h3:=h.p
 have h4:=h.l
 unfold bOf
 split<;>simp only [bS,bF,bZ,bC,bP,bL_,zT,xm,List.length_append,List.length_nil]<;>omega
def obl (m:MMsg) (pos:Nat):List UInt8:=bK m++((l5P m.kind).data.toList.take pos).flatMap fun b=>bOf m b.toNat
theorem zod {m:MMsg} (h:WOk m) (pos:Nat):(obl m pos).length≤1+600 * pos:=by
 unfold obl
 have:∀l:List UInt8,(l.flatMap fun b=>bOf m b.toNat).length≤600 * l.length:=by
  intro l
  induction l with
  | nil=>exact Nat.zero_le _
  | cons a l ih=>
   have:=zpp h a.toNat
   simp only [List.flatMap_cons,List.length_append,List.length_cons]
   omega
 have h1:=this ((l5P m.kind).data.toList.take pos)
 have h2:((l5P m.kind).data.toList.take pos).length≤pos:=List.length_take_le _ _
 rw [List.length_append,bK,zT]
 omega
theorem zoe {m:MMsg} (h:mIn m.kind 1 8=true):obl m (l5P m.kind).size=wbL m:=by
 obtain ⟨k,se,fr,si,ro,co,pr,le⟩:=m
 rcases zkl k with rfl | rfl | rfl | rfl | rfl | rfl | rfl | rfl | ⟨h1,h2,h3,h4,h5,h6,h7,h8⟩
 case inr.inr.inr.inr.inr.inr.inr.inr=>simp [mIn] at h;omega
 all_goals simp [obl,wbL,l5P,bOf,ByteArray.size]
theorem nb1 (v:Int) (h:0≤v∧v≤1000000000):CallR Tryz.prog 198 [vI v,vI 1] (.blk 0 0 [] 1 0 (low v.toNat 1).length) [([],⟨1,(low v.toNat 1).map zy,2,false⟩)]:=by
 have:=zkS v.toNat 1 (by omega) (by omega)
 rw [Int.toNat_of_nonneg h.1] at this
 rw [zT]
 exact this
theorem nb2 (v:Int) (h:0≤v∧v≤1000000000):CallR Tryz.prog 198 [vI v,vI 2] (.blk 0 0 [] 1 0 (low v.toNat 2).length) [([],⟨1,(low v.toNat 2).map zy,2,false⟩)]:=by
 have:=zkS v.toNat 2 (by omega) (by omega)
 rw [Int.toNat_of_nonneg h.1] at this
 rw [zT]
 exact this
theorem nb3 (v:Int) (h:0≤v∧v≤1000000000):CallR Tryz.prog 198 [vI v,vI 3] (.blk 0 0 [] 1 0 (low v.toNat 3).length) [([],⟨1,(low v.toNat 3).map zy,2,false⟩)]:=by
 have:=zkS v.toNat 3 (by omega) (by omega)
 rw [Int.toNat_of_nonneg h.1] at this
 rw [zT]
 exact this
attribute [go_sem] xQ
theorem zng (d:MDig):CallR Tryz.prog 199 [.agg d.cs] (vS (bA d.bl)) []:=by
 have:=znm d
 rw [zei] at this
 exact this
theorem zk7 {A B:List UInt8} (h:A.length+B.length≤100000):(A.map zy++B.map zy).length≤maxLen∧(A.map zy++B.map zy).length * 1≤140737488355328:=by
 unfold maxLen
 simp only [List.length_append,List.length_map]
 omega
theorem zpu {A B C:List UInt8} (h:A.length+B.length+C.length≤100000):(A.map zy++B.map zy++C.map zy).length≤maxLen∧(A.map zy++B.map zy++C.map zy).length * 1≤140737488355328:=by
 unfold maxLen
 simp only [List.length_append,List.length_map]
 omega
theorem zr6 (m:MMsg) (hok:zC m=true):CallR Tryz.prog 184 [m.ro] (vS (bA (wbL m))) []:=by
 refine zl zrJ false Tryz.f184 ?_
 conv=>enter [1];reduce
 refine jvR Tryz.f184 103 [.tmp 2] (by kernel_rfl) (by decide +kernel) rfl ?_
 have hk:=WOk.of hok
 obtain ⟨n,hn,hn8⟩:∃n:Nat,m.kind=n∧(1≤n∧n≤8):=by
  have h0:=hk.k
  have:1≤m.kind∧m.kind≤8:=by simpa [mIn] using h0
  exact ⟨m.kind.toNat,by omega,by omega⟩
 have hlet:=@letters n hn8
 rw [←hn] at hlet
 simp -implicitDefEqProofs only [go_sem]
 refine Want.intro (zg9 m.kind) ?_
 simp -implicitDefEqProofs only [go_sem]
 refine zeL (l5P m.kind) [1,3,17] [] (fun r pos z=>pos≤(l5P m.kind).size∧z=⟨103,[(1,.ptr 1 0 [] 11 0 0),(3,.blk 3 0 [] 1 0 (obl m pos).length),(17,.it r)],[(1,0,one ⟨11,[m.roC],0,false⟩),(3,0,one ⟨1,(obl m pos).map zy,2,false⟩)],1⟩) ?_ ?_ ?_ ?_ ?_ ?_
 ·rfl
 ·omega
 ·intro r
  simp -implicitDefEqProofs only [go_sem]
  have h0:obl m 0=[UInt8.ofNat (n%256)]:=by simp [obl,bK,hn,low]
  have h1:IntKind.u8.wrap m.kind=((n%256:Nat):Int):=by rw [hn,zaR]
  refine ⟨Nat.zero_le _,?_⟩
  rw [h0,h1]
  simp [zy]
 ·rintro r pos z ⟨-,rfl⟩
  exact ⟨rfl,rfl⟩
 ·rintro r pos z ⟨hle,rfl⟩ hlt
  obtain ⟨hp2,c,hd,htk,huc,hc⟩:=hlet hlt
  have hO:obl m (pos+1)=obl m pos++bOf m c:=by
   rw [obl,htk,List.flatMap_append,←List.append_assoc]
   simp [obl,huc]
  have hol:=zod hk pos
  refine ⟨c,hd,?_⟩
  rcases hc with rfl | rfl | rfl | rfl | rfl | rfl | rfl
  ·have hcc:((115:Nat):Int)=115:=rfl
   have hs:=hk.s
   simp -implicitDefEqProofs only [go_sem,hcc]
   refine Want.intro (nb3 m.session (by omega)) ?_
   have ha:=zK (E:=zy) (l:=obl m pos) (xs:=(low m.session.toNat 3).map zy) (b:=1) (n:=100000) (by simp [zT];omega) (by omega) (by omega)
   simp -implicitDefEqProofs only [go_sem,ha]
   exact ⟨hlt,by rw [hO];simp [bOf,bS,bF,bZ,bC]⟩
  ·have hcc:((102:Nat):Int)=102:=rfl
   have hs:=hk.f
   simp -implicitDefEqProofs only [go_sem,hcc]
   refine Want.intro (nb2 m.from_ (by omega)) ?_
   have ha:=zK (E:=zy) (l:=obl m pos) (xs:=(low m.from_.toNat 2).map zy) (b:=1) (n:=100000) (by simp [zT];omega) (by omega) (by omega)
   simp -implicitDefEqProofs only [go_sem,ha]
   exact ⟨hlt,by rw [hO];simp [bOf,bS,bF,bZ,bC]⟩
  ·have hcc:((122:Nat):Int)=122:=rfl
   have hs:=hk.z
   simp -implicitDefEqProofs only [go_sem,hcc]
   refine Want.intro (nb2 m.size (by omega)) ?_
   have ha:=zK (E:=zy) (l:=obl m pos) (xs:=(low m.size.toNat 2).map zy) (b:=1) (n:=100000) (by simp [zT];omega) (by omega) (by omega)
   simp -implicitDefEqProofs only [go_sem,ha]
   exact ⟨hlt,by rw [hO];simp [bOf,bS,bF,bZ,bC]⟩
  ·have hcc:((114:Nat):Int)=114:=rfl
   simp -implicitDefEqProofs only [go_sem,hcc]
   refine Want.intro (zng m.root) ?_
   have ha:=zK (E:=zy) (l:=obl m pos) (xs:=m.root.bl.map zy) (b:=1) (n:=100000) (by simp [xm];omega) (by omega) (by omega)
   simp -implicitDefEqProofs only [go_sem,ha]
   exact ⟨hlt,by rw [hO];simp [bOf]⟩
  ·have hcc:((99:Nat):Int)=99:=rfl
   have hs:=hk.c
   simp -implicitDefEqProofs only [go_sem,hcc]
   refine Want.intro (nb1 m.count (by omega)) ?_
   have ha:=zK (E:=zy) (l:=obl m pos) (xs:=(low m.count.toNat 1).map zy) (b:=1) (n:=100000) (by simp [zT];omega) (by omega) (by omega)
   simp -implicitDefEqProofs only [go_sem,ha]
   exact ⟨hlt,by rw [hO];simp [bOf,bS,bF,bZ,bC]⟩
  ·have hcc:((112:Nat):Int)=112:=rfl
   have hs:=hk.p
   simp -implicitDefEqProofs only [go_sem,hcc]
   refine Want.intro (nb1 m.proof.length (by omega)) ?_
   have ha:=zK (E:=zy) (l:=obl m pos) (xs:=(low m.proof.length 1).map zy) (b:=1) (n:=100000) (by simp [zT];omega) (by omega) (by omega)
   simp -implicitDefEqProofs only [go_sem,ha]
   have hF:=fun i=>zag (m.proof.take i)
   have hwl:m.proof.length≤maxLen:=by unfold maxLen;omega
   refine zX (fun n z=>∃i:Nat,i≤m.proof.length∧n=m.proof.length - i∧z=⟨103,[(1,.ptr 1 0 [] 11 0 0),(3,.blk 3 0 [] 1 0 (obl m pos++low m.proof.length 1++xP (m.proof.take i)).length),(17,.it r),(66,.ro 4 (m.proof.map MDig.cs)),(67,vI m.proof.length),(68,vI i)],[(1,0,one ⟨11,[m.roC],0,false⟩),(3,0,one ⟨1,(obl m pos++low m.proof.length 1++xP (m.proof.take i)).map zy,2,false⟩)],1⟩) m.proof.length ?_ ?_
   ·simp -implicitDefEqProofs only [go_sem]
    exact ⟨0,Nat.zero_le _,rfl,by simp [xP]⟩
   ·rintro n z ⟨i,hi,rfl,rfl⟩
    rcases Nat.lt_or_ge i m.proof.length with hl | hge
    ·have hlt':(i:Int)<(m.proof.length:Int):=by omega
     have hg:m.proof[i]?=some m.proof[i]:=List.getElem?_eq_getElem hl
     have hw:=zG hl hwl
     have hFi:=hF i
     have hft:=zac MDig.bl hl
     have hlow:=zT m.proof.length 1
     have hbl:=xm m.proof[i]
     rw [List.length_take] at hFi
     have ha:=zk7 (A:=obl m pos++low m.proof.length 1++xP (m.proof.take i)) (B:=m.proof[i].bl) (by simp only [List.length_append];omega)
     simp -implicitDefEqProofs only [go_sem,hlt',hg]
     refine Want.intro (zng m.proof[i]) ?_
     simp -implicitDefEqProofs only [go_sem,hw,ha]
     refine ⟨_,by omega,i+1,hl,rfl,?_⟩
     rw [show xP (m.proof.take (i+1))=xP (m.proof.take i)++MDig.bl m.proof[i] from hft]
     simp []
    ·have hi:i=m.proof.length:=by omega
     subst hi
     have hlt':¬((m.proof.length:Int)<(m.proof.length:Int)):=by omega
     simp -implicitDefEqProofs only [go_sem,hlt',List.take_length]
     exact ⟨hlt,by rw [hO];simp [bOf,bP]⟩
  ·have hcc:((108:Nat):Int)=108:=rfl
   have hs:=hk.l
   simp -implicitDefEqProofs only [go_sem,hcc]
   refine Want.intro (nb1 m.leaves.length (by omega)) ?_
   have ha:=zK (E:=zy) (l:=obl m pos) (xs:=(low m.leaves.length 1).map zy) (b:=1) (n:=100000) (by simp [zT];omega) (by omega) (by omega)
   simp -implicitDefEqProofs only [go_sem,ha]
   have hF:=fun i=>jG (m.leaves.take i) (wR hk.lo i)
   have hwl:m.leaves.length≤maxLen:=by unfold maxLen;omega
   refine zX (fun n z=>∃i:Nat,i≤m.leaves.length∧n=m.leaves.length - i∧z=⟨103,[(1,.ptr 1 0 [] 11 0 0),(3,.blk 3 0 [] 1 0 (obl m pos++low m.leaves.length 1++yA (m.leaves.take i)).length),(17,.it r),(86,.ro 1 (m.leaves.map zw)),(87,vI m.leaves.length),(88,vI i)],[(1,0,one ⟨11,[m.roC],0,false⟩),(3,0,one ⟨1,(obl m pos++low m.leaves.length 1++yA (m.leaves.take i)).map zy,2,false⟩)],1⟩) m.leaves.length ?_ ?_
   ·simp -implicitDefEqProofs only [go_sem]
    exact ⟨0,Nat.zero_le _,rfl,by simp [yA]⟩
   ·rintro n z ⟨i,hi,rfl,rfl⟩
    rcases Nat.lt_or_ge i m.leaves.length with hl | hge
    ·have hlt':(i:Int)<(m.leaves.length:Int):=by omega
     have hg:m.leaves[i]?=some m.leaves[i]:=List.getElem?_eq_getElem hl
     have hw:=zG hl hwl
     have hFi:=hF i
     have hft:=zac zaD hl
     have hlow:=zT m.leaves.length 1
     have h40:=za1 hk.lo hl
     have e:m.leaves[i].data.toList.length=m.leaves[i].size:=Array.length_toList
     have hl1:=zT m.leaves[i].size 1
     rw [List.length_take] at hFi
     have ha:=zk7 (A:=obl m pos++low m.leaves.length 1++yA (m.leaves.take i)) (B:=low m.leaves[i].size 1) (by simp only [List.length_append];omega)
     have ha2:=zpu (A:=obl m pos++low m.leaves.length 1++yA (m.leaves.take i)) (B:=low m.leaves[i].size 1) (C:=m.leaves[i].data.toList) (by simp only [List.length_append];omega)
     simp -implicitDefEqProofs only [go_sem,hlt',hg]
     refine Want.intro (nb1 m.leaves[i].size (by omega)) ?_
     simp -implicitDefEqProofs only [go_sem,hw,ha,ha2]
     refine ⟨_,by omega,i+1,hl,rfl,?_⟩
     rw [show yA (m.leaves.take (i+1))=yA (m.leaves.take i)++zaD m.leaves[i] from hft]
     simp [zaD]
    ·have hi:i=m.leaves.length:=by omega
     subst hi
     have hlt':¬((m.leaves.length:Int)<(m.leaves.length:Int)):=by omega
     simp -implicitDefEqProofs only [go_sem,hlt',List.take_length]
     exact ⟨hlt,by rw [hO];simp [bOf,bL_]⟩
 ·rintro r pos z ⟨hle,rfl⟩ hge
  have hpos:pos=(l5P m.kind).size:=by omega
  subst hpos
  rw [←zoe hk.k]
  simp -implicitDefEqProofs only [go_sem,xp]
  rfl
theorem zsd (m:MMsg) (hl:m.leaves.length≤maxLen):CallR Tryz.prog 153 [m.ro] (vS (zr m)) []:=by
 refine zl zrJ false Tryz.f153 ?_
 conv=>enter [1];reduce
 refine jvR Tryz.f153 8 [.tmp 2] (by kernel_rfl) (by decide +kernel) rfl ?_
 simp -implicitDefEqProofs only [go_sem]
 refine Want.intro (zr7 m hl) ?_
 simp -implicitDefEqProofs only [go_sem]
 refine zi (fun h=>?_) (fun h=>?_)
 ·have h':zC m=false:=by simpa using h
  simp -implicitDefEqProofs only [go_sem,h]
  simp [zr,h']
 ·have h':zC m=true:=by simpa using h
  simp -implicitDefEqProofs only [go_sem,h]
  refine Want.intro (zr6 m h') ?_
  simp -implicitDefEqProofs only [go_sem]
  simp [zr,h']
end Go.Proofs.YtpjpkmhaffmbmaaGreat.E
end
section
namespace Go.Proofs.YtpjpkmhaffmbmaaGreat.E
open Go Go.RowKit
set_option maxHeartbeats 4000000
set_option maxRecDepth 10000
set_option linter.unusedSimpArgs false
set_option linter.unusedVariables false
set_option linter.unusedSectionVars false
theorem ok_s {S:Int} (h:1≤S∧S≤1000000):zC ⟨1,S,0,0,dig0,0,[],[]⟩=true:=by simp [zC,zcS,xE,xT,mIn,jd,dig0,zt,h.1,h.2]
theorem zgc {S Z:Int} {d:MDig} (h:1≤S∧S≤1000000) (k:0≤Z∧Z≤256):zC ⟨2,S,0,Z,d,0,[],[]⟩=true:=by simp [zC,zcS,xE,xT,mIn,zt,h.1,h.2,k.1,k.2]
theorem zgb {S Z:Int} {d:MDig} (h:1≤S∧S≤1000000) (k:0≤Z∧Z≤256):zC ⟨3,S,0,Z,d,0,[],[]⟩=true:=by simp [zC,zcS,xE,xT,mIn,zt,h.1,h.2,k.1,k.2]
theorem zdU {S Z:Int} {d:MDig} (h:1≤S∧S≤1000000) (k:0≤Z∧Z≤256):zC ⟨6,S,0,Z,d,0,[],[]⟩=true:=by simp [zC,zcS,xE,xT,mIn,zt,h.1,h.2,k.1,k.2]
theorem zoc {F Z:Int} (h:0≤F∧F≤256) (k:0≤Z∧Z≤256):zC ⟨4,0,F,Z,dig0,0,[],[]⟩=true:=by simp [zC,zcS,xE,xT,mIn,jd,dig0,zt,h.1,h.2,k.1,k.2]
theorem zjQ {F Z:Int} {p:List MDig} (h:0≤F∧F≤256) (k:0≤Z∧Z≤256) (hp:p.length≤16):zC ⟨5,0,F,Z,dig0,0,p,[]⟩=true:=by simp [zC,zcS,xE,xT,mIn,jd,dig0,zt,h.1,h.2,k.1,k.2];omega
theorem zqH {F C:Int} (h:0≤F∧F≤256) (k:1≤C∧C≤8):zC ⟨7,0,F,0,dig0,C,[],[]⟩=true:=by simp [zC,zcS,xE,xT,mIn,jd,dig0,zt,h.1,h.2,k.1,k.2]
theorem zlX {F:Int} {l:List ByteArray} (h:0≤F∧F≤256) (k:l.length≤8) (hl:zt l=true):zC ⟨8,0,F,0,dig0,0,[],l⟩=true:=by simp [zC,zcS,xE,xT,mIn,jd,dig0,h.1,h.2,hl];omega
theorem yy:dig0.ok:=⟨by decide,by decide,by decide,by decide⟩
end Go.Proofs.YtpjpkmhaffmbmaaGreat.E
end
section
namespace Go.Proofs.YtpjpkmhaffmbmaaGreat.E
open Go Go.RowKit
set_option maxHeartbeats 4000000
set_option maxRecDepth 10000
set_option linter.unusedSimpArgs false
set_option linter.unusedVariables false
set_option linter.unusedSectionVars false
def zqc:Dec:=⟨[],[9,10,11],[22,30,37,38,39,40,49,56,76,80,87,141,143,159,237,250,259],false⟩
abbrev W64:=BitVec 64
abbrev vW (x:W64):AV:=vU x.toNat
structure BD where
 a:W64
 b:W64
 c:W64
 d:W64
def BD.cs (s:BD):List AV:=[vW s.a,vW s.b,vW s.c,vW s.d]
def BD.dig (s:BD):MDig:=⟨s.a.toNat,s.b.toNat,s.c.toNat,s.d.toNat⟩
theorem BD.dig_ok (s:BD):s.dig.ok:=⟨s.a.isLt,s.b.isLt,s.c.isLt,s.d.isLt⟩
theorem BD.dig_cs (s:BD):s.dig.cs=s.cs:=rfl
attribute [go_sem] BD.cs
theorem wU (n:Int):IntKind.u64.wrap n=n%18446744073709551616:=by
 have h8:IntKind.u64.bits=64:=rfl
 have hs:IntKind.u64.signed=false:=rfl
 simp only [IntKind.wrap,h8,hs,Bool.false_and,Bool.false_eq_true,if_false]
 rfl
theorem w_id (x:W64):IntKind.u64.wrap (x.toNat:Int)=(x.toNat:Int):=yF _ x.isLt
theorem zew (x y:W64):znS .u64 (x.toNat:Int) (y.toNat:Int)=((x ^^^ y).toNat:Int):=by
 unfold znS
 rw [show IntKind.u64.bits=64 from rfl,BitVec.ofInt_natCast,BitVec.ofInt_natCast,BitVec.ofNat_toNat,BitVec.ofNat_toNat,BitVec.setWidth_eq,BitVec.setWidth_eq]
 exact w_id _
theorem w_or (x y:W64):orI .u64 (x.toNat:Int) (y.toNat:Int)=((x||| y).toNat:Int):=by
 unfold orI
 rw [show IntKind.u64.bits=64 from rfl,BitVec.ofInt_natCast,BitVec.ofInt_natCast,BitVec.ofNat_toNat,BitVec.ofNat_toNat,BitVec.setWidth_eq,BitVec.setWidth_eq]
 exact w_id _
theorem ziV (x y:W64):IntKind.u64.wrap ((x.toNat:Int)+(y.toNat:Int))=((x+y).toNat:Int):=by
 rw [wU,BitVec.toNat_add]
 omega
theorem zly (x:W64) (n:Nat):IntKind.u64.wrap ((x.toNat:Int) * 2 ^ n)=((x<<<n).toNat:Int):=by
 rw [wU,BitVec.toNat_shiftLeft,Nat.shiftLeft_eq]
 have:((x.toNat:Int) * 2 ^ n)=((x.toNat * 2 ^ n:Nat):Int):=by simp
 rw [this]
 omega
theorem zlx (x:W64) (n:Nat):(x.toNat:Int).fdiv (2 ^ n)=((x>>>n).toNat:Int):=by
 rw [BitVec.toNat_ushiftRight,Nat.shiftRight_eq_div_pow,Int.fdiv_eq_ediv_of_nonneg _ (Int.pow_nonneg (by decide))]
 simp
def rot (x:W64) (n m:Nat):W64:=x<<<n||| x>>>m
theorem rl39 (x:W64):CallR Tryz.prog 161 [vW x,vI 39] (vW (rot x 39 25)) []:=by
 refine zl zqc false Tryz.f161 ?_
 conv=>enter [1];reduce
 refine jvR Tryz.f161 17 [.tmp 4] (by kernel_rfl) (by decide +kernel) rfl ?_
 have e1:andI IntKind.u64 (IntKind.u64.wrap 39) 63=39:=rfl
 have e2:IntKind.u64.wrap (64 - 39)=25:=rfl
 simp -implicitDefEqProofs only [go_sem,e1,e2]
 rw [zly,zlx,w_or]
 rfl
theorem tn39 (x:W64):CallR Tryz.prog 160 [vW x,vI 39] (vW (rot x 39 25)) []:=by
 refine zl zqc false Tryz.f160 ?_
 conv=>enter [1];reduce
 refine jvR Tryz.f160 15 [.tmp 4] (by kernel_rfl) (by decide +kernel) rfl ?_
 have e1:IntKind.u64.wrap 39=39:=rfl
 have e2:IntKind.i64.wrap (64 - 39)=25:=rfl
 have e3:IntKind.u64.wrap 25=25:=rfl
 simp -implicitDefEqProofs only [go_sem,e1,e2,e3]
 rw [zly,zlx,w_or]
 rfl
theorem rl21 (x:W64):CallR Tryz.prog 161 [vW x,vI 21] (vW (rot x 21 43)) []:=by
 refine zl zqc false Tryz.f161 ?_
 conv=>enter [1];reduce
 refine jvR Tryz.f161 17 [.tmp 4] (by kernel_rfl) (by decide +kernel) rfl ?_
 have e1:andI IntKind.u64 (IntKind.u64.wrap 21) 63=21:=rfl
 have e2:IntKind.u64.wrap (64 - 21)=43:=rfl
 simp -implicitDefEqProofs only [go_sem,e1,e2]
 rw [zly,zlx,w_or]
 rfl
theorem tn21 (x:W64):CallR Tryz.prog 160 [vW x,vI 21] (vW (rot x 21 43)) []:=by
 refine zl zqc false Tryz.f160 ?_
 conv=>enter [1];reduce
 refine jvR Tryz.f160 15 [.tmp 4] (by kernel_rfl) (by decide +kernel) rfl ?_
 have e1:IntKind.u64.wrap 21=21:=rfl
 have e2:IntKind.i64.wrap (64 - 21)=43:=rfl
 have e3:IntKind.u64.wrap 43=43:=rfl
 simp -implicitDefEqProofs only [go_sem,e1,e2,e3]
 rw [zly,zlx,w_or]
 rfl
structure RS where
 a:W64
 b:W64
 c:W64
 d:W64
 k:W64
def C0:W64:=12620524952350641003#64
def RS.nx (s:RS):RS:=
 let k:=s.k+C0
 let a:=s.a+s.b+k
 let d:=rot (s.d ^^^ a) 39 25
 let c:=s.c+d
 let b:=rot (s.b ^^^ c) 21 43
 ⟨b,c,d,a,k⟩
def zhW (s:RS):Nat→RS
 | 0=>s
 | n+1=>(zhW s n).nx
def mBlk (s b:BD):BD:=
 let r:=zhW ⟨s.a ^^^ b.a,s.b ^^^ b.b,s.c ^^^ b.c,s.d ^^^ b.d,0#64⟩ 10
 ⟨r.a ^^^ s.a,r.b ^^^ s.b,r.c ^^^ s.c,r.d ^^^ s.d⟩
theorem zgV (x:W64):IntKind.u64.wrap ((x.toNat:Int)+12620524952350641003)=((x+C0).toNat:Int):=ziV x C0
def zDg:List AV:=[.sc (.int .u64 0),.sc (.int .u64 0),.sc (.int .u64 0),.sc (.int .u64 0)]
attribute [go_sem] zDg
theorem zsm (s b:BD):CallR Tryz.prog 121 [.agg s.cs,.agg b.cs] (.agg (mBlk s b).cs) []:=by
 refine zl zqc false Tryz.f121 ?_
 conv=>enter [1];reduce
 refine jvR Tryz.f121 74 [.cell 4 25] (by kernel_rfl) (by decide +kernel) rfl ?_
 simp -implicitDefEqProofs only [go_sem,zew]
 generalize hR:(⟨s.a ^^^ b.a,s.b ^^^ b.b,s.c ^^^ b.c,s.d ^^^ b.d,0#64⟩:RS)=R
 refine zX (fun m z=>∃i:Nat,i≤10∧m=10 - i∧z=⟨74,[(2,.ptr 2 0 [] 4 0 0),(4,.ptr 4 0 [] 4 0 0),(5,vW (zhW R i).a),(6,vW (zhW R i).b),(7,vW (zhW R i).c),(8,vW (zhW R i).d),(9,vW (zhW R i).k),(10,vI i)],[(2,0,one ⟨4,[s.cs],0,false⟩),(4,0,one ⟨4,[zDg],0,false⟩)],1⟩) 10 ?_ ?_
 ·simp -implicitDefEqProofs only [go_sem]
  exact ⟨0,by omega,rfl,by subst hR;rfl⟩
 ·rintro m z ⟨i,hi,rfl,rfl⟩
  rcases Nat.lt_or_ge i 10 with hlt | hge
  ·have hlt':(i:Int)<10:=by omega
   have w4:IntKind.i64.wrap ((i:Int)+1)=((i+1:Nat):Int):=by rw [wrS (by omega)];omega
   simp -implicitDefEqProofs only [go_sem,hlt',zgV,ziV,zew]
   refine Want.intro (rl39 _) ?_
   simp -implicitDefEqProofs only [go_sem,zgV,ziV,zew]
   refine Want.intro (rl21 _) ?_
   simp -implicitDefEqProofs only [go_sem,w4]
   refine ⟨_,by omega,i+1,hlt,rfl,?_⟩
   simp only [zhW,RS.nx,BitVec.add_assoc]
  ·have hi:i=10:=by omega
   subst hi
   have hlt':¬(((10:Nat):Int)<10):=by omega
   simp -implicitDefEqProofs only [go_sem,hlt',zew]
   subst hR
   rfl
theorem zny (s b:BD):CallR Tryz.prog 118 [.agg s.cs,.agg b.cs] (.agg (mBlk s b).cs) []:=by
 refine zl zqc false Tryz.f118 ?_
 conv=>enter [1];reduce
 refine jvR Tryz.f118 76 [.cell 4 25] (by kernel_rfl) (by decide +kernel) rfl ?_
 simp -implicitDefEqProofs only [go_sem,zew]
 generalize hR:(⟨s.a ^^^ b.a,s.b ^^^ b.b,s.c ^^^ b.c,s.d ^^^ b.d,0#64⟩:RS)=R
 refine zX (fun m z=>∃i:Nat,i≤10∧m=10 - i∧z=⟨76,[(2,.ptr 2 0 [] 4 0 0),(4,.ptr 4 0 [] 4 0 0),(5,vW (zhW R i).a),(6,vW (zhW R i).b),(7,vW (zhW R i).c),(8,vW (zhW R i).d),(9,vW (zhW R i).k),(10,vI i)],[(2,0,one ⟨4,[s.cs],0,false⟩),(4,0,one ⟨4,[zDg],0,false⟩)],1⟩) 10 ?_ ?_
 ·simp -implicitDefEqProofs only [go_sem]
  exact ⟨0,by omega,rfl,by subst hR;rfl⟩
 ·rintro m z ⟨i,hi,rfl,rfl⟩
  rcases Nat.lt_or_ge i 10 with hlt | hge
  ·have hlt':(i:Int)<10:=by omega
   have w4:IntKind.i64.wrap ((i:Int)+1)=((i+1:Nat):Int):=by rw [wrS (by omega)];omega
   simp -implicitDefEqProofs only [go_sem,hlt',zgV,ziV,zew]
   refine Want.intro (tn39 _) ?_
   simp -implicitDefEqProofs only [go_sem,zgV,ziV,zew]
   refine Want.intro (tn21 _) ?_
   simp -implicitDefEqProofs only [go_sem,w4]
   exact ⟨_,by omega,i+1,hlt,rfl,rfl⟩
  ·have hi:i=10:=by omega
   subst hi
   have hlt':¬(((10:Nat):Int)<10):=by omega
   simp -implicitDefEqProofs only [go_sem,hlt',zew]
   subst hR
   rfl
end Go.Proofs.YtpjpkmhaffmbmaaGreat.E
end
section
namespace Go.Proofs.YtpjpkmhaffmbmaaGreat.E
open Go Go.RowKit
set_option maxHeartbeats 4000000
set_option maxRecDepth 10000
set_option linter.unusedSimpArgs false
set_option linter.unusedVariables false
set_option linter.unusedSectionVars false
def dcF1:Dec:=⟨[],[9,10,11],[22,30,37,38,39,40,49,56,76,80,87,141,143,159,237,250,259],false⟩
structure MPt where
 size:Int
 root:MDig
def MPt.zero:MPt:=⟨0,⟨0,0,0,0⟩⟩
def MPt.cs (p:MPt):List AV:=[vI p.size,vU p.root.a,vU p.root.b,vU p.root.c,vU p.root.d]
structure MLet where
 from_:Int
 to_:Int
 text:ByteArray
def MLet.cs (l:MLet):List AV:=[vI l.from_,vI l.to_,vS l.text]
structure MCl where
 need:Int
 many:Int
 session:Int
 phase:Int
 goal:MPt
 acks:List Int
 pin:MPt
def intC (n:Int):List AV:=[vI n]
def MCl.cs (c:MCl) (a:AV):List AV:=[vI c.need,vI c.many,vI c.session,vI c.phase,vI c.goal.size,vU c.goal.root.a,vU c.goal.root.b,vU c.goal.root.c,vU c.goal.root.d,a,vI c.pin.size,vU c.pin.root.a,vU c.pin.root.b,vU c.pin.root.c,vU c.pin.root.d]
def MCl.ro (c:MCl):AV:=.agg (c.cs (.ro 1 (c.acks.map intC)))
attribute [go_sem] MPt.cs MLet.cs MCl.cs MCl.ro intC
def qu (l:MLet):Bool:=mIn l.from_ 0 20&&(mIn l.to_ 0 20&&decide ((l.text.size:Int)≤600))
def yR (a b:MPt):Bool:=a.size==b.size&&(((a.root.a:Int)==b.root.a)&&(((a.root.b:Int)==b.root.b)&&(((a.root.c:Int)==b.root.c)&&((a.root.d:Int)==b.root.d))))
def zqW (p:MPt):Bool:=mIn p.size 1 256||yR p .zero
theorem zsn (l:MLet):CallR Tryz.prog 11 [.agg l.cs] (vB (qu l)) []:=by
 refine zl dcF1 false Tryz.f11 ?_
 conv=>enter [1];reduce
 refine jvR Tryz.f11 17 [.tmp 2] (by kernel_rfl) (by decide +kernel) rfl ?_
 simp -implicitDefEqProofs only [go_sem]
 repeat' first | (refine Want.intro (by first | exact zaK _ _ _) ?_;try simp -implicitDefEqProofs only [go_sem]) | (refine WantM.intro (by first | exact zaK _ _ _) ?_;try simp -implicitDefEqProofs only [go_sem]) | (refine zm (fun h=>?_) (fun h=>?_)<;>try simp -implicitDefEqProofs only [go_sem,h]) | (refine zi (fun h=>?_) (fun h=>?_)<;>try simp -implicitDefEqProofs only [go_sem,h])
 all_goals simp_all [qu]
theorem c41_c (l:MLet):CallR Tryz.prog 41 [.agg l.cs] (vB (qu l)) []:=by
 refine zl dcF1 false Tryz.f41 ?_
 conv=>enter [1];reduce
 refine jvR Tryz.f41 17 [.tmp 2] (by kernel_rfl) (by decide +kernel) rfl ?_
 simp -implicitDefEqProofs only [go_sem]
 repeat' first | (refine Want.intro (by first | exact qy _ _ _) ?_;try simp -implicitDefEqProofs only [go_sem]) | (refine WantM.intro (by first | exact qy _ _ _) ?_;try simp -implicitDefEqProofs only [go_sem]) | (refine zm (fun h=>?_) (fun h=>?_)<;>try simp -implicitDefEqProofs only [go_sem,h]) | (refine zi (fun h=>?_) (fun h=>?_)<;>try simp -implicitDefEqProofs only [go_sem,h])
 all_goals simp_all [qu]
def zgQ (many:Int) (l:List Int) (i:Nat):Bool:=mIn (l.getD i 0) 1 many&&(i==0||decide (l.getD (i - 1) 0<l.getD i 0))
def zdI (many:Int) (l:List Int):Bool:=(List.range l.length).all (zgQ many l)
def zka (c:MCl):Bool:=
 mIn c.many 1 7&&(mIn c.need 1 c.many&&(decide (c.many<2 * c.need)&&(mIn c.session 0 1000000&&(zqW c.pin&&(if c.phase=0∨c.phase=1 then yR c.goal .zero&&(c.acks.length==0&&decide (c.phase≤c.session)) else decide (c.phase=2)&&(decide (1≤c.session)&&(mIn c.goal.size (c.pin.size+1) 256&&(decide ((c.acks.length:Int)<c.need)&&zdI c.many c.acks))))))))
theorem mIn_iff {a b c:Int}:mIn a b c=true↔b≤a∧a≤c:=by simp [mIn]
theorem mPin_wr {p:MPt} (h:zqW p=true):IntKind.i64.wrap (p.size+1)=p.size+1∧0≤p.size∧p.size≤256:=by
 have:0≤p.size∧p.size≤256:=by
  simp only [zqW,Bool.or_eq_true,mIn_iff] at h
  rcases h with h | h
  ·omega
  ·simp only [yR,MPt.zero,Bool.and_eq_true,beq_iff_eq] at h
   omega
 exact ⟨wrS (by omega),this⟩
theorem ok_low {c:MCl} (h:¬((mIn c.many 1 7=true∧mIn c.need 1 c.many=true)∧zqW c.pin=true)):zka c=false:=by
 cases h':zka c with
 | false=>rfl
 | true=>
  simp only [zka,Bool.and_eq_true] at h'
  exact absurd ⟨⟨h'.1,h'.2.1⟩,h'.2.2.2.2.1⟩ h
theorem acks_all {many:Int} {l:List Int}:zdI many l=true↔∀i,i<l.length→zgQ many l i=true:=by simp [zdI,List.all_eq_true]
theorem zqi {many:Int} {l:List Int} (h:0<l.length):zgQ many l 0=mIn l[0] 1 many:=by simp [zgQ,h]
theorem zqj {many:Int} {l:List Int} {i:Nat} (h:i+1<l.length):zgQ many l (i+1)=(mIn l[i+1] 1 many&&decide (l[i]<l[i+1])):=by simp [zgQ,h,show i<l.length by omega]
theorem acks_bad {many:Int} {l:List Int} {i:Nat} (h:i<l.length) (hb:zgQ many l i=false):zdI many l=false:=by
 cases h':zdI many l with
 | false=>rfl
 | true=>rw [acks_all.1 h' i h] at hb;cases hb
theorem ok_two {c:MCl} (h1:mIn c.many 1 7=true) (h2:mIn c.need 1 c.many=true) (h3:c.many<2 * c.need) (h4:mIn c.session 0 1000000=true) (h5:zqW c.pin=true) (h6:c.phase=2):zka c=(decide (1≤c.session)&&(mIn c.goal.size (c.pin.size+1) 256&&(decide ((c.acks.length:Int)<c.need)&&zdI c.many c.acks))):=by
 simp [zka,h1,h2,h3,h4,h5,h6]
end Go.Proofs.YtpjpkmhaffmbmaaGreat.E
end
section
namespace Go.Proofs.YtpjpkmhaffmbmaaGreat.E
open Go Go.RowKit
set_option maxHeartbeats 4000000
set_option maxRecDepth 10000
set_option linter.unusedSimpArgs false
set_option linter.unusedVariables false
set_option linter.unusedSectionVars false
def dcF3:Dec:=⟨[],[9,10,11],[22,30,37,38,39,40,49,56,76,80,87,141,143,159,237,250,259],false⟩
theorem CallR.arg {P:Program} {n:Nat} {args args':List AV} {res:AV} {rf:List (List Nat × Row)} (h:CallR P n args res rf) (hw:∀(rd:RD) (vs:List Value),PW rd (fun _ _ _=>none) args' vs→PW rd (fun _ _ _=>none) args vs):CallR P n args' res rf:=
 ⟨h.1,fun w rd cargs h1 h2=>h.2 w rd cargs h1 (hw _ _ h2)⟩
def Wk (c c':AV):Prop:=c=c'∨(c'=.nilS∧∃sz,c=.ro sz [])
theorem VRel.wk {rd:RD} {φ:Phi} {c c':AV} {v:Value} (h:Wk c c') (hv:VRel rd φ c' v):VRel rd φ c v:=by
 rcases h with rfl | ⟨rfl,sz,rfl⟩
 ·exact hv
 ·cases hv
  exact .ro0 _ _ _
inductive WkL:List AV→List AV→Prop
 | nil:WkL [] []
 | cons {c c':AV} {l l':List AV} (h:Wk c c') (t:WkL l l'):WkL (c::l) (c'::l')
theorem WkL.len {l l':List AV} (h:WkL l l'):l.length=l'.length:=by
 induction h with
 | nil=>rfl
 | cons _ _ ih=>simp [ih]
theorem WkL.get {l l':List AV} (h:WkL l l'):∀(j:Nat) (c:AV),l[j]?=some c→∃c',l'[j]?=some c'∧Wk c c':=by
 induction h with
 | nil=>intro j c hc;simp at hc
 | cons h t ih=>
  intro j c hc
  cases j with
  | zero=>simp at hc;subst hc;exact ⟨_,rfl,h⟩
  | succ j=>simpa using ih j c (by simpa using hc)
theorem WkL.refl:∀l:List AV,WkL l l
 | []=>.nil
 | c::l=>.cons (.inl rfl) (WkL.refl l)
theorem VRel.wkA {rd:RD} {φ:Phi} {cs cs':List AV} {v:Value} (h:WkL cs cs') (hv:VRel rd φ (.agg cs') v):VRel rd φ (.agg cs) v:=by
 cases hv with
 | agg _ arr f hs hg hv=>
  refine .agg cs arr f (by rw [hs,h.len]) (fun j c hc=>?_) (fun j c hc=>?_)
  ·obtain ⟨c',h1,h2⟩:=h.get j c hc
   exact hg j c' h1
  ·obtain ⟨c',h1,h2⟩:=h.get j c hc
   exact (hv j c' h1).wk h2
theorem zmV {rd:RD} {φ:Phi} {cs cs':List AV} {vs:List Value} (h:WkL cs cs') (hp:PW rd φ [.agg cs'] vs):PW rd φ [.agg cs] vs:=by
 obtain ⟨v,us,rfl,hr,hp⟩:=hp.uncons
 have:us=[]:=List.eq_nil_of_length_eq_zero hp.1.symm
 subst this
 exact PW.cons (hr.wkA h) PW.nil
def MMsg.roN (m:MMsg):AV:=.agg [vI m.kind,vI m.session,vI m.from_,vI m.size,vU m.root.a,vU m.root.b,vU m.root.c,vU m.root.d,vI m.count,.nilS,.nilS]
attribute [go_sem] MMsg.roN
theorem zmU {m:MMsg} (hp:m.proof=[]) (hl:m.leaves=[]):∀(rd:RD) (vs:List Value),PW rd (fun _ _ _=>none) [m.roN] vs→PW rd (fun _ _ _=>none) [m.ro] vs:=by
 intro rd vs h
 refine zmV ?_ h
 rw [hp,hl]
 exact .cons (.inl rfl) (.cons (.inl rfl) (.cons (.inl rfl) (.cons (.inl rfl) (.cons (.inl rfl) (.cons (.inl rfl) (.cons (.inl rfl) (.cons (.inl rfl) (.cons (.inl rfl) (.cons (.inr ⟨rfl,_,rfl⟩) (.cons (.inr ⟨rfl,_,rfl⟩) .nil))))))))))
theorem wbS (m:MMsg) (hp:m.proof=[]) (hl:m.leaves=[]) (hr:m.root.ok):CallR Tryz.prog 23 [m.roN] (vS (zr m)) []:=
 (zpg m (by rw [hp];exact Nat.zero_le _) (by rw [hl];exact Nat.zero_le _) hr (by rw [hp];simp)).arg (zmU hp hl)
theorem wbI (m:MMsg) (hp:m.proof=[]) (hl:m.leaves=[]):CallR Tryz.prog 153 [m.roN] (vS (zr m)) []:=
 (zsd m (by rw [hl];exact Nat.zero_le _)).arg (zmU hp hl)
theorem znA (f t:Int) (m:MMsg) (hp:m.proof=[]) (hl:m.leaves=[]):CallR Tryz.prog 108 [vI f,vI t,m.roN] (.agg (MLet.mk f t (zr m)).cs) []:=by
 refine zl dcF3 false Tryz.f108 ?_
 conv=>enter [1];reduce
 refine jvR Tryz.f108 12 [.cell 6 34] (by kernel_rfl) (by decide +kernel) rfl ?_
 simp -implicitDefEqProofs only [go_sem]
 refine Want.intro (wbI m hp hl) ?_
 simp -implicitDefEqProofs only [go_sem]
end Go.Proofs.YtpjpkmhaffmbmaaGreat.E
end
section
namespace Go.Proofs.YtpjpkmhaffmbmaaGreat.E
open Go Go.RowKit
set_option maxHeartbeats 4000000
set_option maxRecDepth 10000
set_option linter.unusedSimpArgs false
set_option linter.unusedVariables false
set_option linter.unusedSectionVars false
structure MAl where
 kind:Int
 who:Int
 held:MPt
 told:MPt
 code:Int
def MAl.cs (a:MAl):List AV:=[vI a.kind,vI a.who,vI a.held.size,vU a.held.root.a,vU a.held.root.b,vU a.held.root.c,vU a.held.root.d,vI a.told.size,vU a.told.root.a,vU a.told.root.b,vU a.told.root.c,vU a.told.root.d,vI a.code]
structure MTold where
 cl:MCl
 letters:List MLet
 alarms:List MAl
 acc:List MPt
def MCl.av (c:MCl) (p:List Nat):AV:=.agg (c.cs (.blk 0 0 p 1 0 c.acks.length))
def MTold.cs (t:MTold) (a l x p:AV):List AV:=t.cl.cs a++[l,x,p]
def MTold.av (t:MTold):AV:=.agg (t.cs (.blk 0 0 [9] 1 0 t.cl.acks.length) (.blk 0 0 [15] 3 0 t.letters.length) (.blk 0 0 [16] 13 0 t.alarms.length) (.blk 0 0 [17] 5 0 t.acc.length))
def MCl.ar (c:MCl):Row:=⟨1,c.acks.map intC,2,false⟩
def MTold.lr (t:MTold):Row:=⟨3,t.letters.map MLet.cs,2,false⟩
def MTold.xr (t:MTold):Row:=⟨13,t.alarms.map MAl.cs,2,false⟩
def MTold.pr (t:MTold):Row:=⟨5,t.acc.map MPt.cs,2,false⟩
def MTold.rf (t:MTold):List (List Nat × Row):=[([9],t.cl.ar),([15],t.lr),([16],t.xr),([17],t.pr)]
def zCl:List AV:=[vI 0,vI 0,vI 0,vI 0,vI 0,.sc (.int .u64 0),.sc (.int .u64 0),.sc (.int .u64 0),.sc (.int .u64 0),.nilS,vI 0,.sc (.int .u64 0),.sc (.int .u64 0),.sc (.int .u64 0),.sc (.int .u64 0)]
attribute [go_sem] zCl MAl.cs MCl.av MTold.cs MTold.av MCl.ar MTold.lr MTold.xr MTold.pr MTold.rf
def MTold.avQ (t:MTold):AV:=.agg (t.cs (.blk 0 0 [] 1 0 t.cl.acks.length) (.blk 1 0 [] 3 0 t.letters.length) (.blk 2 0 [] 13 0 t.alarms.length) (.blk 3 0 [] 5 0 t.acc.length))
def MTold.outQ (t:MTold):Sig:=[(0,0,one t.cl.ar),(1,0,one t.lr),(2,0,one t.xr),(3,0,one t.pr)]
attribute [go_sem] MTold.avQ MTold.outQ
theorem zqv {α:Type} {l:List α} {i:Nat} (h:i<l.length):l.take (i+1)=l.take i++[l[i]]:=List.take_succ_eq_append_getElem h
def zgP (w:Int):List Int→Bool→List Int
 | [],put=>if put then [] else [w]
 | a::l,put=>(if !put&&decide (a≥w) then [w] else [])++((if a != w then [a] else [])++zgP w l (put||decide (a≥w)))
def zqY (l:List Int) (w:Int):List Int:=zgP w l false
theorem zlc (w:Int):∀(l:List Int) (put:Bool),(zgP w l put).length≤2 * l.length+1
 | [],put=>by cases put<;>simp [zgP]
 | a::l,put=>by
  have:=zlc w l (put||decide (a≥w))
  simp only [zgP,List.length_append,List.length_cons]
  split<;>split<;>simp only [List.length_cons,List.length_nil]<;>omega
theorem zqh {w:Int} {l:List Int} {i:Nat} (h:i<l.length) (put:Bool):zgP w (l.drop i) put=(if !put&&decide (l[i]≥w) then [w] else [])++((if l[i] != w then [l[i]] else [])++zgP w (l.drop (i+1)) (put||decide (l[i]≥w))):=by
 rw [List.drop_eq_getElem_cons h];rfl
def zTd:List AV:=[vI 0,vI 0,vI 0,vI 0,vI 0,.sc (.int .u64 0),.sc (.int .u64 0),.sc (.int .u64 0),.sc (.int .u64 0),.nilS,vI 0,.sc (.int .u64 0),.sc (.int .u64 0),.sc (.int .u64 0),.sc (.int .u64 0),.nilS,.nilS,.nilS]
attribute [go_sem] zTd
def MTold.base (c:MCl):MTold:=⟨c,[],[],[]⟩
def mAck (c:MCl) (w:Int):MTold:=
 if ((zqY c.acks w).length:Int)<c.need then ⟨{c with acks:=zqY c.acks w},[],[],[]⟩
 else ⟨{c with phase:=0,goal:=.zero,acks:=[],pin:=c.goal},[],[],[c.goal]⟩
def eqP (a b:MPt):Bool:=a.size==b.size&&(((a.root.a:Int)==b.root.a)&&(((a.root.b:Int)==b.root.b)&&(((a.root.c:Int)==b.root.c)&&((a.root.d:Int)==b.root.d))))
def zqU (c:MCl) (p:MPt):MMsg:=⟨3,c.session,0,p.size,p.root,0,[],[]⟩
def mHead (c:MCl) (me:Int) (p:MPt):MTold:=
 if p.size=0∨p.size<c.pin.size∨eqP p c.pin=true then .base c
 else if p.size=c.pin.size then ⟨c,[],[⟨1,0,c.pin,p,0⟩],[]⟩
 else ⟨{c with phase:=2,goal:=p},(List.range c.many.toNat).map (fun i:Nat=>MLet.mk me ((i:Int)+1) (zr (zqU c p))),[],[]⟩
end Go.Proofs.YtpjpkmhaffmbmaaGreat.E
end
section
namespace Go.Proofs.YtpjpkmhaffmbmaaGreat.E
open Go Go.RowKit
set_option maxHeartbeats 4000000
set_option maxRecDepth 10000
set_option linter.unusedSimpArgs false
set_option linter.unusedVariables false
set_option linter.unusedSectionVars false
def dcDA:Dec:=⟨[],[9,10,11],[22,30,37,38,39,40,49,56,76,80,87,141,143,159,237,250,259],false⟩
theorem at_c (l:List UInt8) (i:Nat) (hl:l.length≤maxLen) (hi:i≤1000):∃v:Nat,v<256∧CallR Tryz.prog 19 [.ro 1 (l.map zy),vI i] (.sc (.int .u8 (v:Int))) []:=by
 unfold maxLen at hl
 by_cases h0:l.length=0
 ·have e0:((l.length:Int)==0)=true:=by rw [h0];rfl
  refine ⟨_,Nat.mod_lt (i * 37) (by omega),?_⟩
  refine zl dcDA false Tryz.f19 ?_
  conv=>enter [1];reduce
  refine jvR Tryz.f19 40 [.tmp 4] (by kernel_rfl) (by decide +kernel) rfl ?_
  have w1:IntKind.i64.wrap ((i:Int) * 37)=((i * 37:Nat):Int):=by rw [wrS (by omega)];omega
  simp -implicitDefEqProofs only [go_sem,e0,w1,zaR,zb]
 ·have e0:((l.length:Int)==0)=false:=by rw [beq_eq_false_iff_ne];omega
  by_cases h1:i<l.length
  ·have h1':(i:Int)<(l.length:Int):=by omega
   have hg:=yG h1
   refine ⟨_,zaM l i,?_⟩
   refine zl dcDA false Tryz.f19 ?_
   conv=>enter [1];reduce
   refine jvR Tryz.f19 40 [.tmp 4] (by kernel_rfl) (by decide +kernel) rfl ?_
   simp -implicitDefEqProofs only [go_sem,e0,h1',hg,zb,za]
  ·have h1':¬(i:Int)<(l.length:Int):=by omega
   have hL:0<l.length:=by omega
   have h5:¬((l.length:Int)=0):=by omega
   have e1:(i:Int).tmod (l.length:Int)=((i%l.length:Nat):Int):=by rw [Int.tmod_eq_emod_of_nonneg (by omega)];rfl
   have e2:IntKind.i64.wrap ((i:Int) * 5)=((i * 5:Nat):Int):=by rw [wrS (by omega)];omega
   have e3:IntKind.i64.wrap (((i * 5:Nat):Int)+1)=((i * 5+1:Nat):Int):=by rw [wrS (by omega)];omega
   have e4:((i * 5+1:Nat):Int).tmod (l.length:Int)=(((i * 5+1)%l.length:Nat):Int):=by rw [Int.tmod_eq_emod_of_nonneg (by omega)];rfl
   have l1:i%l.length<l.length:=Nat.mod_lt _ hL
   have l2:(i * 5+1)%l.length<l.length:=Nat.mod_lt _ hL
   have g1:=yG l1
   have g2:=yG l2
   have l1':((i%l.length:Nat):Int)<(l.length:Int):=by omega
   have l2':(((i * 5+1)%l.length:Nat):Int)<(l.length:Int):=by omega
   have f1:IntKind.u8.wrap ((bL l (i%l.length):Int) * 31)=((bL l (i%l.length) * 31%256:Nat):Int):=zaR _
   have f2:∀a b:Nat,IntKind.u8.wrap ((a:Int)+(b:Int))=(((a+b)%256:Nat):Int):=fun a b=>zaR (a+b)
   refine ⟨_,Nat.mod_lt ((bL l (i%l.length) * 31%256+bL l ((i * 5+1)%l.length))%256+i%256) (by omega),?_⟩
   refine zl dcDA false Tryz.f19 ?_
   conv=>enter [1];reduce
   refine jvR Tryz.f19 40 [.tmp 4] (by kernel_rfl) (by decide +kernel) rfl ?_
   simp -implicitDefEqProofs only [go_sem,e0,h1',h5,e1,e2,e3,e4,g1,g2,l1',l2',f1,f2,zaR,zb,za]
end Go.Proofs.YtpjpkmhaffmbmaaGreat.E
end
