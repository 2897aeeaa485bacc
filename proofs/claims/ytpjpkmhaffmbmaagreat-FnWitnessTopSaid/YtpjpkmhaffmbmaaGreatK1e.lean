/- Contracts: messages that are drawn; Contracts: messages that are drawn, spoilt; Contracts: blocks are hashed; Contracts: texts are hashed; Contracts: trees; Contracts: leaves that are drawn; Contracts: letters and clients that are ok; Contracts: the point of leaves, whatever they are; a reader behind three pointers; Nodes of a growth, in plain lists: what falls into old and new; the old ones are t -/
import Derived.Test.YtpjpkmhaffmbmaaGreatK1d
section
namespace Go.Proofs.YtpjpkmhaffmbmaaGreat.E
open Go Go.RowKit
set_option maxHeartbeats 4000000
set_option maxRecDepth 10000
set_option linter.unusedSimpArgs false
set_option linter.unusedVariables false
set_option linter.unusedSectionVars false
def zoe:Dec:=⟨[(39,.cm [true,false]),(93,.cm [true]),(96,.cm [true,false]),(151,.cm [true])],[9,10,11],[22,30,37,38,39,40,49,56,76,80,87,141,143,159,237,250,259],false⟩
theorem Dr.ok.le {r:Dr} {a b:Nat} (h:r.ok a) (hb:a≤b):r.ok b:=⟨h.1,Nat.le_trans h.2 hb⟩
theorem Dr.ok.adv {r:Dr} {a:Nat} (h:r.ok a) (i:Nat):(r.adv i).ok (a+i):=⟨h.1,Nat.add_le_add_right h.2 i⟩
theorem Dr.ok.nx {r:Dr} {a:Nat} (h:r.ok a):r.nx.ok (a+1):=⟨h.1,Nat.add_le_add_right h.2 1⟩
theorem zL {r:Dr} {n:Int} (h:r.ok 1000000000) (hn:1≤n):0≤pk r n∧pk r n<n:=by
 have:=(zax r n h).1
 omega
theorem zZ {r:Dr} (n:Int) (h:r.ok 1000000000):zS Tryz.prog 39 r.row [vD,vI n] (vI (pk r n)) r.nx.row:=(zax r n h).2
def szD (r:Dr):Int × Dr:=if pk r 8=0 then (256 - pk r.nx 2,r.nx.nx) else (pk r.nx 30,r.nx.nx)
theorem qQ (r:Dr) (h:r.ok 900000000):(0≤(szD r).1∧(szD r).1≤256)∧(szD r).2.ok 1000000000∧(szD r).2.p=r.p+2∧zS Tryz.prog 151 r.row [vD] (vI (szD r).1) (szD r).2.row:=by
 have h0:=h.le (b:=1000000000) (by omega)
 have h1:=h.nx.le (b:=1000000000) (by omega)
 have h2:=h.nx.nx.le (b:=1000000000) (by omega)
 have p8:=zL h0 (n:=8) (by omega)
 have p2:=zL h1 (n:=2) (by omega)
 have p30:=zL h1 (n:=30) (by omega)
 unfold szD
 by_cases k0:pk r 8=0
 ·rw [if_pos k0]
  refine ⟨⟨by show 0≤256 - pk r.nx 2;omega,by show 256 - pk r.nx 2≤256;omega⟩,h2,rfl,?_⟩
  refine zj zoe false Tryz.f151 ?_
  conv=>enter [1];reduce
  refine jvM Tryz.f151 11 [.tmp 2] (by kernel_rfl) (by decide +kernel) rfl ?_
  have k1:(pk r 8==0)=true:=by simpa using k0
  have w1:IntKind.i64.wrap (256 - pk r.nx 2)=256 - pk r.nx 2:=wrS (by omega)
  simp -implicitDefEqProofs only [go_sem]
  refine WantM.intro (zZ 8 h0) ?_
  simp -implicitDefEqProofs only [go_sem,k1,zb]
  refine WantM.intro (zZ 2 h1) ?_
  simp -implicitDefEqProofs only [go_sem,w1]
 ·rw [if_neg k0]
  refine ⟨⟨p30.1,by show pk r.nx 30≤256;omega⟩,h2,rfl,?_⟩
  refine zj zoe false Tryz.f151 ?_
  conv=>enter [1];reduce
  refine jvM Tryz.f151 11 [.tmp 2] (by kernel_rfl) (by decide +kernel) rfl ?_
  have k1:(pk r 8==0)=false:=by simpa using k0
  simp -implicitDefEqProofs only [go_sem]
  refine WantM.intro (zZ 8 h0) ?_
  simp -implicitDefEqProofs only [go_sem,k1,za]
  refine WantM.intro (zZ 30 h1) ?_
  simp -implicitDefEqProofs only [go_sem]
def MMsg.outD (m:MMsg) (r:Dr):Sig:=[(1000000,0,one ⟨2,[r.cs],0,false⟩),(0,0,one ⟨4,m.proof.map MDig.cs,2,false⟩),(1,0,one ⟨1,m.leaves.map zs,2,false⟩)]
attribute [go_sem] MMsg.outD
def zkK (r:Dr) (res:AV) (σ:Sig):Prop:=∃(m:MMsg) (r':Dr),(res=m.avM∧σ=m.outD r')∧zy m=true∧m.root.ok∧(∀d∈m.proof,d.ok)∧r'.ok (r.p+1000)
theorem zk4 (r:Dr) (n:Int) {a:Nat} (h:r.ok a) (ha:a≤900000000) (hn:0≤n):(tx r n).2.ok (a+1+n.toNat)∧(tx r n).1.size≤n.toNat:=by
 have hq:=zL (h.le (b:=1000000000) (by omega)) (n:=n+1) (by omega)
 refine ⟨⟨h.1,?_⟩,?_⟩
 ·show r.p+1+(pk r (n+1)).toNat≤_
  have:=h.2
  omega
 ·show (bA _).size≤_
  rw [zQ,zix]
  omega
theorem zp8:CallR Tryz.prog 131 [vS ⟨#[107]⟩,vI 40] (vS (bA (rep [107] 40))) []:=zkn [107] 40 (by omega) (by simp)
theorem zeF {l:List ByteArray} (h:zq l=true) (i:Nat) {s:ByteArray} (hs:s.size≤40):zq (l.set i s)=true:=by
 simp only [zq,List.all_eq_true,decide_eq_true_eq] at *
 intro x hx
 rcases List.mem_or_eq_of_mem_set hx with hx | rfl
 ·exact h x hx
 ·exact hs
attribute [go_sem] dig0
theorem c95_c (r:Dr) (h1:r.ok 700000000):∃res σ,zkK r res σ∧zS Tryz.prog 95 r.row [vD] res σ:=by
 refine zj zoe false Tryz.f95 ?_
 conv=>enter [1];reduce
 refine jvX Tryz.f95 105 [.cell 2 58] (zkK r) (by kernel_rfl) (by decide +kernel) (by kernel_rfl) rfl ?_
 have hp:=h1.2
 have ok:∀i,i≤1000→(r.adv i).ok 1000000000:=fun i hi=>(h1.adv i).le (by omega)
 have h0:=h1.le (b:=1000000000) (by omega)
 have p8:=zL h0 (n:=8) (by omega)
 have q2:=zL (ok 3 (by omega)) (n:=2) (by omega)
 have q5:=zL (ok 1 (by omega)) (n:=5) (by omega)
 have ws1:IntKind.i64.wrap (1000000 - pk (r.adv 3) 2)=1000000 - pk (r.adv 3) 2:=wrS (by omega)
 have ws2:IntKind.i64.wrap (1+pk (r.adv 1) 5)=1+pk (r.adv 1) 5:=wrS (by omega)
 have b1:1≤1000000 - pk (r.adv 3) 2∧1000000 - pk (r.adv 3) 2≤1000000:=by omega
 have b2:1≤1+pk (r.adv 1) 5∧1+pk (r.adv 1) 5≤1000000:=by omega
 have w1:IntKind.i64.wrap (1+pk r 8)=1+pk r 8:=wrS (by omega)
 simp -implicitDefEqProofs only [go_sem]
 refine WantM.intro (zZ 8 h0) ?_
 simp -implicitDefEqProofs only [go_sem,w1]
 refine Want.intro (zlX _) ?_
 generalize hK:1+pk r 8=K at *
 have hk8:K=1∨K=2∨K=3∨K=6∨K=4∨K=5∨K=7∨K=8:=by omega
 rcases hk8 with rfl | rfl | rfl | rfl | rfl | rfl | rfl | rfl
 all_goals simp -implicitDefEqProofs only [go_sem,zb,za]
 all_goals repeat' first | (refine Want.intro (by first | exact zh _ 115 (by decide) | exact zh _ 102 (by decide) | exact zh _ 110 (by decide) | exact zh _ 114 (by decide) | exact zh _ 99 (by decide) | exact zh _ 112 (by decide) | exact zh _ 108 (by decide) | exact zZ _ (ok 1 (by omega)) | exact zZ _ (ok 2 (by omega)) | exact zZ _ (ok 3 (by omega))) ?_;try simp -implicitDefEqProofs only [go_sem,zb,za,ws1,ws2]) | (refine WantM.intro (by first | exact zh _ 115 (by decide) | exact zh _ 102 (by decide) | exact zh _ 110 (by decide) | exact zh _ 114 (by decide) | exact zh _ 99 (by decide) | exact zh _ 112 (by decide) | exact zh _ 108 (by decide) | exact zZ _ (ok 1 (by omega)) | exact zZ _ (ok 2 (by omega)) | exact zZ _ (ok 3 (by omega))) ?_;try simp -implicitDefEqProofs only [go_sem,zb,za,ws1,ws2]) | (refine zm (fun h=>?_) (fun h=>?_)<;>try simp -implicitDefEqProofs only [go_sem,zb,za,ws1,ws2,h]) | (refine zi (fun h=>?_) (fun h=>?_)<;>try simp -implicitDefEqProofs only [go_sem,zb,za,ws1,ws2,h])
 ·refine RetAt.intro (MMsg.avM ⟨1,(1000000 - pk (r.adv 3) 2),0,0,dig0,0,[],[]⟩) (MMsg.outD ⟨1,(1000000 - pk (r.adv 3) 2),0,0,dig0,0,[],[]⟩ (r.adv 4)) ⟨⟨1,(1000000 - pk (r.adv 3) 2),0,0,dig0,0,[],[]⟩,(r.adv 4),⟨rfl,rfl⟩,ok_s b1,yw,by simp,⟨h0.1,by show r.p+4≤_;omega⟩⟩ ?_
  simp -implicitDefEqProofs only [go_sem]
  first | done | rfl | exact ⟨rfl,rfl⟩
 ·refine RetAt.intro (MMsg.avM ⟨1,(1+pk (r.adv 1) 5),0,0,dig0,0,[],[]⟩) (MMsg.outD ⟨1,(1+pk (r.adv 1) 5),0,0,dig0,0,[],[]⟩ (r.adv 3)) ⟨⟨1,(1+pk (r.adv 1) 5),0,0,dig0,0,[],[]⟩,(r.adv 3),⟨rfl,rfl⟩,ok_s b2,yw,by simp,⟨h0.1,by show r.p+3≤_;omega⟩⟩ ?_
  simp -implicitDefEqProofs only [go_sem]
  first | done | rfl | exact ⟨rfl,rfl⟩
 ·have z:=qQ (r.adv 4) ((h1.adv 4).le (by omega))
  have zp:=z.2.2.1
  rw [zgl] at zp
  have zd:=z.2.1
  have zk:(szD (r.adv 4)).2.ok (r.p+4+2):=⟨zd.1,by omega⟩
  refine WantM.intro z.2.2.2 ?_
  simp -implicitDefEqProofs only [go_sem]
  repeat' first | (refine Want.intro (by first | exact zh _ 115 (by decide) | exact zh _ 102 (by decide) | exact zh _ 110 (by decide) | exact zh _ 114 (by decide) | exact zh _ 99 (by decide) | exact zh _ 112 (by decide) | exact zh _ 108 (by decide)) ?_;try simp -implicitDefEqProofs only [go_sem,zb,za]) | (refine WantM.intro (by first | exact zh _ 115 (by decide) | exact zh _ 102 (by decide) | exact zh _ 110 (by decide) | exact zh _ 114 (by decide) | exact zh _ 99 (by decide) | exact zh _ 112 (by decide) | exact zh _ 108 (by decide)) ?_;try simp -implicitDefEqProofs only [go_sem,zb,za]) | (refine zm (fun h=>?_) (fun h=>?_)<;>try simp -implicitDefEqProofs only [go_sem,zb,za,h]) | (refine zi (fun h=>?_) (fun h=>?_)<;>try simp -implicitDefEqProofs only [go_sem,zb,za,h])
  refine WantM.intro (zb5 _ (zk.le (by omega))) ?_
  simp -implicitDefEqProofs only [go_sem]
  repeat' first | (refine Want.intro (by first | exact zh _ 115 (by decide) | exact zh _ 102 (by decide) | exact zh _ 110 (by decide) | exact zh _ 114 (by decide) | exact zh _ 99 (by decide) | exact zh _ 112 (by decide) | exact zh _ 108 (by decide)) ?_;try simp -implicitDefEqProofs only [go_sem,zb,za]) | (refine WantM.intro (by first | exact zh _ 115 (by decide) | exact zh _ 102 (by decide) | exact zh _ 110 (by decide) | exact zh _ 114 (by decide) | exact zh _ 99 (by decide) | exact zh _ 112 (by decide) | exact zh _ 108 (by decide)) ?_;try simp -implicitDefEqProofs only [go_sem,zb,za]) | (refine zm (fun h=>?_) (fun h=>?_)<;>try simp -implicitDefEqProofs only [go_sem,zb,za,h]) | (refine zi (fun h=>?_) (fun h=>?_)<;>try simp -implicitDefEqProofs only [go_sem,zb,za,h])
  refine RetAt.intro (MMsg.avM ⟨2,(1000000 - pk (r.adv 3) 2),0,(szD (r.adv 4)).1,(dgR (szD (r.adv 4)).2).1,0,[],[]⟩) (MMsg.outD ⟨2,(1000000 - pk (r.adv 3) 2),0,(szD (r.adv 4)).1,(dgR (szD (r.adv 4)).2).1,0,[],[]⟩ (dgR (szD (r.adv 4)).2).2) ⟨⟨2,(1000000 - pk (r.adv 3) 2),0,(szD (r.adv 4)).1,(dgR (szD (r.adv 4)).2).1,0,[],[]⟩,(dgR (szD (r.adv 4)).2).2,⟨rfl,rfl⟩,zfL b1 z.1,xZ _ (zk.le (by omega)),by simp,(jD _ zk).1.le (by omega)⟩ ?_
  simp -implicitDefEqProofs only [go_sem]
  first | done | rfl | exact ⟨rfl,rfl⟩
 ·have z:=qQ (r.adv 3) ((h1.adv 3).le (by omega))
  have zp:=z.2.2.1
  rw [zgl] at zp
  have zd:=z.2.1
  have zk:(szD (r.adv 3)).2.ok (r.p+3+2):=⟨zd.1,by omega⟩
  refine WantM.intro z.2.2.2 ?_
  simp -implicitDefEqProofs only [go_sem]
  repeat' first | (refine Want.intro (by first | exact zh _ 115 (by decide) | exact zh _ 102 (by decide) | exact zh _ 110 (by decide) | exact zh _ 114 (by decide) | exact zh _ 99 (by decide) | exact zh _ 112 (by decide) | exact zh _ 108 (by decide)) ?_;try simp -implicitDefEqProofs only [go_sem,zb,za]) | (refine WantM.intro (by first | exact zh _ 115 (by decide) | exact zh _ 102 (by decide) | exact zh _ 110 (by decide) | exact zh _ 114 (by decide) | exact zh _ 99 (by decide) | exact zh _ 112 (by decide) | exact zh _ 108 (by decide)) ?_;try simp -implicitDefEqProofs only [go_sem,zb,za]) | (refine zm (fun h=>?_) (fun h=>?_)<;>try simp -implicitDefEqProofs only [go_sem,zb,za,h]) | (refine zi (fun h=>?_) (fun h=>?_)<;>try simp -implicitDefEqProofs only [go_sem,zb,za,h])
  refine WantM.intro (zb5 _ (zk.le (by omega))) ?_
  simp -implicitDefEqProofs only [go_sem]
  repeat' first | (refine Want.intro (by first | exact zh _ 115 (by decide) | exact zh _ 102 (by decide) | exact zh _ 110 (by decide) | exact zh _ 114 (by decide) | exact zh _ 99 (by decide) | exact zh _ 112 (by decide) | exact zh _ 108 (by decide)) ?_;try simp -implicitDefEqProofs only [go_sem,zb,za]) | (refine WantM.intro (by first | exact zh _ 115 (by decide) | exact zh _ 102 (by decide) | exact zh _ 110 (by decide) | exact zh _ 114 (by decide) | exact zh _ 99 (by decide) | exact zh _ 112 (by decide) | exact zh _ 108 (by decide)) ?_;try simp -implicitDefEqProofs only [go_sem,zb,za]) | (refine zm (fun h=>?_) (fun h=>?_)<;>try simp -implicitDefEqProofs only [go_sem,zb,za,h]) | (refine zi (fun h=>?_) (fun h=>?_)<;>try simp -implicitDefEqProofs only [go_sem,zb,za,h])
  refine RetAt.intro (MMsg.avM ⟨2,(1+pk (r.adv 1) 5),0,(szD (r.adv 3)).1,(dgR (szD (r.adv 3)).2).1,0,[],[]⟩) (MMsg.outD ⟨2,(1+pk (r.adv 1) 5),0,(szD (r.adv 3)).1,(dgR (szD (r.adv 3)).2).1,0,[],[]⟩ (dgR (szD (r.adv 3)).2).2) ⟨⟨2,(1+pk (r.adv 1) 5),0,(szD (r.adv 3)).1,(dgR (szD (r.adv 3)).2).1,0,[],[]⟩,(dgR (szD (r.adv 3)).2).2,⟨rfl,rfl⟩,zfL b2 z.1,xZ _ (zk.le (by omega)),by simp,(jD _ zk).1.le (by omega)⟩ ?_
  simp -implicitDefEqProofs only [go_sem]
  first | done | rfl | exact ⟨rfl,rfl⟩
 ·have z:=qQ (r.adv 4) ((h1.adv 4).le (by omega))
  have zp:=z.2.2.1
  rw [zgl] at zp
  have zd:=z.2.1
  have zk:(szD (r.adv 4)).2.ok (r.p+4+2):=⟨zd.1,by omega⟩
  refine WantM.intro z.2.2.2 ?_
  simp -implicitDefEqProofs only [go_sem]
  repeat' first | (refine Want.intro (by first | exact zh _ 115 (by decide) | exact zh _ 102 (by decide) | exact zh _ 110 (by decide) | exact zh _ 114 (by decide) | exact zh _ 99 (by decide) | exact zh _ 112 (by decide) | exact zh _ 108 (by decide)) ?_;try simp -implicitDefEqProofs only [go_sem,zb,za]) | (refine WantM.intro (by first | exact zh _ 115 (by decide) | exact zh _ 102 (by decide) | exact zh _ 110 (by decide) | exact zh _ 114 (by decide) | exact zh _ 99 (by decide) | exact zh _ 112 (by decide) | exact zh _ 108 (by decide)) ?_;try simp -implicitDefEqProofs only [go_sem,zb,za]) | (refine zm (fun h=>?_) (fun h=>?_)<;>try simp -implicitDefEqProofs only [go_sem,zb,za,h]) | (refine zi (fun h=>?_) (fun h=>?_)<;>try simp -implicitDefEqProofs only [go_sem,zb,za,h])
  refine WantM.intro (zb5 _ (zk.le (by omega))) ?_
  simp -implicitDefEqProofs only [go_sem]
  repeat' first | (refine Want.intro (by first | exact zh _ 115 (by decide) | exact zh _ 102 (by decide) | exact zh _ 110 (by decide) | exact zh _ 114 (by decide) | exact zh _ 99 (by decide) | exact zh _ 112 (by decide) | exact zh _ 108 (by decide)) ?_;try simp -implicitDefEqProofs only [go_sem,zb,za]) | (refine WantM.intro (by first | exact zh _ 115 (by decide) | exact zh _ 102 (by decide) | exact zh _ 110 (by decide) | exact zh _ 114 (by decide) | exact zh _ 99 (by decide) | exact zh _ 112 (by decide) | exact zh _ 108 (by decide)) ?_;try simp -implicitDefEqProofs only [go_sem,zb,za]) | (refine zm (fun h=>?_) (fun h=>?_)<;>try simp -implicitDefEqProofs only [go_sem,zb,za,h]) | (refine zi (fun h=>?_) (fun h=>?_)<;>try simp -implicitDefEqProofs only [go_sem,zb,za,h])
  refine RetAt.intro (MMsg.avM ⟨3,(1000000 - pk (r.adv 3) 2),0,(szD (r.adv 4)).1,(dgR (szD (r.adv 4)).2).1,0,[],[]⟩) (MMsg.outD ⟨3,(1000000 - pk (r.adv 3) 2),0,(szD (r.adv 4)).1,(dgR (szD (r.adv 4)).2).1,0,[],[]⟩ (dgR (szD (r.adv 4)).2).2) ⟨⟨3,(1000000 - pk (r.adv 3) 2),0,(szD (r.adv 4)).1,(dgR (szD (r.adv 4)).2).1,0,[],[]⟩,(dgR (szD (r.adv 4)).2).2,⟨rfl,rfl⟩,zfK b1 z.1,xZ _ (zk.le (by omega)),by simp,(jD _ zk).1.le (by omega)⟩ ?_
  simp -implicitDefEqProofs only [go_sem]
  first | done | rfl | exact ⟨rfl,rfl⟩
 ·have z:=qQ (r.adv 3) ((h1.adv 3).le (by omega))
  have zp:=z.2.2.1
  rw [zgl] at zp
  have zd:=z.2.1
  have zk:(szD (r.adv 3)).2.ok (r.p+3+2):=⟨zd.1,by omega⟩
  refine WantM.intro z.2.2.2 ?_
  simp -implicitDefEqProofs only [go_sem]
  repeat' first | (refine Want.intro (by first | exact zh _ 115 (by decide) | exact zh _ 102 (by decide) | exact zh _ 110 (by decide) | exact zh _ 114 (by decide) | exact zh _ 99 (by decide) | exact zh _ 112 (by decide) | exact zh _ 108 (by decide)) ?_;try simp -implicitDefEqProofs only [go_sem,zb,za]) | (refine WantM.intro (by first | exact zh _ 115 (by decide) | exact zh _ 102 (by decide) | exact zh _ 110 (by decide) | exact zh _ 114 (by decide) | exact zh _ 99 (by decide) | exact zh _ 112 (by decide) | exact zh _ 108 (by decide)) ?_;try simp -implicitDefEqProofs only [go_sem,zb,za]) | (refine zm (fun h=>?_) (fun h=>?_)<;>try simp -implicitDefEqProofs only [go_sem,zb,za,h]) | (refine zi (fun h=>?_) (fun h=>?_)<;>try simp -implicitDefEqProofs only [go_sem,zb,za,h])
  refine WantM.intro (zb5 _ (zk.le (by omega))) ?_
  simp -implicitDefEqProofs only [go_sem]
  repeat' first | (refine Want.intro (by first | exact zh _ 115 (by decide) | exact zh _ 102 (by decide) | exact zh _ 110 (by decide) | exact zh _ 114 (by decide) | exact zh _ 99 (by decide) | exact zh _ 112 (by decide) | exact zh _ 108 (by decide)) ?_;try simp -implicitDefEqProofs only [go_sem,zb,za]) | (refine WantM.intro (by first | exact zh _ 115 (by decide) | exact zh _ 102 (by decide) | exact zh _ 110 (by decide) | exact zh _ 114 (by decide) | exact zh _ 99 (by decide) | exact zh _ 112 (by decide) | exact zh _ 108 (by decide)) ?_;try simp -implicitDefEqProofs only [go_sem,zb,za]) | (refine zm (fun h=>?_) (fun h=>?_)<;>try simp -implicitDefEqProofs only [go_sem,zb,za,h]) | (refine zi (fun h=>?_) (fun h=>?_)<;>try simp -implicitDefEqProofs only [go_sem,zb,za,h])
  refine RetAt.intro (MMsg.avM ⟨3,(1+pk (r.adv 1) 5),0,(szD (r.adv 3)).1,(dgR (szD (r.adv 3)).2).1,0,[],[]⟩) (MMsg.outD ⟨3,(1+pk (r.adv 1) 5),0,(szD (r.adv 3)).1,(dgR (szD (r.adv 3)).2).1,0,[],[]⟩ (dgR (szD (r.adv 3)).2).2) ⟨⟨3,(1+pk (r.adv 1) 5),0,(szD (r.adv 3)).1,(dgR (szD (r.adv 3)).2).1,0,[],[]⟩,(dgR (szD (r.adv 3)).2).2,⟨rfl,rfl⟩,zfK b2 z.1,xZ _ (zk.le (by omega)),by simp,(jD _ zk).1.le (by omega)⟩ ?_
  simp -implicitDefEqProofs only [go_sem]
  first | done | rfl | exact ⟨rfl,rfl⟩
 ·have z:=qQ (r.adv 4) ((h1.adv 4).le (by omega))
  have zp:=z.2.2.1
  rw [zgl] at zp
  have zd:=z.2.1
  have zk:(szD (r.adv 4)).2.ok (r.p+4+2):=⟨zd.1,by omega⟩
  refine WantM.intro z.2.2.2 ?_
  simp -implicitDefEqProofs only [go_sem]
  repeat' first | (refine Want.intro (by first | exact zh _ 115 (by decide) | exact zh _ 102 (by decide) | exact zh _ 110 (by decide) | exact zh _ 114 (by decide) | exact zh _ 99 (by decide) | exact zh _ 112 (by decide) | exact zh _ 108 (by decide)) ?_;try simp -implicitDefEqProofs only [go_sem,zb,za]) | (refine WantM.intro (by first | exact zh _ 115 (by decide) | exact zh _ 102 (by decide) | exact zh _ 110 (by decide) | exact zh _ 114 (by decide) | exact zh _ 99 (by decide) | exact zh _ 112 (by decide) | exact zh _ 108 (by decide)) ?_;try simp -implicitDefEqProofs only [go_sem,zb,za]) | (refine zm (fun h=>?_) (fun h=>?_)<;>try simp -implicitDefEqProofs only [go_sem,zb,za,h]) | (refine zi (fun h=>?_) (fun h=>?_)<;>try simp -implicitDefEqProofs only [go_sem,zb,za,h])
  refine WantM.intro (zb5 _ (zk.le (by omega))) ?_
  simp -implicitDefEqProofs only [go_sem]
  repeat' first | (refine Want.intro (by first | exact zh _ 115 (by decide) | exact zh _ 102 (by decide) | exact zh _ 110 (by decide) | exact zh _ 114 (by decide) | exact zh _ 99 (by decide) | exact zh _ 112 (by decide) | exact zh _ 108 (by decide)) ?_;try simp -implicitDefEqProofs only [go_sem,zb,za]) | (refine WantM.intro (by first | exact zh _ 115 (by decide) | exact zh _ 102 (by decide) | exact zh _ 110 (by decide) | exact zh _ 114 (by decide) | exact zh _ 99 (by decide) | exact zh _ 112 (by decide) | exact zh _ 108 (by decide)) ?_;try simp -implicitDefEqProofs only [go_sem,zb,za]) | (refine zm (fun h=>?_) (fun h=>?_)<;>try simp -implicitDefEqProofs only [go_sem,zb,za,h]) | (refine zi (fun h=>?_) (fun h=>?_)<;>try simp -implicitDefEqProofs only [go_sem,zb,za,h])
  refine RetAt.intro (MMsg.avM ⟨6,(1000000 - pk (r.adv 3) 2),0,(szD (r.adv 4)).1,(dgR (szD (r.adv 4)).2).1,0,[],[]⟩) (MMsg.outD ⟨6,(1000000 - pk (r.adv 3) 2),0,(szD (r.adv 4)).1,(dgR (szD (r.adv 4)).2).1,0,[],[]⟩ (dgR (szD (r.adv 4)).2).2) ⟨⟨6,(1000000 - pk (r.adv 3) 2),0,(szD (r.adv 4)).1,(dgR (szD (r.adv 4)).2).1,0,[],[]⟩,(dgR (szD (r.adv 4)).2).2,⟨rfl,rfl⟩,zdn b1 z.1,xZ _ (zk.le (by omega)),by simp,(jD _ zk).1.le (by omega)⟩ ?_
  simp -implicitDefEqProofs only [go_sem]
  first | done | rfl | exact ⟨rfl,rfl⟩
 ·have z:=qQ (r.adv 3) ((h1.adv 3).le (by omega))
  have zp:=z.2.2.1
  rw [zgl] at zp
  have zd:=z.2.1
  have zk:(szD (r.adv 3)).2.ok (r.p+3+2):=⟨zd.1,by omega⟩
  refine WantM.intro z.2.2.2 ?_
  simp -implicitDefEqProofs only [go_sem]
  repeat' first | (refine Want.intro (by first | exact zh _ 115 (by decide) | exact zh _ 102 (by decide) | exact zh _ 110 (by decide) | exact zh _ 114 (by decide) | exact zh _ 99 (by decide) | exact zh _ 112 (by decide) | exact zh _ 108 (by decide)) ?_;try simp -implicitDefEqProofs only [go_sem,zb,za]) | (refine WantM.intro (by first | exact zh _ 115 (by decide) | exact zh _ 102 (by decide) | exact zh _ 110 (by decide) | exact zh _ 114 (by decide) | exact zh _ 99 (by decide) | exact zh _ 112 (by decide) | exact zh _ 108 (by decide)) ?_;try simp -implicitDefEqProofs only [go_sem,zb,za]) | (refine zm (fun h=>?_) (fun h=>?_)<;>try simp -implicitDefEqProofs only [go_sem,zb,za,h]) | (refine zi (fun h=>?_) (fun h=>?_)<;>try simp -implicitDefEqProofs only [go_sem,zb,za,h])
  refine WantM.intro (zb5 _ (zk.le (by omega))) ?_
  simp -implicitDefEqProofs only [go_sem]
  repeat' first | (refine Want.intro (by first | exact zh _ 115 (by decide) | exact zh _ 102 (by decide) | exact zh _ 110 (by decide) | exact zh _ 114 (by decide) | exact zh _ 99 (by decide) | exact zh _ 112 (by decide) | exact zh _ 108 (by decide)) ?_;try simp -implicitDefEqProofs only [go_sem,zb,za]) | (refine WantM.intro (by first | exact zh _ 115 (by decide) | exact zh _ 102 (by decide) | exact zh _ 110 (by decide) | exact zh _ 114 (by decide) | exact zh _ 99 (by decide) | exact zh _ 112 (by decide) | exact zh _ 108 (by decide)) ?_;try simp -implicitDefEqProofs only [go_sem,zb,za]) | (refine zm (fun h=>?_) (fun h=>?_)<;>try simp -implicitDefEqProofs only [go_sem,zb,za,h]) | (refine zi (fun h=>?_) (fun h=>?_)<;>try simp -implicitDefEqProofs only [go_sem,zb,za,h])
  refine RetAt.intro (MMsg.avM ⟨6,(1+pk (r.adv 1) 5),0,(szD (r.adv 3)).1,(dgR (szD (r.adv 3)).2).1,0,[],[]⟩) (MMsg.outD ⟨6,(1+pk (r.adv 1) 5),0,(szD (r.adv 3)).1,(dgR (szD (r.adv 3)).2).1,0,[],[]⟩ (dgR (szD (r.adv 3)).2).2) ⟨⟨6,(1+pk (r.adv 1) 5),0,(szD (r.adv 3)).1,(dgR (szD (r.adv 3)).2).1,0,[],[]⟩,(dgR (szD (r.adv 3)).2).2,⟨rfl,rfl⟩,zdn b2 z.1,xZ _ (zk.le (by omega)),by simp,(jD _ zk).1.le (by omega)⟩ ?_
  simp -implicitDefEqProofs only [go_sem]
  first | done | rfl | exact ⟨rfl,rfl⟩
 ·have z:=qQ r.nx (h1.nx.le (by omega))
  have zp:=z.2.2.1
  rw [zpX] at zp
  have zd:=z.2.1
  have zk:(szD r.nx).2.ok (r.p+3):=⟨zd.1,by omega⟩
  refine WantM.intro z.2.2.2 ?_
  simp -implicitDefEqProofs only [go_sem]
  repeat' first | (refine Want.intro (by first | exact zh _ 115 (by decide) | exact zh _ 102 (by decide) | exact zh _ 110 (by decide) | exact zh _ 114 (by decide) | exact zh _ 99 (by decide) | exact zh _ 112 (by decide) | exact zh _ 108 (by decide)) ?_;try simp -implicitDefEqProofs only [go_sem,zb,za]) | (refine WantM.intro (by first | exact zh _ 115 (by decide) | exact zh _ 102 (by decide) | exact zh _ 110 (by decide) | exact zh _ 114 (by decide) | exact zh _ 99 (by decide) | exact zh _ 112 (by decide) | exact zh _ 108 (by decide)) ?_;try simp -implicitDefEqProofs only [go_sem,zb,za]) | (refine zm (fun h=>?_) (fun h=>?_)<;>try simp -implicitDefEqProofs only [go_sem,zb,za,h]) | (refine zi (fun h=>?_) (fun h=>?_)<;>try simp -implicitDefEqProofs only [go_sem,zb,za,h])
  have y:=qQ (szD r.nx).2 (zk.le (by omega))
  have yd:=y.2.1
  have yp:=y.2.2.1
  have yk:(szD (szD r.nx).2).2.ok (r.p+5):=⟨yd.1,by omega⟩
  refine WantM.intro y.2.2.2 ?_
  simp -implicitDefEqProofs only [go_sem]
  repeat' first | (refine Want.intro (by first | exact zh _ 115 (by decide) | exact zh _ 102 (by decide) | exact zh _ 110 (by decide) | exact zh _ 114 (by decide) | exact zh _ 99 (by decide) | exact zh _ 112 (by decide) | exact zh _ 108 (by decide)) ?_;try simp -implicitDefEqProofs only [go_sem,zb,za]) | (refine WantM.intro (by first | exact zh _ 115 (by decide) | exact zh _ 102 (by decide) | exact zh _ 110 (by decide) | exact zh _ 114 (by decide) | exact zh _ 99 (by decide) | exact zh _ 112 (by decide) | exact zh _ 108 (by decide)) ?_;try simp -implicitDefEqProofs only [go_sem,zb,za]) | (refine zm (fun h=>?_) (fun h=>?_)<;>try simp -implicitDefEqProofs only [go_sem,zb,za,h]) | (refine zi (fun h=>?_) (fun h=>?_)<;>try simp -implicitDefEqProofs only [go_sem,zb,za,h])
  refine RetAt.intro (MMsg.avM ⟨4,0,(szD r.nx).1,(szD (szD r.nx).2).1,dig0,0,[],[]⟩) (MMsg.outD ⟨4,0,(szD r.nx).1,(szD (szD r.nx).2).1,dig0,0,[],[]⟩ (szD (szD r.nx).2).2) ⟨⟨4,0,(szD r.nx).1,(szD (szD r.nx).2).1,dig0,0,[],[]⟩,(szD (szD r.nx).2).2,⟨rfl,rfl⟩,zns z.1 y.1,yw,by simp,yk.le (by omega)⟩ ?_
  simp -implicitDefEqProofs only [go_sem]
  first | done | rfl | exact ⟨rfl,rfl⟩
 ·have z:=qQ r.nx (h1.nx.le (by omega))
  have zp:=z.2.2.1
  rw [zpX] at zp
  have zd:=z.2.1
  have zk:(szD r.nx).2.ok (r.p+3):=⟨zd.1,by omega⟩
  refine WantM.intro z.2.2.2 ?_
  simp -implicitDefEqProofs only [go_sem]
  repeat' first | (refine Want.intro (by first | exact zh _ 115 (by decide) | exact zh _ 102 (by decide) | exact zh _ 110 (by decide) | exact zh _ 114 (by decide) | exact zh _ 99 (by decide) | exact zh _ 112 (by decide) | exact zh _ 108 (by decide)) ?_;try simp -implicitDefEqProofs only [go_sem,zb,za]) | (refine WantM.intro (by first | exact zh _ 115 (by decide) | exact zh _ 102 (by decide) | exact zh _ 110 (by decide) | exact zh _ 114 (by decide) | exact zh _ 99 (by decide) | exact zh _ 112 (by decide) | exact zh _ 108 (by decide)) ?_;try simp -implicitDefEqProofs only [go_sem,zb,za]) | (refine zm (fun h=>?_) (fun h=>?_)<;>try simp -implicitDefEqProofs only [go_sem,zb,za,h]) | (refine zi (fun h=>?_) (fun h=>?_)<;>try simp -implicitDefEqProofs only [go_sem,zb,za,h])
  have y:=qQ (szD r.nx).2 (zk.le (by omega))
  have yd:=y.2.1
  have yp:=y.2.2.1
  have yk:(szD (szD r.nx).2).2.ok (r.p+5):=⟨yd.1,by omega⟩
  refine WantM.intro y.2.2.2 ?_
  simp -implicitDefEqProofs only [go_sem]
  repeat' first | (refine Want.intro (by first | exact zh _ 115 (by decide) | exact zh _ 102 (by decide) | exact zh _ 110 (by decide) | exact zh _ 114 (by decide) | exact zh _ 99 (by decide) | exact zh _ 112 (by decide) | exact zh _ 108 (by decide)) ?_;try simp -implicitDefEqProofs only [go_sem,zb,za]) | (refine WantM.intro (by first | exact zh _ 115 (by decide) | exact zh _ 102 (by decide) | exact zh _ 110 (by decide) | exact zh _ 114 (by decide) | exact zh _ 99 (by decide) | exact zh _ 112 (by decide) | exact zh _ 108 (by decide)) ?_;try simp -implicitDefEqProofs only [go_sem,zb,za]) | (refine zm (fun h=>?_) (fun h=>?_)<;>try simp -implicitDefEqProofs only [go_sem,zb,za,h]) | (refine zi (fun h=>?_) (fun h=>?_)<;>try simp -implicitDefEqProofs only [go_sem,zb,za,h])
  generalize (szD (szD r.nx).2).2=R at *
  generalize (szD (szD r.nx).2).1=ZZ at *
  generalize (szD r.nx).1=FF at *
  have hq:=zL (yk.le (b:=1000000000) (by omega)) (n:=5) (by omega)
  refine WantM.intro (zZ 5 (yk.le (by omega))) ?_
  simp -implicitDefEqProofs only [go_sem]
  obtain ⟨K,hK⟩:∃K:Nat,pk R 5=K:=⟨(pk R 5).toNat,by omega⟩
  have hK4:K≤4:=by omega
  rw [hK]
  refine qO [(10003,4)] (fun m s=>∃(i:Nat) (l:List MDig) (Q:Dr),i≤K∧m=K - i∧l.length=i∧(∀d∈l,d.ok)∧Q.ok (r.p+6+36 * i)∧s=⟨105,[(0,vD),(2,.ptr 2 0 [] 11 0 0),(3,.ptr 3 0 [] 11 0 0),(4,vS ⟨#[102,110,112]⟩),(5,vI ((K - i:Nat):Int))],[(1000000,0,one ⟨2,[Q.cs],0,false⟩),(2,0,one ⟨11,[zpC],0,false⟩),(3,0,one ⟨11,[[vI 5,vI 0,vI FF,vI ZZ,vU 0,vU 0,vU 0,vU 0,vI 0,.blk 10003 0 [] 4 0 l.length,.nilS]],0,false⟩),(10003,0,one ⟨4,l.map MDig.cs,2,false⟩)],1⟩) K ?_ ?_
  ·simp -implicitDefEqProofs only [go_sem]
   exact ⟨0,[],R.nx,by omega,rfl,rfl,by simp,yk.nx,rfl⟩
  ·rintro m s ⟨i,l,Q,hi,rfl,hl,hd,hQ,rfl⟩
   rcases Nat.lt_or_ge i K with hlt | hge
   ·have hlt':((K - i:Nat):Int)>0:=by omega
    have w4:IntKind.i64.wrap (((K - i:Nat):Int) - 1)=((K - (i+1):Nat):Int):=by rw [wrS (by omega)];omega
    have ha:∀x,_:=fun x=>zH (E:=MDig.cs) (l:=l) (xs:=[x]) (b:=32) (n:=100) (by simp;omega) (by omega) (by omega)
    simp -implicitDefEqProofs only [go_sem,hlt']
    refine WantM.intro (zb5 Q (hQ.le (by omega))) ?_
    simp -implicitDefEqProofs only [go_sem,ha,w4]
    refine ⟨_,by omega,i+1,l++[(dgR Q).1],(dgR Q).2,hlt,rfl,by simp [hl],?_,((jD Q hQ).1.le (by omega)),?_⟩
    ·intro d hdm
     rcases List.mem_append.1 hdm with hdm | hdm
     ·exact hd d hdm
     ·rw [List.mem_singleton.1 hdm]
      exact xZ Q (hQ.le (by omega))
    ·simp [MDig.cs,Dr.cs]
   ·have hiK:i=K:=by omega
    subst hiK
    have hlt':¬(((i - i:Nat):Int)>0):=by omega
    have hq2:=zL (hQ.le (b:=1000000000) (by omega)) (n:=12) (by omega)
    simp -implicitDefEqProofs only [go_sem,hlt']
    refine WantM.intro (zZ 12 (hQ.le (by omega))) ?_
    simp -implicitDefEqProofs only [go_sem]
    refine zi (fun h=>?_) (fun h=>?_)
    ·simp -implicitDefEqProofs only [go_sem,h]
     clear hK hq
     refine zU (fun m s=>∃(n:Nat) (l:List MDig),l.length=n∧n≤16∧m=16 - n∧(∀d∈l,d.ok)∧s=⟨105,[(0,vD),(2,.ptr 2 0 [] 11 0 0),(3,.ptr 3 0 [] 11 0 0),(4,vS ⟨#[102,110,112]⟩)],[(1000000,0,one ⟨2,[Q.nx.cs],0,false⟩),(2,0,one ⟨11,[zpC],0,false⟩),(3,0,one ⟨11,[[vI 5,vI 0,vI FF,vI ZZ,vU 0,vU 0,vU 0,vU 0,vI 0,.blk 10003 0 [] 4 0 l.length,.nilS]],0,false⟩),(10003,0,one ⟨4,l.map MDig.cs,2,false⟩)],1⟩) (16 - l.length) ?_ ?_
     ·simp -implicitDefEqProofs only [go_sem]
      exact ⟨l.length,l,rfl,by omega,rfl,hd,rfl⟩
     ·rintro m s ⟨n,l,rfl,hn,rfl,hd,rfl⟩
      rcases Nat.lt_or_ge l.length 16 with hlt | hge
      ·have hlt':(l.length:Int)<16:=by omega
       have ha:∀x,_:=fun x=>zH (E:=MDig.cs) (l:=l) (xs:=[x]) (b:=32) (n:=100) (by simp;omega) (by omega) (by omega)
       simp -implicitDefEqProofs only [go_sem,hlt',ha]
       refine ⟨_,?_,(l++[dig0]).length,l++[dig0],rfl,by simp;omega,rfl,?_,?_⟩
       ·simp;omega
       ·intro d hdm
        rcases List.mem_append.1 hdm with hdm | hdm
        ·exact hd d hdm
        ·rw [List.mem_singleton.1 hdm]
         exact yw
       ·simp [MDig.cs,dig0]
        rfl
      ·have hlt':¬(l.length:Int)<16:=by omega
       simp -implicitDefEqProofs only [go_sem,hlt']
       repeat' first | (refine Want.intro (by first | exact zh _ 115 (by decide) | exact zh _ 102 (by decide) | exact zh _ 110 (by decide) | exact zh _ 114 (by decide) | exact zh _ 99 (by decide) | exact zh _ 112 (by decide) | exact zh _ 108 (by decide)) ?_;try simp -implicitDefEqProofs only [go_sem,zb,za]) | (refine WantM.intro (by first | exact zh _ 115 (by decide) | exact zh _ 102 (by decide) | exact zh _ 110 (by decide) | exact zh _ 114 (by decide) | exact zh _ 99 (by decide) | exact zh _ 112 (by decide) | exact zh _ 108 (by decide)) ?_;try simp -implicitDefEqProofs only [go_sem,zb,za]) | (refine zm (fun h=>?_) (fun h=>?_)<;>try simp -implicitDefEqProofs only [go_sem,zb,za,h]) | (refine zi (fun h=>?_) (fun h=>?_)<;>try simp -implicitDefEqProofs only [go_sem,zb,za,h])
       refine RetAt.intro (MMsg.avM ⟨5,0,FF,ZZ,dig0,0,l,[]⟩) (MMsg.outD ⟨5,0,FF,ZZ,dig0,0,l,[]⟩ Q.nx) ⟨⟨5,0,FF,ZZ,dig0,0,l,[]⟩,Q.nx,⟨rfl,rfl⟩,zjh z.1 y.1 hn,yw,hd,hQ.nx.le (by omega)⟩ ?_
       simp -implicitDefEqProofs only [go_sem]
       first | done | rfl | exact ⟨rfl,rfl⟩
    ·simp -implicitDefEqProofs only [go_sem,h]
     repeat' first | (refine Want.intro (by first | exact zh _ 115 (by decide) | exact zh _ 102 (by decide) | exact zh _ 110 (by decide) | exact zh _ 114 (by decide) | exact zh _ 99 (by decide) | exact zh _ 112 (by decide) | exact zh _ 108 (by decide)) ?_;try simp -implicitDefEqProofs only [go_sem,zb,za]) | (refine WantM.intro (by first | exact zh _ 115 (by decide) | exact zh _ 102 (by decide) | exact zh _ 110 (by decide) | exact zh _ 114 (by decide) | exact zh _ 99 (by decide) | exact zh _ 112 (by decide) | exact zh _ 108 (by decide)) ?_;try simp -implicitDefEqProofs only [go_sem,zb,za]) | (refine zm (fun h=>?_) (fun h=>?_)<;>try simp -implicitDefEqProofs only [go_sem,zb,za,h]) | (refine zi (fun h=>?_) (fun h=>?_)<;>try simp -implicitDefEqProofs only [go_sem,zb,za,h])
     refine RetAt.intro (MMsg.avM ⟨5,0,FF,ZZ,dig0,0,l,[]⟩) (MMsg.outD ⟨5,0,FF,ZZ,dig0,0,l,[]⟩ Q.nx) ⟨⟨5,0,FF,ZZ,dig0,0,l,[]⟩,Q.nx,⟨rfl,rfl⟩,zjh z.1 y.1 (by omega),yw,hd,hQ.nx.le (by omega)⟩ ?_
     simp -implicitDefEqProofs only [go_sem]
     first | done | rfl | exact ⟨rfl,rfl⟩
 ·have z:=qQ r.nx (h1.nx.le (by omega))
  have zp:=z.2.2.1
  rw [zpX] at zp
  have zd:=z.2.1
  have zk:(szD r.nx).2.ok (r.p+3):=⟨zd.1,by omega⟩
  refine WantM.intro z.2.2.2 ?_
  simp -implicitDefEqProofs only [go_sem]
  repeat' first | (refine Want.intro (by first | exact zh _ 115 (by decide) | exact zh _ 102 (by decide) | exact zh _ 110 (by decide) | exact zh _ 114 (by decide) | exact zh _ 99 (by decide) | exact zh _ 112 (by decide) | exact zh _ 108 (by decide)) ?_;try simp -implicitDefEqProofs only [go_sem,zb,za]) | (refine WantM.intro (by first | exact zh _ 115 (by decide) | exact zh _ 102 (by decide) | exact zh _ 110 (by decide) | exact zh _ 114 (by decide) | exact zh _ 99 (by decide) | exact zh _ 112 (by decide) | exact zh _ 108 (by decide)) ?_;try simp -implicitDefEqProofs only [go_sem,zb,za]) | (refine zm (fun h=>?_) (fun h=>?_)<;>try simp -implicitDefEqProofs only [go_sem,zb,za,h]) | (refine zi (fun h=>?_) (fun h=>?_)<;>try simp -implicitDefEqProofs only [go_sem,zb,za,h])
  have q8:=zL (zk.le (b:=1000000000) (by omega)) (n:=8) (by omega)
  have w8:IntKind.i64.wrap (1+pk (szD r.nx).2 8)=1+pk (szD r.nx).2 8:=wrS (by omega)
  refine WantM.intro (zZ 8 (zk.le (by omega))) ?_
  simp -implicitDefEqProofs only [go_sem,w8]
  repeat' first | (refine Want.intro (by first | exact zh _ 115 (by decide) | exact zh _ 102 (by decide) | exact zh _ 110 (by decide) | exact zh _ 114 (by decide) | exact zh _ 99 (by decide) | exact zh _ 112 (by decide) | exact zh _ 108 (by decide)) ?_;try simp -implicitDefEqProofs only [go_sem,zb,za]) | (refine WantM.intro (by first | exact zh _ 115 (by decide) | exact zh _ 102 (by decide) | exact zh _ 110 (by decide) | exact zh _ 114 (by decide) | exact zh _ 99 (by decide) | exact zh _ 112 (by decide) | exact zh _ 108 (by decide)) ?_;try simp -implicitDefEqProofs only [go_sem,zb,za]) | (refine zm (fun h=>?_) (fun h=>?_)<;>try simp -implicitDefEqProofs only [go_sem,zb,za,h]) | (refine zi (fun h=>?_) (fun h=>?_)<;>try simp -implicitDefEqProofs only [go_sem,zb,za,h])
  refine RetAt.intro (MMsg.avM ⟨7,0,(szD r.nx).1,0,dig0,1+pk (szD r.nx).2 8,[],[]⟩) (MMsg.outD ⟨7,0,(szD r.nx).1,0,dig0,1+pk (szD r.nx).2 8,[],[]⟩ (szD r.nx).2.nx) ⟨⟨7,0,(szD r.nx).1,0,dig0,1+pk (szD r.nx).2 8,[],[]⟩,(szD r.nx).2.nx,⟨rfl,rfl⟩,zpV z.1 (by omega),yw,by simp,zk.nx.le (by omega)⟩ ?_
  simp -implicitDefEqProofs only [go_sem]
  first | done | rfl | exact ⟨rfl,rfl⟩
 ·have z:=qQ r.nx (h1.nx.le (by omega))
  have zp:=z.2.2.1
  rw [zpX] at zp
  have zd:=z.2.1
  have zk:(szD r.nx).2.ok (r.p+3):=⟨zd.1,by omega⟩
  refine WantM.intro z.2.2.2 ?_
  simp -implicitDefEqProofs only [go_sem]
  repeat' first | (refine Want.intro (by first | exact zh _ 115 (by decide) | exact zh _ 102 (by decide) | exact zh _ 110 (by decide) | exact zh _ 114 (by decide) | exact zh _ 99 (by decide) | exact zh _ 112 (by decide) | exact zh _ 108 (by decide)) ?_;try simp -implicitDefEqProofs only [go_sem,zb,za]) | (refine WantM.intro (by first | exact zh _ 115 (by decide) | exact zh _ 102 (by decide) | exact zh _ 110 (by decide) | exact zh _ 114 (by decide) | exact zh _ 99 (by decide) | exact zh _ 112 (by decide) | exact zh _ 108 (by decide)) ?_;try simp -implicitDefEqProofs only [go_sem,zb,za]) | (refine zm (fun h=>?_) (fun h=>?_)<;>try simp -implicitDefEqProofs only [go_sem,zb,za,h]) | (refine zi (fun h=>?_) (fun h=>?_)<;>try simp -implicitDefEqProofs only [go_sem,zb,za,h])
  generalize (szD r.nx).2=R at *
  generalize (szD r.nx).1=FF at *
  have hq:=zL (zk.le (b:=1000000000) (by omega)) (n:=9) (by omega)
  refine WantM.intro (zZ 9 (zk.le (by omega))) ?_
  simp -implicitDefEqProofs only [go_sem]
  obtain ⟨K,hK⟩:∃K:Nat,pk R 9=K:=⟨(pk R 9).toNat,by omega⟩
  have hK8:K≤8:=by omega
  rw [hK]
  refine qO [(11003,1)] (fun m s=>∃(i:Nat) (l:List ByteArray) (Q:Dr),i≤K∧m=K - i∧l.length=i∧zq l=true∧Q.ok (r.p+4+10 * i)∧s=⟨105,[(0,vD),(2,.ptr 2 0 [] 11 0 0),(3,.ptr 3 0 [] 11 0 0),(6,vI ((K - i:Nat):Int))],[(1000000,0,one ⟨2,[Q.cs],0,false⟩),(2,0,one ⟨11,[zpC],0,false⟩),(3,0,one ⟨11,[[vI 8,vI 0,vI FF,vI 0,vU 0,vU 0,vU 0,vU 0,vI 0,.nilS,.blk 10003 0 [] 1 0 l.length]],0,false⟩),(10003,0,one ⟨1,l.map zs,2,false⟩)],1⟩) K ?_ ?_
  ·simp -implicitDefEqProofs only [go_sem]
   exact ⟨0,[],R.nx,by omega,rfl,rfl,rfl,zk.nx,rfl⟩
  ·rintro m s ⟨i,l,Q,hi,rfl,hl,hd,hQ,rfl⟩
   rcases Nat.lt_or_ge i K with hlt | hge
   ·have hlt':((K - i:Nat):Int)>0:=by omega
    have w4:IntKind.i64.wrap (((K - i:Nat):Int) - 1)=((K - (i+1):Nat):Int):=by rw [wrS (by omega)];omega
    have ha:∀x,_:=fun x=>zH (E:=zs) (l:=l) (xs:=[x]) (b:=16) (n:=100) (by simp;omega) (by omega) (by omega)
    have ht:=zk4 Q 4 hQ (by omega) (by omega)
    simp -implicitDefEqProofs only [go_sem,hlt']
    refine WantM.intro (zog Q 4 (hQ.le (by omega)) (by omega)) ?_
    simp -implicitDefEqProofs only [go_sem,ha,w4]
    refine ⟨_,by omega,i+1,l++[(tx Q 4).1],(tx Q 4).2,hlt,rfl,by simp [hl],?_,ht.1.le (by omega),?_⟩
    ·have h4:=ht.2
     simp only [zq,List.all_append,List.all_cons,List.all_nil,Bool.and_true,Bool.and_eq_true,decide_eq_true_eq] at hd ⊢
     exact ⟨hd,by omega⟩
    ·simp [zs,Dr.cs]
   ·have hiK:i=K:=by omega
    subst hiK
    have hlt':¬(((i - i:Nat):Int)>0):=by omega
    have hq2:=zL (hQ.le (b:=1000000000) (by omega)) (n:=8) (by omega)
    simp -implicitDefEqProofs only [go_sem,hlt']
    refine WantM.intro (zZ 8 (hQ.le (by omega))) ?_
    simp -implicitDefEqProofs only [go_sem]
    refine zm (fun h=>?_) (fun h=>?_)
    ·simp -implicitDefEqProofs only [go_sem,h]
     refine zi (fun h=>?_) (fun h=>?_)
     ·have hpos:0<l.length:=by have:=of_decide_eq_true h;omega
      have hpos':(0:Int)<(l.length:Int):=by omega
      have hg:l[0]?=some l[0]:=List.getElem?_eq_getElem hpos
      simp -implicitDefEqProofs only [go_sem,h]
      refine Want.intro zp8 ?_
      simp -implicitDefEqProofs only [go_sem,hpos',hg]
      refine RetAt.intro (MMsg.avM ⟨8,0,FF,0,dig0,0,[],l.set 0 (bA (rep [107] 40))⟩) (MMsg.outD ⟨8,0,FF,0,dig0,0,[],l.set 0 (bA (rep [107] 40))⟩ Q.nx) ⟨⟨8,0,FF,0,dig0,0,[],l.set 0 (bA (rep [107] 40))⟩,Q.nx,⟨rfl,rfl⟩,zln z.1 (by simp;omega) (zeF hd 0 (by rw [zQ,zfC];decide)),yw,by simp,hQ.nx.le (by omega)⟩ ?_
      simp -implicitDefEqProofs only [go_sem,List.map_set]
      first | done | rfl | exact ⟨rfl,rfl⟩ | trace_state
     ·simp -implicitDefEqProofs only [go_sem,h]
      refine RetAt.intro (MMsg.avM ⟨8,0,FF,0,dig0,0,[],l⟩) (MMsg.outD ⟨8,0,FF,0,dig0,0,[],l⟩ Q.nx) ⟨⟨8,0,FF,0,dig0,0,[],l⟩,Q.nx,⟨rfl,rfl⟩,zln z.1 (by omega) hd,yw,by simp,hQ.nx.le (by omega)⟩ ?_
      simp -implicitDefEqProofs only [go_sem]
      first | done | rfl | exact ⟨rfl,rfl⟩
    ·simp -implicitDefEqProofs only [go_sem,h,za]
     refine RetAt.intro (MMsg.avM ⟨8,0,FF,0,dig0,0,[],l⟩) (MMsg.outD ⟨8,0,FF,0,dig0,0,[],l⟩ Q.nx) ⟨⟨8,0,FF,0,dig0,0,[],l⟩,Q.nx,⟨rfl,rfl⟩,zln z.1 (by omega) hd,yw,by simp,hQ.nx.le (by omega)⟩ ?_
     simp -implicitDefEqProofs only [go_sem]
     first | done | rfl | exact ⟨rfl,rfl⟩
end Go.Proofs.YtpjpkmhaffmbmaaGreat.E
end
section
namespace Go.Proofs.YtpjpkmhaffmbmaaGreat.E
open Go Go.RowKit
set_option maxHeartbeats 4000000
set_option maxRecDepth 10000
set_option linter.unusedSimpArgs false
set_option linter.unusedVariables false
set_option linter.unusedSectionVars false
def MMsg.avK (m:MMsg) (a b:Nat):AV:=.agg [vI m.kind,vI m.session,vI m.from_,vI m.size,vU m.root.a,vU m.root.b,vU m.root.c,vU m.root.d,vI m.count,.blk a 0 [] 4 0 m.proof.length,.blk b 0 [] 1 0 m.leaves.length]
def MMsg.pr (m:MMsg):Row:=⟨4,m.proof.map MDig.cs,2,false⟩
def MMsg.lr (m:MMsg):Row:=⟨1,m.leaves.map zs,2,false⟩
def Dr.rr (r:Dr):Nat × (Nat × jH):=(1000000,0,one ⟨2,[r.cs],0,false⟩)
attribute [go_sem] MMsg.avK MMsg.pr MMsg.lr Dr.rr
structure DMsg (m:MMsg):Prop where
 r:m.root.ok
 d:∀d∈m.proof,d.ok
 p:m.proof.length≤100
 l:m.leaves.length≤100
 s:∀s∈m.leaves,s.size≤100
inductive SpForm (m:MMsg) (r:Dr):AV→Sig→Prop
 | a:SpForm m r (m.avK 1000001 1000002) [r.rr,(1000001,0,one m.pr),(1000002,0,one m.lr)]
 | b:SpForm m r (m.avK 0 1000002) [r.rr,(1000002,0,one m.lr),(0,0,one m.pr)]
 | c:SpForm m r (m.avK 1000001 0) [r.rr,(1000001,0,one m.pr),(0,0,one m.lr)]
def PostSp (r:Dr) (res:AV) (σ:Sig):Prop:=∃(m:MMsg) (r':Dr),SpForm m r' res σ∧DMsg m∧r'.ok (r.p+100)
theorem DMsg.with {m m':MMsg} (h:DMsg m) (hr:m'.root.ok) (hp:m'.proof=m.proof) (hl:m'.leaves=m.leaves):DMsg m':=⟨hr,by rw [hp];exact h.d,by rw [hp];exact h.p,by rw [hl];exact h.l,by rw [hl];exact h.s⟩
theorem get4 (a b c d:Int) {v:Nat} (h:v<4):∃x,([[vI a],[vI b],[vI c],[vI d]]:List (List AV))[v]?=some [vI x]:=by
 have:v=0∨v=1∨v=2∨v=3:=by omega
 rcases this with rfl | rfl | rfl | rfl
 ·exact ⟨a,rfl⟩
 ·exact ⟨b,rfl⟩
 ·exact ⟨c,rfl⟩
 ·exact ⟨d,rfl⟩
theorem get3 (a b c:Int) {v:Nat} (h:v<3):∃x,([[vI a],[vI b],[vI c]]:List (List AV))[v]?=some [vI x]:=by
 have:v=0∨v=1∨v=2:=by omega
 rcases this with rfl | rfl | rfl
 ·exact ⟨a,rfl⟩
 ·exact ⟨b,rfl⟩
 ·exact ⟨c,rfl⟩
end Go.Proofs.YtpjpkmhaffmbmaaGreat.E
end
section
namespace Go.Proofs.YtpjpkmhaffmbmaaGreat.E
open Go Go.RowKit
set_option maxHeartbeats 4000000
set_option maxRecDepth 10000
set_option linter.unusedSimpArgs false
set_option linter.unusedVariables false
set_option linter.unusedSectionVars false
def zps:Dec:=⟨[],[9,10,11],[22,30,37,38,39,40,49,56,76,80,87,141,143,159,237,250,259],false⟩
abbrev W64:=BitVec 64
abbrev vW (x:W64):AV:=vU x.toNat
structure BD where
 a:W64
 b:W64
 c:W64
 d:W64
def BD.cs (s:BD):List AV:=[vW s.a,vW s.b,vW s.c,vW s.d]
def BD.dig (s:BD):MDig:=⟨s.a.toNat,s.b.toNat,s.c.toNat,s.d.toNat⟩
theorem BD.dig_ok (s:BD):s.dig.ok:=⟨s.a.isLt,s.b.isLt,s.c.isLt,s.d.isLt⟩
theorem BD.dig_cs (s:BD):s.dig.cs=s.cs:=rfl
attribute [go_sem] BD.cs
theorem wU (n:Int):IntKind.u64.wrap n=n%18446744073709551616:=by
 have h8:IntKind.u64.bits=64:=rfl
 have hs:IntKind.u64.signed=false:=rfl
 simp only [IntKind.wrap,h8,hs,Bool.false_and,Bool.false_eq_true,if_false]
 rfl
theorem w_id (x:W64):IntKind.u64.wrap (x.toNat:Int)=(x.toNat:Int):=yx _ x.isLt
theorem zd0 (x y:W64):zm8 .u64 (x.toNat:Int) (y.toNat:Int)=((x ^^^ y).toNat:Int):=by
 unfold zm8
 rw [show IntKind.u64.bits=64 from rfl,BitVec.ofInt_natCast,BitVec.ofInt_natCast,BitVec.ofNat_toNat,BitVec.ofNat_toNat,BitVec.setWidth_eq,BitVec.setWidth_eq]
 exact w_id _
theorem w_or (x y:W64):orI .u64 (x.toNat:Int) (y.toNat:Int)=((x||| y).toNat:Int):=by
 unfold orI
 rw [show IntKind.u64.bits=64 from rfl,BitVec.ofInt_natCast,BitVec.ofInt_natCast,BitVec.ofNat_toNat,BitVec.ofNat_toNat,BitVec.setWidth_eq,BitVec.setWidth_eq]
 exact w_id _
theorem zim (x y:W64):IntKind.u64.wrap ((x.toNat:Int)+(y.toNat:Int))=((x+y).toNat:Int):=by
 rw [wU,BitVec.toNat_add]
 omega
theorem zk0 (x:W64) (n:Nat):IntKind.u64.wrap ((x.toNat:Int) * 2 ^ n)=((x<<<n).toNat:Int):=by
 rw [wU,BitVec.toNat_shiftLeft,Nat.shiftLeft_eq]
 have:((x.toNat:Int) * 2 ^ n)=((x.toNat * 2 ^ n:Nat):Int):=by simp
 rw [this]
 omega
theorem zkZ (x:W64) (n:Nat):(x.toNat:Int).fdiv (2 ^ n)=((x>>>n).toNat:Int):=by
 rw [BitVec.toNat_ushiftRight,Nat.shiftRight_eq_div_pow,Int.fdiv_eq_ediv_of_nonneg _ (Int.pow_nonneg (by decide))]
 simp
def rot (x:W64) (n m:Nat):W64:=x<<<n||| x>>>m
theorem rl39 (x:W64):CallR Tryz.prog 161 [vW x,vI 39] (vW (rot x 39 25)) []:=by
 refine zj zps false Tryz.f161 ?_
 conv=>enter [1];reduce
 refine jvR Tryz.f161 17 [.tmp 4] (by kernel_rfl) (by decide +kernel) rfl ?_
 have e1:andI IntKind.u64 (IntKind.u64.wrap 39) 63=39:=rfl
 have e2:IntKind.u64.wrap (64 - 39)=25:=rfl
 simp -implicitDefEqProofs only [go_sem,e1,e2]
 rw [zk0,zkZ,w_or]
 rfl
theorem tn39 (x:W64):CallR Tryz.prog 160 [vW x,vI 39] (vW (rot x 39 25)) []:=by
 refine zj zps false Tryz.f160 ?_
 conv=>enter [1];reduce
 refine jvR Tryz.f160 15 [.tmp 4] (by kernel_rfl) (by decide +kernel) rfl ?_
 have e1:IntKind.u64.wrap 39=39:=rfl
 have e2:IntKind.i64.wrap (64 - 39)=25:=rfl
 have e3:IntKind.u64.wrap 25=25:=rfl
 simp -implicitDefEqProofs only [go_sem,e1,e2,e3]
 rw [zk0,zkZ,w_or]
 rfl
theorem rl21 (x:W64):CallR Tryz.prog 161 [vW x,vI 21] (vW (rot x 21 43)) []:=by
 refine zj zps false Tryz.f161 ?_
 conv=>enter [1];reduce
 refine jvR Tryz.f161 17 [.tmp 4] (by kernel_rfl) (by decide +kernel) rfl ?_
 have e1:andI IntKind.u64 (IntKind.u64.wrap 21) 63=21:=rfl
 have e2:IntKind.u64.wrap (64 - 21)=43:=rfl
 simp -implicitDefEqProofs only [go_sem,e1,e2]
 rw [zk0,zkZ,w_or]
 rfl
theorem tn21 (x:W64):CallR Tryz.prog 160 [vW x,vI 21] (vW (rot x 21 43)) []:=by
 refine zj zps false Tryz.f160 ?_
 conv=>enter [1];reduce
 refine jvR Tryz.f160 15 [.tmp 4] (by kernel_rfl) (by decide +kernel) rfl ?_
 have e1:IntKind.u64.wrap 21=21:=rfl
 have e2:IntKind.i64.wrap (64 - 21)=43:=rfl
 have e3:IntKind.u64.wrap 43=43:=rfl
 simp -implicitDefEqProofs only [go_sem,e1,e2,e3]
 rw [zk0,zkZ,w_or]
 rfl
structure RS where
 a:W64
 b:W64
 c:W64
 d:W64
 k:W64
def C0:W64:=12620524952350641003#64
def RS.nx (s:RS):RS:=
 let k:=s.k+C0
 let a:=s.a+s.b+k
 let d:=rot (s.d ^^^ a) 39 25
 let c:=s.c+d
 let b:=rot (s.b ^^^ c) 21 43
 ⟨b,c,d,a,k⟩
def zhw (s:RS):Nat→RS
 | 0=>s
 | n+1=>(zhw s n).nx
def mBlk (s b:BD):BD:=
 let r:=zhw ⟨s.a ^^^ b.a,s.b ^^^ b.b,s.c ^^^ b.c,s.d ^^^ b.d,0#64⟩ 10
 ⟨r.a ^^^ s.a,r.b ^^^ s.b,r.c ^^^ s.c,r.d ^^^ s.d⟩
theorem zgs (x:W64):IntKind.u64.wrap ((x.toNat:Int)+12620524952350641003)=((x+C0).toNat:Int):=zim x C0
def zDg:List AV:=[.sc (.int .u64 0),.sc (.int .u64 0),.sc (.int .u64 0),.sc (.int .u64 0)]
attribute [go_sem] zDg
theorem zrA (s b:BD):CallR Tryz.prog 121 [.agg s.cs,.agg b.cs] (.agg (mBlk s b).cs) []:=by
 refine zj zps false Tryz.f121 ?_
 conv=>enter [1];reduce
 refine jvR Tryz.f121 74 [.cell 4 25] (by kernel_rfl) (by decide +kernel) rfl ?_
 simp -implicitDefEqProofs only [go_sem,zd0]
 generalize hR:(⟨s.a ^^^ b.a,s.b ^^^ b.b,s.c ^^^ b.c,s.d ^^^ b.d,0#64⟩:RS)=R
 refine zU (fun m z=>∃i:Nat,i≤10∧m=10 - i∧z=⟨74,[(2,.ptr 2 0 [] 4 0 0),(4,.ptr 4 0 [] 4 0 0),(5,vW (zhw R i).a),(6,vW (zhw R i).b),(7,vW (zhw R i).c),(8,vW (zhw R i).d),(9,vW (zhw R i).k),(10,vI i)],[(2,0,one ⟨4,[s.cs],0,false⟩),(4,0,one ⟨4,[zDg],0,false⟩)],1⟩) 10 ?_ ?_
 ·simp -implicitDefEqProofs only [go_sem]
  exact ⟨0,by omega,rfl,by subst hR;rfl⟩
 ·rintro m z ⟨i,hi,rfl,rfl⟩
  rcases Nat.lt_or_ge i 10 with hlt | hge
  ·have hlt':(i:Int)<10:=by omega
   have w4:IntKind.i64.wrap ((i:Int)+1)=((i+1:Nat):Int):=by rw [wrS (by omega)];omega
   simp -implicitDefEqProofs only [go_sem,hlt',zgs,zim,zd0]
   refine Want.intro (rl39 _) ?_
   simp -implicitDefEqProofs only [go_sem,zgs,zim,zd0]
   refine Want.intro (rl21 _) ?_
   simp -implicitDefEqProofs only [go_sem,w4]
   refine ⟨_,by omega,i+1,hlt,rfl,?_⟩
   simp only [zhw,RS.nx,BitVec.add_assoc]
  ·have hi:i=10:=by omega
   subst hi
   have hlt':¬(((10:Nat):Int)<10):=by omega
   simp -implicitDefEqProofs only [go_sem,hlt',zd0]
   subst hR
   rfl
theorem zmP (s b:BD):CallR Tryz.prog 118 [.agg s.cs,.agg b.cs] (.agg (mBlk s b).cs) []:=by
 refine zj zps false Tryz.f118 ?_
 conv=>enter [1];reduce
 refine jvR Tryz.f118 76 [.cell 4 25] (by kernel_rfl) (by decide +kernel) rfl ?_
 simp -implicitDefEqProofs only [go_sem,zd0]
 generalize hR:(⟨s.a ^^^ b.a,s.b ^^^ b.b,s.c ^^^ b.c,s.d ^^^ b.d,0#64⟩:RS)=R
 refine zU (fun m z=>∃i:Nat,i≤10∧m=10 - i∧z=⟨76,[(2,.ptr 2 0 [] 4 0 0),(4,.ptr 4 0 [] 4 0 0),(5,vW (zhw R i).a),(6,vW (zhw R i).b),(7,vW (zhw R i).c),(8,vW (zhw R i).d),(9,vW (zhw R i).k),(10,vI i)],[(2,0,one ⟨4,[s.cs],0,false⟩),(4,0,one ⟨4,[zDg],0,false⟩)],1⟩) 10 ?_ ?_
 ·simp -implicitDefEqProofs only [go_sem]
  exact ⟨0,by omega,rfl,by subst hR;rfl⟩
 ·rintro m z ⟨i,hi,rfl,rfl⟩
  rcases Nat.lt_or_ge i 10 with hlt | hge
  ·have hlt':(i:Int)<10:=by omega
   have w4:IntKind.i64.wrap ((i:Int)+1)=((i+1:Nat):Int):=by rw [wrS (by omega)];omega
   simp -implicitDefEqProofs only [go_sem,hlt',zgs,zim,zd0]
   refine Want.intro (tn39 _) ?_
   simp -implicitDefEqProofs only [go_sem,zgs,zim,zd0]
   refine Want.intro (tn21 _) ?_
   simp -implicitDefEqProofs only [go_sem,w4]
   exact ⟨_,by omega,i+1,hlt,rfl,rfl⟩
  ·have hi:i=10:=by omega
   subst hi
   have hlt':¬(((10:Nat):Int)<10):=by omega
   simp -implicitDefEqProofs only [go_sem,hlt',zd0]
   subst hR
   rfl
end Go.Proofs.YtpjpkmhaffmbmaaGreat.E
end
section
namespace Go.Proofs.YtpjpkmhaffmbmaaGreat.E
open Go Go.RowKit
set_option maxHeartbeats 4000000
set_option maxRecDepth 10000
set_option linter.unusedSimpArgs false
set_option linter.unusedVariables false
set_option linter.unusedSectionVars false
def zid:Dec:=⟨[(120,.cm [false,true,false])],[9,10,11],[22,30,37,38,39,40,49,56,76,80,87,141,143,159,237,250,259],false⟩
def zgh (b:UInt8):Bool:=((b.toNat:Int) != 255)
def zgi (l:List UInt8):List UInt8:=l.filter zgh
def zer (n:Nat):Nat:=(32 - (n+9)%32)%32
def jA (l:List UInt8):List UInt8:=l++[128]++List.replicate (zer l.length) 0++low l.length 8
def wAt (l:List UInt8) (a:Nat):W64:=BitVec.ofNat 64 (xS (l.drop a) 8)
def zh2 (l:List UInt8) (a:Nat):BD:=⟨wAt l a,wAt l (a+8),wAt l (a+16),wAt l (a+24)⟩
def runH (s:BD) (l:List UInt8):Nat→BD
 | 0=>s
 | k+1=>mBlk (runH s l k) (zh2 l (32 * k))
def H0:BD:=⟨13971524466476933880#64,3286059910148148165#64,8210247237615983910#64,11412903256176698835#64⟩
def zjT (l:List UInt8):BD:=runH H0 (jA (zgi l)) ((jA (zgi l)).length/32)
def zG (l:List UInt8):BD:=if 20000<l.length then ⟨0#64,0#64,0#64,0#64⟩ else zjT l
theorem zgp (l:List UInt8):∀k,xS l k<256 ^ k
 | 0=>by simp [xS]
 | k+1=>by
  have:=zaR l k
  have:=zgp l k
  simp only [xS,Nat.pow_succ]
  omega
theorem zir (l:List UInt8) (a:Nat):(wAt l a).toNat=xS (l.drop a) 8:=by
 unfold wAt
 rw [BitVec.toNat_ofNat,Nat.mod_eq_of_lt (zgp _ 8)]
theorem zoE (l:List UInt8) (n:Nat) {i:Nat} (h:i<n):bL (l.take n) i=bL l i:=by
 unfold bL
 rw [List.getD_eq_getElem?_getD,List.getD_eq_getElem?_getD,List.getElem?_take_of_lt h]
theorem zcx (l:List UInt8) (n:Nat):∀{k:Nat},k≤n→xS (l.take n) k=xS l k
 | 0,_=>rfl
 | k+1,h=>by simp only [xS];rw [zcx l n (by omega),zoE l n (by omega)]
theorem zlN (l:List UInt8) (a:Nat):(zic ((l.drop a).take 32)).cs=(zh2 l a).cs:=by
 have h:∀j,j+8≤32→xS (((l.drop a).take 32).drop j) 8=(wAt l (a+j)).toNat:=by
  intro j hj
  rw [zir,List.drop_take,List.drop_drop,zcx _ _ (by omega)]
 have h0:=h 0 (by omega)
 simp only [List.drop_zero,Nat.add_zero] at h0
 simp only [zic,MDig.cs,BD.cs,zh2,h0,h 8 (by omega),h 16 (by omega),h 24 (by omega)]
theorem zqU (l:List UInt8) (a:Nat) (h:a+32≤l.length):CallR Tryz.prog 122 [.ro 1 (((l.drop a).take 32).map zt)] (.agg (zh2 l a).cs) []:=by
 have:=zmO ((l.drop a).take 32) (by simp;omega)
 rw [zlN] at this
 exact this
theorem zdQ (l:List UInt8):(zgi l).length≤l.length:=List.length_filter_le _ _
theorem ze2 {l:List UInt8} {i:Nat} (h:i<l.length):zgi (l.take (i+1))=zgi (l.take i)++(if zgh l[i] then [l[i]] else []):=by
 unfold zgi
 rw [List.take_succ_eq_append_getElem h,List.filter_append]
 cases hb:zgh l[i]<;>simp [List.filter,hb]
theorem zjd (n:Nat):zer n<32:=Nat.mod_lt _ (by decide)
theorem wX (l:List UInt8):(jA l).length=l.length+9+zer l.length:=by simp [jA,zP];omega
theorem zeq (l:List UInt8):(jA l).length=32 * ((jA l).length/32):=by rw [wX];unfold zer;omega
theorem ziB {t:ByteArray} {i:Nat} (h:i<t.data.toList.length):(t.data[i]?).map (fun b=>AV.sc (.int .u8 (b.toNat:Int)))=some (.sc (.int .u8 ((t.data.toList[i].toNat:Nat):Int))):=by
 rw [←Array.getElem?_toList,List.getElem?_eq_getElem h];rfl
theorem zbg (t:ByteArray):t.data.toList.length=t.size:=by rw [Array.length_toList];rfl
theorem zeY (l:List UInt8) (b:UInt8):l.map zt++[[.sc (.int .u8 ((b.toNat:Nat):Int))]]=(l++[b]).map zt:=by simp [zt]
theorem zrD (t:ByteArray) (ht:t.size≤1000000):CallR Tryz.prog 115 [vS t] (vS (bA (zgi t.data.toList))) []:=by
 refine zj zid false Tryz.f115 ?_
 conv=>enter [1];reduce
 refine jvR Tryz.f115 24 [.tmp 2] (by kernel_rfl) (by decide +kernel) rfl ?_
 have hL:=zbg t
 simp -implicitDefEqProofs only [go_sem]
 refine zU (fun m z=>∃i:Nat,i≤t.size∧m=t.size - i∧z=⟨24,[(0,vS t),(3,.blk 3 0 [] 1 0 (zgi (t.data.toList.take i)).length),(4,vI i)],[(3,0,one ⟨1,(zgi (t.data.toList.take i)).map zt,2,false⟩)],1⟩) t.size ?_ ?_
 ·simp -implicitDefEqProofs only [go_sem]
  exact ⟨0,Nat.zero_le _,rfl,rfl⟩
 ·rintro m z ⟨i,hi,rfl,rfl⟩
  rcases Nat.lt_or_ge i t.size with hlt | hge
  ·have hlt':(i:Int)<(t.size:Int):=by omega
   have hg:=ziB (t:=t) (i:=i) (by omega)
   have hs:=ze2 (l:=t.data.toList) (i:=i) (by omega)
   have hb:=zdQ (t.data.toList.take i)
   rw [List.length_take] at hb
   have w4:IntKind.i64.wrap ((i:Int)+1)=((i+1:Nat):Int):=by rw [wrS (by omega)];omega
   have ha:∀x,_:=fun x=>zH (E:=zt) (l:=zgi (t.data.toList.take i)) (xs:=[x]) (b:=1) (n:=10000000) (by simp;omega) (by omega) (by omega)
   generalize t.data.toList[i]=b at *
   simp -implicitDefEqProofs only [go_sem,hlt',hg]
   refine zi (fun h=>?_) (fun h=>?_)
   ·rw [show zgh b=true from h,if_pos rfl] at hs
    simp -implicitDefEqProofs only [go_sem,w4,hg,hlt',ha]
    exact ⟨_,by omega,i+1,hlt,rfl,by rw [hs,zeY];simp⟩
   ·rw [show zgh b=false from h,if_neg (by simp),List.append_nil] at hs
    simp -implicitDefEqProofs only [go_sem,w4]
    exact ⟨_,by omega,i+1,hlt,rfl,by rw [hs]⟩
  ·have hi:i=t.size:=by omega
   subst hi
   have hlt':¬((t.size:Int)<(t.size:Int)):=by omega
   simp -implicitDefEqProofs only [go_sem,hlt',xl]
   rw [←hL,List.take_length]
   rfl
theorem zrC (n:Nat) (hn:n≤1000):CallR Tryz.prog 116 [vI n] (vS (bA (List.replicate n 0))) []:=by
 refine zj zid false Tryz.f116 ?_
 conv=>enter [1];reduce
 refine jvR Tryz.f116 16 [.tmp 2] (by kernel_rfl) (by decide +kernel) rfl ?_
 simp -implicitDefEqProofs only [go_sem]
 refine zU (fun m z=>∃i:Nat,i≤n∧m=n - i∧z=⟨16,[(0,vI n),(3,.blk 3 0 [] 1 0 (List.replicate i (0:UInt8)).length),(4,vI i)],[(3,0,one ⟨1,(List.replicate i (0:UInt8)).map zt,2,false⟩)],1⟩) n ?_ ?_
 ·simp -implicitDefEqProofs only [go_sem]
  exact ⟨0,Nat.zero_le _,rfl,rfl⟩
 ·rintro m z ⟨i,hi,rfl,rfl⟩
  have hs:List.replicate (i+1) (0:UInt8)=List.replicate i 0++[0]:=List.replicate_succ'
  obtain ⟨X,hX0⟩:∃X,List.replicate i (0:UInt8)=X:=⟨_,rfl⟩
  have hX:X.length=i:=by rw [←hX0];exact List.length_replicate
  rw [hX0] at hs ⊢
  rcases Nat.lt_or_ge i n with hlt | hge
  ·have hlt':(i:Int)<(n:Int):=by omega
   have w4:IntKind.i64.wrap ((i:Int)+1)=((i+1:Nat):Int):=by rw [wrS (by omega)];omega
   have ha:∀x,_:=fun x=>zH (E:=zt) (l:=X) (xs:=[x]) (b:=1) (n:=10000000) (by simp;omega) (by omega) (by omega)
   simp -implicitDefEqProofs only [go_sem,hlt',w4,ha]
   exact ⟨_,by omega,i+1,hlt,rfl,by rw [hs];simp [zt]⟩
  ·have hi:i=n:=by omega
   have hlt':¬((i:Int)<(n:Int)):=by omega
   simp -implicitDefEqProofs only [go_sem,hlt',xl]
   rw [←hX0,hi]
   rfl
theorem H0_cs:H0.cs=[.sc (.int .u64 13971524466476933880),.sc (.int .u64 3286059910148148165),.sc (.int .u64 8210247237615983910),.sc (.int .u64 11412903256176698835)]:=rfl
theorem zhZ (t:ByteArray) (ht:t.size≤1000000000):CallR Tryz.prog 55 [vS t] (.agg (zG t.data.toList).cs) []:=by
 refine zj zid false Tryz.f55 ?_
 conv=>enter [1];reduce
 refine jvR Tryz.f55 61 [.cell 2 25] (by kernel_rfl) (by decide +kernel) rfl ?_
 have hL:=zbg t
 simp -implicitDefEqProofs only [go_sem]
 refine zi (fun h=>?_) (fun h=>?_)
 ·have h':20000<t.data.toList.length:=by have:=of_decide_eq_true h;omega
  simp -implicitDefEqProofs only [go_sem,h,zG,h']
  rfl
 ·have h':¬20000<t.data.toList.length:=by have:=of_decide_eq_false h;omega
  simp -implicitDefEqProofs only [go_sem,h]
  refine qO [(3,1)] (fun m z=>∃i:Nat,i≤t.size∧m=t.size - i∧z=⟨61,[(0,vS t),(2,.ptr 2 0 [] 4 0 0),(3,.blk 3 0 [] 1 0 (zgi (t.data.toList.take i)).length),(4,vI i)],[(2,0,one ⟨4,[zDg],0,false⟩),(3,0,one ⟨1,(zgi (t.data.toList.take i)).map zt,2,false⟩)],1⟩) t.size ?_ ?_
  ·simp -implicitDefEqProofs only [go_sem]
   exact ⟨0,Nat.zero_le _,rfl,rfl⟩
  ·rintro m z ⟨i,hi,rfl,rfl⟩
   have hb:=zdQ (t.data.toList.take i)
   rw [List.length_take] at hb
   have ha:∀x,_:=fun x=>zH (E:=zt) (l:=zgi (t.data.toList.take i)) (xs:=[x]) (b:=1) (n:=10000000) (by simp;omega) (by omega) (by omega)
   rcases Nat.lt_or_ge i t.size with hlt | hge
   ·have hlt':(i:Int)<(t.size:Int):=by omega
    have hg:=ziB (t:=t) (i:=i) (by omega)
    have hs:=ze2 (l:=t.data.toList) (i:=i) (by omega)
    have w4:IntKind.i64.wrap ((i:Int)+1)=((i+1:Nat):Int):=by rw [wrS (by omega)];omega
    generalize t.data.toList[i]=b at *
    simp -implicitDefEqProofs only [go_sem,hlt',hg]
    refine zi (fun h=>?_) (fun h=>?_)
    ·rw [show zgh b=true from h,if_pos rfl] at hs
     simp -implicitDefEqProofs only [go_sem,w4,hg,hlt',ha]
     exact ⟨_,by omega,i+1,hlt,rfl,by rw [hs,zeY];simp⟩
    ·rw [show zgh b=false from h,if_neg (by simp),List.append_nil] at hs
     simp -implicitDefEqProofs only [go_sem,w4]
     exact ⟨_,by omega,i+1,hlt,rfl,by rw [hs]⟩
   ·have hi:i=t.size:=by omega
    subst hi
    have hlt':¬((t.size:Int)<(t.size:Int)):=by omega
    have hT:t.data.toList.take t.size=t.data.toList:=by rw [←hL,List.take_length]
    rw [hT] at ha hb ⊢
    have hm:zG t.data.toList=zjT t.data.toList:=if_neg h'
    unfold zjT at hm
    rw [hm]
    clear hT hm
    generalize zgi t.data.toList=B at *
    have wv:IntKind.u64.wrap (B.length:Int)=(B.length:Int):=yx _ (by omega)
    simp -implicitDefEqProofs only [go_sem,hlt',ha,wv]
    refine zU (fun m z=>∃(j:Nat) (X:List UInt8),j≤zer B.length∧X=B++[128]++List.replicate j 0∧m=zer B.length - j∧z=⟨61,[(2,.ptr 2 0 [] 4 0 0),(3,.blk 3 0 [] 1 0 X.length),(5,.sc (.int .u64 B.length))],[(2,0,one ⟨4,[zDg],0,false⟩),(3,0,one ⟨1,X.map zt,2,false⟩)],1⟩) (zer B.length) ?_ ?_
    ·simp -implicitDefEqProofs only [go_sem]
     exact ⟨0,B++[128],Nat.zero_le _,by simp,rfl,by simp [zt]⟩
    ·rintro m z ⟨j,X,hj,hX,rfl,rfl⟩
     have hXl:X.length=B.length+1+j:=by rw [hX];simp;omega
     have hz:=zjd B.length
     have ha:∀x,_:=fun x=>zH (E:=zt) (l:=X) (xs:=[x]) (b:=1) (n:=10000000) (by simp;omega) (by omega) (by omega)
     have tm:((X.length:Nat):Int).tmod 32=((X.length%32:Nat):Int):=by rw [Int.tmod_eq_emod_of_nonneg (by omega)];omega
     rcases Nat.lt_or_ge j (zer B.length) with hlt | hge
     ·have hne:(((X.length%32:Nat):Int) != 24)=true:=by rw [bne_iff_ne];unfold zer at hlt;omega
      simp -implicitDefEqProofs only [go_sem,tm,hne,ha]
      exact ⟨_,by omega,j+1,X++[0],by omega,by rw [hX,List.replicate_succ',List.append_assoc],rfl,by simp [zt]⟩
     ·have hj:j=zer B.length:=by omega
      have hne:(((X.length%32:Nat):Int) != 24)=false:=by rw [bne_eq_false_iff_eq];unfold zer at hj;omega
      simp -implicitDefEqProofs only [go_sem,tm,hne]
      refine WantM.intro (zaG X B.length (by omega)) ?_
      have hP:X++low B.length 8=jA B:=by rw [hX,hj];rfl
      have hPl:=zeq B
      have hPm:=wX B
      rw [hP]
      generalize jA B=P at *
      obtain ⟨n,hn⟩:∃n,P.length/32=n:=⟨_,rfl⟩
      rw [hn] at hPl ⊢
      have hd:=fun k (hk:k<n)=>zqU P (32 * k) (by omega)
      simp -implicitDefEqProofs only [go_sem]
      refine zU (fun m z=>∃k:Nat,k≤n∧m=n - k∧z=⟨61,[(2,.ptr 2 0 [] 4 0 0),(3,.blk 3 0 [] 1 0 P.length),(6,.ptr 6 0 [] 4 0 0),(7,vI ((32 * k:Nat):Int))],[(2,0,one ⟨4,[zDg],0,false⟩),(3,0,one ⟨1,P.map zt,2,false⟩),(6,0,one ⟨4,[(runH H0 P k).cs],0,false⟩)],1⟩) n ?_ ?_
      ·simp -implicitDefEqProofs only [go_sem]
       exact ⟨0,Nat.zero_le _,rfl,rfl⟩
      ·rintro m z ⟨k,hk,rfl,rfl⟩
       rcases Nat.lt_or_ge k n with hlt | hge
       ·have hlt':((32 * k:Nat):Int)<(P.length:Int):=by omega
        have w4:IntKind.i64.wrap (((32 * k:Nat):Int)+32)=((32 * (k+1):Nat):Int):=by rw [wrS (by omega)];omega
        have hsl:((32 * k:Nat):Int)≤((32 * (k+1):Nat):Int)∧((32 * (k+1):Nat):Int)≤(P.length:Int):=by omega
        have h32:32 * (k+1) - 32 * k=32:=by omega
        have hif:∀(x:Option (Sig × AV)),zjQ (32 * k+32) P.length x=x:=fun x=>zgZ (by omega)
        simp -implicitDefEqProofs only [go_sem,hlt',w4,hsl,h32,hif]
        refine Want.intro (hd k hlt) ?_
        simp -implicitDefEqProofs only [go_sem]
        refine Want.intro (zrA _ _) ?_
        simp -implicitDefEqProofs only [go_sem,w4]
        exact ⟨_,by omega,k+1,hlt,rfl,rfl⟩
       ·have hk:k=n:=by omega
        subst hk
        have hlt':¬((32 * k:Nat):Int)<(P.length:Int):=by omega
        simp -implicitDefEqProofs only [go_sem,hlt']
theorem zpY (v:Nat) (h:v<18446744073709551616):CallR Tryz.prog 117 [vU v] (vS (bA (low v 8))) []:=by
 have:=je v h
 rw [zdo] at this
 exact this
theorem zl7 (l:List UInt8) (a:Nat) (h:a+8≤l.length) (hl:l.length≤1000000):CallR Tryz.prog 119 [vS (bA l),vI a] (vW (wAt l a)) []:=by
 have:=wI (bA l) a (by rw [zQ];omega) (by rw [zQ];omega)
 rw [zii,xH,←zir] at this
 exact this
theorem b128:(⟨#[128]⟩:ByteArray)=bA [128]:=rfl
theorem zeX (t:ByteArray) (ht:t.size≤1000000000):CallR Tryz.prog 53 [vS t] (.agg (zG t.data.toList).cs) []:=by
 refine zj zid false Tryz.f53 ?_
 conv=>enter [1];reduce
 refine jvR Tryz.f53 57 [.cell 2 25] (by kernel_rfl) (by decide +kernel) rfl ?_
 have hL:=zbg t
 simp -implicitDefEqProofs only [go_sem]
 refine zi (fun h=>?_) (fun h=>?_)
 ·have h':20000<t.data.toList.length:=by have:=of_decide_eq_true h;omega
  simp -implicitDefEqProofs only [go_sem,h,zG,h']
  rfl
 ·have h':¬20000<t.data.toList.length:=by have:=of_decide_eq_false h;omega
  simp -implicitDefEqProofs only [go_sem,h]
  refine Want.intro (zrD t (by omega)) ?_
  have hb:=zdQ t.data.toList
  have hm:zG t.data.toList=zjT t.data.toList:=if_neg h'
  unfold zjT at hm
  rw [hm]
  generalize zgi t.data.toList=B at *
  have hz:=zjd B.length
  have w1:IntKind.i64.wrap ((B.length:Int)+9)=((B.length+9:Nat):Int):=by rw [wrS (by omega)];rfl
  have w2:((B.length+9:Nat):Int).tmod 32=(((B.length+9)%32:Nat):Int):=by rw [Int.tmod_eq_emod_of_nonneg (by omega)];omega
  have w3:IntKind.i64.wrap (32 - (((B.length+9)%32:Nat):Int))=((32 - (B.length+9)%32:Nat):Int):=by rw [wrS (by omega)];omega
  have w4:((32 - (B.length+9)%32:Nat):Int).tmod 32=((zer B.length:Nat):Int):=by rw [Int.tmod_eq_emod_of_nonneg (by omega)];unfold zer;omega
  have wv:IntKind.u64.wrap (B.length:Int)=(B.length:Int):=yx _ (by omega)
  have w5:IntKind.i64.wrap (((32 - (B.length+9)%32:Nat):Int))=((32 - (B.length+9)%32:Nat):Int):=wrS (by omega)
  have hs1:decide (((B.length+1:Nat):Int)>9223372036854775807)=false:=by simp;omega
  have hs2:decide (((B.length+1+zer B.length:Nat):Int)>9223372036854775807)=false:=by simp;omega
  have hs3:decide (((B.length+1+zer B.length+8:Nat):Int)>9223372036854775807)=false:=by simp;omega
  simp -implicitDefEqProofs only [go_sem,zQ,w1,w2,w3,w4,hs1,b128,wJ,wv]
  refine Want.intro (zrC (zer B.length) (by omega)) ?_
  simp -implicitDefEqProofs only [go_sem,zQ,hs2,wJ,wv,List.length_append,List.length_replicate]
  refine Want.intro (zpY B.length (by omega)) ?_
  simp -implicitDefEqProofs only [go_sem,zQ,hs3,wJ,wv,List.length_append,List.length_replicate,low8]
  have hP:B++[128]++List.replicate (zer B.length) 0++low B.length 8=jA B:=rfl
  have hPl:=zeq B
  have hPm:=wX B
  rw [hP]
  generalize jA B=P at *
  obtain ⟨n,hn⟩:∃n,P.length/32=n:=⟨_,rfl⟩
  rw [hn] at hPl ⊢
  refine zU (fun m z=>∃k:Nat,k≤n∧m=n - k∧z=⟨57,[(2,.ptr 2 0 [] 4 0 0),(4,vS (bA P)),(5,.ptr 5 0 [] 4 0 0),(6,vI ((32 * k:Nat):Int))],[(2,0,one ⟨4,[zDg],0,false⟩),(5,0,one ⟨4,[(runH H0 P k).cs],0,false⟩)],1⟩) n ?_ ?_
  ·simp -implicitDefEqProofs only [go_sem]
   exact ⟨0,Nat.zero_le _,rfl,rfl⟩
  ·rintro m z ⟨k,hk,rfl,rfl⟩
   rcases Nat.lt_or_ge k n with hlt | hge
   ·have hlt':((32 * k:Nat):Int)<(P.length:Int):=by omega
    have w6:IntKind.i64.wrap (((32 * k:Nat):Int)+32)=((32 * (k+1):Nat):Int):=by rw [wrS (by omega)];omega
    have w7:IntKind.i64.wrap (((32 * k:Nat):Int)+8)=((32 * k+8:Nat):Int):=by rw [wrS (by omega)];omega
    have w8:IntKind.i64.wrap (((32 * k:Nat):Int)+16)=((32 * k+16:Nat):Int):=by rw [wrS (by omega)];omega
    have w9:IntKind.i64.wrap (((32 * k:Nat):Int)+24)=((32 * k+24:Nat):Int):=by rw [wrS (by omega)];omega
    simp -implicitDefEqProofs only [go_sem,zQ,hlt',w6,w7,w8,w9]
    repeat' first | (refine Want.intro (by first | exact zl7 P _ (by omega) (by omega) | exact zmP _ (zh2 P (32 * k))) ?_;try simp -implicitDefEqProofs only [go_sem,w6]) | (refine WantM.intro (by first | exact zl7 P _ (by omega) (by omega) | exact zmP _ (zh2 P (32 * k))) ?_;try simp -implicitDefEqProofs only [go_sem,w6]) | (refine zm (fun h=>?_) (fun h=>?_)<;>try simp -implicitDefEqProofs only [go_sem,w6,h]) | (refine zi (fun h=>?_) (fun h=>?_)<;>try simp -implicitDefEqProofs only [go_sem,w6,h])
    exact ⟨_,by omega,k+1,hlt,rfl,rfl⟩
   ·have hk:k=n:=by omega
    subst hk
    have hlt':¬((32 * k:Nat):Int)<(P.length:Int):=by omega
    simp -implicitDefEqProofs only [go_sem,zQ,hlt']
theorem zrg (t:ByteArray) (ht:t.size≤1000000):CallR Tryz.prog 195 [vS t] (vS (bA (0::t.data.toList))) []:=by
 refine zj zid false Tryz.f195 ?_
 conv=>enter [1];reduce
 refine jvR Tryz.f195 5 [.tmp 2] (by kernel_rfl) (by decide +kernel) rfl ?_
 have hs:decide ((((#[0]:Array UInt8).size+t.size:Nat):Int)>9223372036854775807)=false:=by simp;omega
 have e:(⟨#[0]⟩:ByteArray)++t=bA (0::t.data.toList):=zda (by simp [bA,ByteArray.data_append])
 simp -implicitDefEqProofs only [go_sem,hs,e]
theorem zrm (t:ByteArray) (ht:t.size≤1000000):CallR Tryz.prog 165 [vS t] (vS (bA (0::t.data.toList))) []:=by
 refine zj zid false Tryz.f165 ?_
 conv=>enter [1];reduce
 refine jvR Tryz.f165 7 [.tmp 2] (by kernel_rfl) (by decide +kernel) rfl ?_
 have hs:decide ((((#[0]:Array UInt8).size+t.size:Nat):Int)>9223372036854775807)=false:=by simp;omega
 have e:(⟨#[0]⟩:ByteArray)++t=bA (0::t.data.toList):=zda (by simp [bA,ByteArray.data_append])
 simp -implicitDefEqProofs only [go_sem,hs,e]
def zjV (b:ByteArray):BD:=zG (0::b.data.toList)
def zbQ (x y:BD):BD:=zG (1::(x.dig.bl++y.dig.bl))
theorem c191_c (t:ByteArray) (ht:t.size≤1000000):CallR Tryz.prog 191 [vS t] (.agg (zjV t).cs) []:=by
 refine zj zid false Tryz.f191 ?_
 conv=>enter [1];reduce
 refine jvR Tryz.f191 6 [.cell 2 25] (by kernel_rfl) (by decide +kernel) rfl ?_
 have hh:=zhZ (bA (0::t.data.toList)) (by rw [zQ,List.length_cons,zbg];omega)
 rw [xH] at hh
 simp -implicitDefEqProofs only [go_sem]
 refine Want.intro (zrg t ht) ?_
 simp -implicitDefEqProofs only [go_sem]
 refine Want.intro hh ?_
 simp -implicitDefEqProofs only [go_sem,zjV]
theorem zrv (t:ByteArray) (ht:t.size≤1000000):CallR Tryz.prog 132 [vS t] (.agg (zjV t).cs) []:=by
 refine zj zid false Tryz.f132 ?_
 conv=>enter [1];reduce
 refine jvR Tryz.f132 6 [.cell 2 25] (by kernel_rfl) (by decide +kernel) rfl ?_
 have hh:=zeX (bA (0::t.data.toList)) (by rw [zQ,List.length_cons,zbg];omega)
 rw [xH] at hh
 simp -implicitDefEqProofs only [go_sem]
 refine Want.intro (zrm t ht) ?_
 simp -implicitDefEqProofs only [go_sem]
 refine Want.intro hh ?_
 simp -implicitDefEqProofs only [go_sem,zjV]
theorem zqx (x:BD):CallR Tryz.prog 199 [.agg x.cs] (vS (bA x.dig.bl)) []:=by
 have:=zmD x.dig
 rw [zdM] at this
 exact this
theorem zqw (x:BD):CallR Tryz.prog 77 [.agg x.cs] (vS (bA x.dig.bl)) []:=zlF x.dig x.dig_ok
theorem zrh (x y:BD):CallR Tryz.prog 194 [.agg x.cs,.agg y.cs] (vS (bA (1::(x.dig.bl++y.dig.bl)))) []:=by
 refine zj zid false Tryz.f194 ?_
 conv=>enter [1];reduce
 refine jvR Tryz.f194 11 [.tmp 4] (by kernel_rfl) (by decide +kernel) rfl ?_
 have b1:(⟨#[1]⟩:ByteArray)=bA [1]:=rfl
 have s1:decide ((((#[1]:Array UInt8).size+32:Nat):Int)>9223372036854775807)=false:=rfl
 have s2:decide (((1+32:Nat):Int)>9223372036854775807)=false:=rfl
 have s3:decide (((1+32+32:Nat):Int)>9223372036854775807)=false:=rfl
 simp -implicitDefEqProofs only [go_sem,b1]
 refine Want.intro (zqx x) ?_
 simp -implicitDefEqProofs only [go_sem,b1,zQ,xi,s1,s2,wJ,List.singleton_append]
 refine Want.intro (zqx y) ?_
 simp -implicitDefEqProofs only [go_sem,b1,zQ,xi,s3,wJ]
theorem zro (x y:BD):CallR Tryz.prog 163 [.agg x.cs,.agg y.cs] (vS (bA (1::(x.dig.bl++y.dig.bl)))) []:=by
 refine zj zid false Tryz.f163 ?_
 conv=>enter [1];reduce
 refine jvR Tryz.f163 13 [.tmp 4] (by kernel_rfl) (by decide +kernel) rfl ?_
 have b1:(⟨#[1]⟩:ByteArray)=bA [1]:=rfl
 have s1:decide ((((#[1]:Array UInt8).size+32:Nat):Int)>9223372036854775807)=false:=rfl
 have s2:decide (((1+32:Nat):Int)>9223372036854775807)=false:=rfl
 have s3:decide (((1+32+32:Nat):Int)>9223372036854775807)=false:=rfl
 simp -implicitDefEqProofs only [go_sem,b1]
 refine Want.intro (zqw x) ?_
 simp -implicitDefEqProofs only [go_sem,b1,zQ,xi,s1,s2,wJ,List.singleton_append]
 refine Want.intro (zqw y) ?_
 simp -implicitDefEqProofs only [go_sem,b1,zQ,xi,s3,wJ]
theorem zmF (x y:BD):CallR Tryz.prog 186 [.agg x.cs,.agg y.cs] (.agg (zbQ x y).cs) []:=by
 refine zj zid false Tryz.f186 ?_
 conv=>enter [1];reduce
 refine jvR Tryz.f186 9 [.cell 4 25] (by kernel_rfl) (by decide +kernel) rfl ?_
 have hh:=zhZ (bA (1::(x.dig.bl++y.dig.bl))) (by rw [zQ];simp [xi])
 rw [xH] at hh
 simp -implicitDefEqProofs only [go_sem]
 refine Want.intro (zrh x y) ?_
 simp -implicitDefEqProofs only [go_sem]
 refine Want.intro hh ?_
 simp -implicitDefEqProofs only [go_sem,zbQ]
theorem zko (x y:BD):CallR Tryz.prog 124 [.agg x.cs,.agg y.cs] (.agg (zbQ x y).cs) []:=by
 refine zj zid false Tryz.f124 ?_
 conv=>enter [1];reduce
 refine jvR Tryz.f124 9 [.cell 4 25] (by kernel_rfl) (by decide +kernel) rfl ?_
 have hh:=zeX (bA (1::(x.dig.bl++y.dig.bl))) (by rw [zQ];simp [xi])
 rw [xH] at hh
 simp -implicitDefEqProofs only [go_sem]
 refine Want.intro (zro x y) ?_
 simp -implicitDefEqProofs only [go_sem]
 refine Want.intro hh ?_
 simp -implicitDefEqProofs only [go_sem,zbQ]
end Go.Proofs.YtpjpkmhaffmbmaaGreat.E
end
section
namespace Go.Proofs.YtpjpkmhaffmbmaaGreat.E
open Go Go.RowKit
set_option maxHeartbeats 4000000
set_option maxRecDepth 10000
set_option linter.unusedSimpArgs false
set_option linter.unusedVariables false
set_option linter.unusedSectionVars false
def zqX:Dec:=⟨[],[9,10,11],[22,30,37,38,39,40,49,56,76,80,87,141,143,159,237,250,259],false⟩
def zJ (l:List ByteArray):Bool:=decide ((l.length:Int)≤256)&&zq l
def spl (n:Nat):Nat:=2 ^ (n - 1).log2
theorem zma {n j:Nat} (h1:2 ^ j<n) (h2:n≤2 * 2 ^ j):spl n=2 ^ j:=by
 unfold spl
 rw [(Nat.log2_eq_iff (k:=j) (by omega)).2 ⟨by omega,by rw [Nat.pow_succ];omega⟩]
theorem xL {n:Nat} (h:2≤n):1≤spl n∧spl n<n:=by
 have h1:n - 1≠0:=by omega
 have:=(Nat.log2_eq_iff (k:=(n - 1).log2) h1).1 rfl
 have h3:0<2 ^ (n - 1).log2:=Nat.pow_pos (by omega)
 unfold spl
 omega
theorem zri (n:Nat) (h:2≤n) (h2:n≤256):CallR Tryz.prog 193 [vI n] (vI (spl n)) []:=by
 refine zj zqX false Tryz.f193 ?_
 conv=>enter [1];reduce
 refine jvR Tryz.f193 14 [.tmp 2] (by kernel_rfl) (by decide +kernel) rfl ?_
 simp -implicitDefEqProofs only [go_sem]
 refine Want.intro (qq _ _ _) ?_
 have hin:mIn (n:Int) 2 256=true:=by simp [mIn];omega
 simp -implicitDefEqProofs only [go_sem,hin,zb,za]
 refine zU (fun m s=>∃j:Nat,2 ^ j<n∧m=n - 2 ^ j∧s=⟨14,[(0,vI n),(3,vI ((2 ^ j:Nat):Int))],[],1⟩) (n - 1) ?_ ?_
 ·simp -implicitDefEqProofs only [go_sem]
  exact ⟨0,by simp;omega,rfl,rfl⟩
 ·rintro m s ⟨j,hj,rfl,rfl⟩
  have e:2 ^ (j+1)=2 * 2 ^ j:=by rw [Nat.pow_succ];omega
  have hp:0<2 ^ j:=Nat.pow_pos (by omega)
  have hS:=fun h2=>zma (n:=n) (j:=j) hj h2
  generalize hq:2 ^ j=q at *
  have w1:IntKind.i64.wrap (2 * (q:Int))=((2 * q:Nat):Int):=by rw [wrS (by omega)];omega
  have w2:IntKind.i64.wrap ((q:Int) * 2)=((2 * q:Nat):Int):=by rw [wrS (by omega)];omega
  rcases Nat.lt_or_ge (2 * q) n with hlt | hge
  ·have hlt':((2 * q:Nat):Int)<(n:Int):=by omega
   simp -implicitDefEqProofs only [go_sem,w1,hlt',w2]
   exact ⟨_,by omega,j+1,by omega,rfl,by rw [e]⟩
  ·have hlt':¬((2 * q:Nat):Int)<(n:Int):=by omega
   simp -implicitDefEqProofs only [go_sem,w1,hlt']
   rw [hS (by omega)]
theorem zg9 (n:Nat) (h:2≤n) (h2:n≤256):CallR Tryz.prog 126 [vI n] (vI (spl n)) []:=by
 refine zj zqX false Tryz.f126 ?_
 conv=>enter [1];reduce
 refine jvR Tryz.f126 14 [.tmp 2] (by kernel_rfl) (by decide +kernel) rfl ?_
 simp -implicitDefEqProofs only [go_sem]
 refine Want.intro (zao _ _ _) ?_
 have hin:mIn (n:Int) 2 256=true:=by simp [mIn];omega
 simp -implicitDefEqProofs only [go_sem,hin,zb,za]
 refine zU (fun m s=>∃j:Nat,2 ^ j<n∧m=n - 2 ^ j∧s=⟨14,[(0,vI n),(3,vI ((2 ^ j:Nat):Int))],[],1⟩) (n - 1) ?_ ?_
 ·simp -implicitDefEqProofs only [go_sem]
  exact ⟨0,by simp;omega,rfl,rfl⟩
 ·rintro m s ⟨j,hj,rfl,rfl⟩
  have e:2 ^ (j+1)=2 * 2 ^ j:=by rw [Nat.pow_succ];omega
  have hp:0<2 ^ j:=Nat.pow_pos (by omega)
  have hS:=fun h2=>zma (n:=n) (j:=j) hj h2
  generalize hq:2 ^ j=q at *
  have w1:IntKind.i64.wrap (2 * (q:Int))=((2 * q:Nat):Int):=by rw [wrS (by omega)];omega
  have w2:IntKind.i64.wrap ((q:Int) * 2)=((2 * q:Nat):Int):=by rw [wrS (by omega)];omega
  rcases Nat.lt_or_ge (2 * q) n with hlt | hge
  ·have hlt':((2 * q:Nat):Int)<(n:Int):=by omega
   simp -implicitDefEqProofs only [go_sem,w1,hlt',w2]
   exact ⟨_,by omega,j+1,by omega,rfl,by rw [e]⟩
  ·have hlt':¬((2 * q:Nat):Int)<(n:Int):=by omega
   simp -implicitDefEqProofs only [go_sem,w1,hlt']
   rw [hS (by omega)]
def qR (l:List ByteArray):BD:=
 match l with
 | []=>zG []
 | [a]=>zjV a
 | a::b::l=>zbQ (qR ((a::b::l).take (spl (l.length+2)))) (qR ((a::b::l).drop (spl (l.length+2))))
termination_by l.length
decreasing_by
 all_goals
  have:=xL (n:=l.length+2) (by omega)
  simp only [List.length_take,List.length_drop,List.length_cons]
  omega
theorem zlY (l:List ByteArray) (hl:l.length≤maxLen):CallR Tryz.prog 21 [.ro 1 (l.map zs)] (vB (zJ l)) []:=by
 refine zj zqX false Tryz.f21 ?_
 conv=>enter [1];reduce
 refine jvR Tryz.f21 19 [.tmp 2] (by kernel_rfl) (by decide +kernel) rfl ?_
 unfold zJ
 simp -implicitDefEqProofs only [go_sem]
 refine zi (fun h=>?_) (fun h=>?_)
 ·simp -implicitDefEqProofs only [go_sem,h]
  have:¬l.length≤256:=by have:=of_decide_eq_true h;omega
  simp
  omega
 ·have h256:l.length≤256:=by have:=of_decide_eq_false h;omega
  simp -implicitDefEqProofs only [go_sem,h]
  refine zU (fun m s=>∃i:Nat,i≤l.length∧m=l.length - i∧zq (l.drop i)=zq l∧s=⟨19,[(0,.ro 1 (l.map zs)),(3,vI i)],[],1⟩) l.length ?_ ?_
  ·simp -implicitDefEqProofs only [go_sem]
   exact ⟨0,Nat.zero_le _,rfl,rfl,rfl⟩
  ·rintro m s ⟨i,hi,rfl,hx,rfl⟩
   have h2:(l.length:Int)≤256:=by omega
   rcases Nat.lt_or_ge i l.length with hlt | hge
   ·have hlt':(i:Int)<(l.length:Int):=by omega
    have hg:l[i]?=some l[i]:=List.getElem?_eq_getElem hlt
    have hw:=zB hlt hl
    rw [qD hlt] at hx
    simp -implicitDefEqProofs only [go_sem,hlt',hg]
    refine zi (fun h=>?_) (fun h=>?_)
    ·simp -implicitDefEqProofs only [go_sem,h]
     have:¬l[i].size≤40:=by have:=of_decide_eq_true h;omega
     rw [←hx]
     simp [this]
    ·simp -implicitDefEqProofs only [go_sem,h,hw]
     have:l[i].size≤40:=by have:=of_decide_eq_false h;omega
     exact ⟨_,by omega,i+1,hlt,rfl,by rw [←hx];simp [this],rfl⟩
   ·have hi:i=l.length:=by omega
    subst hi
    have hlt':¬((l.length:Int)<(l.length:Int)):=by omega
    rw [List.drop_length] at hx
    simp -implicitDefEqProofs only [go_sem,hlt']
    rw [←hx]
    simp [zq]
    omega
theorem yV {l:List ByteArray} (h:zJ l=true):l.length≤256∧∀b∈l,b.size≤40:=by
 simp only [zJ,Bool.and_eq_true,decide_eq_true_eq,zq,List.all_eq_true] at h
 exact ⟨by omega,h.2⟩
theorem zju {l:List ByteArray} (h:2≤l.length):qR l=zbQ (qR (l.take (spl l.length))) (qR (l.drop (spl l.length))):=by
 match l,h with
 | a::b::l,_=>rw [qR];rfl
theorem z0:((0:Nat):Int)=0:=rfl
theorem z1:((1:Nat):Int)=1:=rfl
theorem zoj:∀(n:Nat) (l:List ByteArray),l.length≤n→l.length≤256→(∀b∈l,b.size≤1000)→CallR Tryz.prog 74 [.ro 1 (l.map zs)] (.agg (qR l).cs) []
 | 0,l,hn,h2,hb=>by
  have:l=[]:=List.eq_nil_of_length_eq_zero (by omega)
  subst this
  refine zj zqX false Tryz.f74 ?_
  conv=>enter [1];reduce
  refine jvR Tryz.f74 27 [.cell 2 25] (by kernel_rfl) (by decide +kernel) rfl ?_
  have h0:=zeX ⟨#[]⟩ (by decide)
  simp -implicitDefEqProofs only [go_sem,z0]
  refine Want.intro h0 ?_
  simp -implicitDefEqProofs only [go_sem,qR]
  try rfl
 | n+1,l,hn,h2,hb=>by
  refine zj zqX false Tryz.f74 ?_
  conv=>enter [1];reduce
  refine jvR Tryz.f74 27 [.cell 2 25] (by kernel_rfl) (by decide +kernel) rfl ?_
  match l,hn,h2,hb with
  | [],_,_,_=>
   have h0:=zeX ⟨#[]⟩ (by decide)
   simp -implicitDefEqProofs only [go_sem,z0]
   refine Want.intro h0 ?_
   simp -implicitDefEqProofs only [go_sem,qR]
   try rfl
  | [a],_,_,hb=>
   have ha:=hb a (by simp)
   simp -implicitDefEqProofs only [go_sem,z1]
   refine Want.intro (zrv a (by omega)) ?_
   simp -implicitDefEqProofs only [go_sem,qR]
  | a::b::l,hn,h2,hb=>
   obtain ⟨L,hL⟩:∃L,a::b::l=L:=⟨_,rfl⟩
   rw [hL] at hn h2 hb ⊢
   have h3:2≤L.length:=by rw [←hL];simp
   rw [zju h3]
   have hs:=xL h3
   have e0:((L.length:Int)==0)=false:=by rw [beq_eq_false_iff_ne];omega
   have e1:((L.length:Int)==1)=false:=by rw [beq_eq_false_iff_ne];omega
   have l1:(L.take (spl L.length)).length≤n∧(L.take (spl L.length)).length≤256:=by rw [List.length_take];omega
   have l2:(L.drop (spl L.length)).length≤n∧(L.drop (spl L.length)).length≤256:=by rw [List.length_drop];omega
   have hT:=zoj n (L.take (spl L.length)) l1.1 l1.2 (fun b h=>hb b (List.mem_of_mem_take h))
   have hD:=zoj n (L.drop (spl L.length)) l2.1 l2.2 (fun b h=>hb b (List.mem_of_mem_drop h))
   simp -implicitDefEqProofs only [go_sem,e0,e1,za]
   refine Want.intro (zg9 L.length h3 h2) ?_
   generalize spl L.length=k at *
   have k1:(0:Int)≤(k:Int)∧(k:Int)≤(L.length:Int):=by omega
   have k2:(k:Int)≤(L.length:Int)∧(L.length:Int)≤(L.length:Int):=by omega
   have k3:List.take (L.length - k) (List.drop k L)=List.drop k L:=List.take_of_length_le (by simp)
   simp -implicitDefEqProofs only [go_sem,k1,k2,k3,Nat.sub_zero,List.drop_zero]
   refine Want.intro hT ?_
   simp -implicitDefEqProofs only [go_sem]
   refine Want.intro hD ?_
   simp -implicitDefEqProofs only [go_sem]
   refine Want.intro (zko _ _) ?_
   simp -implicitDefEqProofs only [go_sem]
theorem zok (l:List ByteArray) (h:zJ l=true):CallR Tryz.prog 74 [.ro 1 (l.map zs)] (.agg (qR l).cs) []:=by
 obtain ⟨h1,h2⟩:=yV h
 exact zoj l.length l (Nat.le_refl _) h1 fun b hb=>by have:=h2 b hb;omega
end Go.Proofs.YtpjpkmhaffmbmaaGreat.E
end
section
namespace Go.Proofs.YtpjpkmhaffmbmaaGreat.E
open Go Go.RowKit
set_option maxHeartbeats 4000000
set_option maxRecDepth 10000
set_option linter.unusedSimpArgs false
set_option linter.unusedVariables false
set_option linter.unusedSectionVars false
def zod:Dec:=⟨[(39,.cm [true,false]),(90,.cm [true,false]),(91,.cm [true]),(96,.cm [true,false]),(149,.cm [true]),(164,.cm [false])],[9,10,11],[22,30,37,38,39,40,49,56,76,80,87,141,143,159,237,250,259],false⟩
def Dr.r2 (r:Dr):Sig:=[(1000000,0,one ⟨1,[[.ptr 1000001 0 [] 2 0 0]],0,false⟩),(1000001,0,one ⟨2,[r.cs],0,false⟩)]
abbrev vL:AV:=.ptr 1000000 0 [] 1 0 0
attribute [go_sem] Dr.r2
def zm1 (r:Dr) (res:AV) (σ:Sig):Prop:=∃(t:ByteArray) (r':Dr),(res=vS t∧σ=r'.r2)∧r'.ok (r.p+10)
theorem b109:(⟨#[109]⟩:ByteArray)=bA [109]:=rfl
theorem b108:(⟨#[108]⟩:ByteArray)=bA [108]:=rfl
theorem zru (r:Dr) (h:r.ok 700000000):∃res σ,zm1 r res σ∧zS Tryz.prog 149 r.r2 [vL] res σ:=by
 refine zj zod false Tryz.f149 ?_
 conv=>enter [1];reduce
 refine jvX Tryz.f149 15 [.tmp 2] (zm1 r) (by kernel_rfl) (by decide +kernel) (by kernel_rfl) rfl ?_
 have hp:=h.2
 have hb:=h.1
 have ok:∀i,i≤1000→(r.adv i).ok 1000000000:=fun i hi=>(h.adv i).le (by omega)
 simp -implicitDefEqProofs only [go_sem]
 refine WantM.intro (zZ 10 (ok 0 (by omega))) ?_
 simp -implicitDefEqProofs only [go_sem]
 refine zi (fun g=>?_) (fun g=>?_)
 ·simp -implicitDefEqProofs only [go_sem,g,b109]
  refine Want.intro (zkn [109] 40 (by omega) (by simp)) ?_
  simp -implicitDefEqProofs only [go_sem]
  refine RetAt.intro (vS (bA (rep [109] 40))) (r.adv 1).r2 ⟨bA (rep [109] 40),r.adv 1,⟨rfl,rfl⟩,hb,by show r.p+1≤_;omega⟩ ?_
  simp -implicitDefEqProofs only [go_sem]
 ·simp -implicitDefEqProofs only [go_sem,g]
  have ht:=zk4 (r.adv 1) 5 (h.adv 1) (by omega) (by omega)
  have hts:=zk4 (r.adv 1) 5 (a:=r.p+1) ⟨hb,Nat.le_refl _⟩ (by omega) (by omega)
  refine WantM.intro (zog (r.adv 1) 5 ((h.adv 1).le (by omega)) (by omega)) ?_
  simp -implicitDefEqProofs only [go_sem]
  refine RetAt.intro (vS (tx (r.adv 1) 5).1) (tx (r.adv 1) 5).2.r2 ⟨(tx (r.adv 1) 5).1,(tx (r.adv 1) 5).2,⟨rfl,rfl⟩,hts.1.le (by show r.p+1+1+5≤_;omega)⟩ ?_
  simp -implicitDefEqProofs only [go_sem]
def zm0 (r:Dr) (n:Nat) (res:AV) (σ:Sig):Prop:=∃(l:List ByteArray) (r':Dr),(res=.blk 0 0 [] 1 0 l.length∧σ=r'.r2++[(0,0,one ⟨1,l.map zs,2,false⟩)])∧l.length=n∧r'.ok (r.p+10 * n)
theorem zq7 (r:Dr) (n:Nat) (hn:n≤100) (h:r.ok 600000000):∃res σ,zm0 r n res σ∧zS Tryz.prog 90 r.r2 [vL,vI n] res σ:=by
 refine zj zod false Tryz.f90 ?_
 conv=>enter [1];reduce
 refine jvX Tryz.f90 19 [.tmp 4] (zm0 r n) (by kernel_rfl) (by decide +kernel) (by kernel_rfl) rfl ?_
 have hp:=h.2
 have hb:=h.1
 simp -implicitDefEqProofs only [go_sem]
 refine zU (fun m s=>∃(i:Nat) (l:List ByteArray) (R:Dr),i≤n∧l.length=i∧R.ok (r.p+10 * i)∧m=n - i∧s=⟨19,[(0,vL),(1,vI n),(5,.blk 5 0 [] 1 0 l.length),(6,vI i)],[(1000000,0,one ⟨1,[[.ptr 1000001 0 [] 2 0 0]],0,false⟩),(1000001,0,one ⟨2,[R.cs],0,false⟩),(5,0,one ⟨1,l.map zs,2,false⟩)],1⟩) n ?_ ?_
 ·simp -implicitDefEqProofs only [go_sem]
  exact ⟨0,[],r,Nat.zero_le _,rfl,⟨hb,Nat.le_refl _⟩,rfl,rfl⟩
 ·rintro m s ⟨i,l,R,hi,hl,hR,rfl,rfl⟩
  rcases Nat.lt_or_ge i n with hlt | hge
  ·have hlt':(i:Int)<(n:Int):=by omega
   have w4:IntKind.i64.wrap ((i:Int)+1)=((i+1:Nat):Int):=by rw [wrS (by omega)];omega
   have ha:∀x,_:=fun x=>zH (E:=zs) (l:=l) (xs:=[x]) (b:=16) (n:=1000) (by simp;omega) (by omega) (by omega)
   obtain ⟨res,σ,⟨t,r',⟨rfl,rfl⟩,hr'⟩,hcall⟩:=zru R (hR.le (by omega))
   have hr2:=hr'.2
   have hR2:=hR.2
   simp -implicitDefEqProofs only [go_sem,hlt']
   refine WantM.intro hcall ?_
   simp -implicitDefEqProofs only [go_sem,ha,w4]
   exact ⟨_,by omega,i+1,l++[t],r',hlt,by simp [hl],⟨hr'.1,by omega⟩,rfl,by simp [zs]⟩
  ·have hi:i=n:=by omega
   have hlt':¬((i:Int)<(n:Int)):=by omega
   simp -implicitDefEqProofs only [go_sem,hlt']
   refine RetAt.intro (.blk 0 0 [] 1 0 l.length) (R.r2++[(0,0,one ⟨1,l.map zs,2,false⟩)]) ⟨l,R,⟨rfl,rfl⟩,by omega,hR.le (by omega)⟩ ?_
   simp -implicitDefEqProofs only [go_sem]
def szT (r:Dr):Int:=if pk r 9=0 then pk r.nx 70 else pk r.nx 20
theorem zq6 (r:Dr) (h:r.ok 700000000):(0≤szT r∧szT r<70)∧zS Tryz.prog 91 r.r2 [vL] (vI (szT r)) (r.adv 2).r2:=by
 have ok:∀i,i≤1000→(r.adv i).ok 1000000000:=fun i hi=>(h.adv i).le (by omega)
 have q70:0≤pk r.nx 70∧pk r.nx 70<70:=zL (ok 1 (by omega)) (by omega)
 have q20:0≤pk r.nx 20∧pk r.nx 20<20:=zL (ok 1 (by omega)) (by omega)
 refine ⟨by unfold szT;split<;>omega,?_⟩
 refine zj zod false Tryz.f91 ?_
 conv=>enter [1];reduce
 refine jvM Tryz.f91 19 [.tmp 2] (by kernel_rfl) (by decide +kernel) rfl ?_
 simp -implicitDefEqProofs only [go_sem]
 refine WantM.intro (zZ 9 (ok 0 (by omega))) ?_
 simp -implicitDefEqProofs only [go_sem]
 refine zi (fun g=>?_) (fun g=>?_)
 ·have g':pk r 9=0:=by simpa using g
  simp -implicitDefEqProofs only [go_sem,g]
  refine WantM.intro (zZ 70 (ok 1 (by omega))) ?_
  simp -implicitDefEqProofs only [go_sem,szT,g']
  rfl
 ·have g':¬pk r 9=0:=by simpa using g
  simp -implicitDefEqProofs only [go_sem,g]
  refine WantM.intro (zZ 20 (ok 1 (by omega))) ?_
  simp -implicitDefEqProofs only [go_sem,szT,g']
  rfl
theorem zrw (n:Nat) (hn:n≤1000):CallR Tryz.prog 130 [vI n] (.blk 0 0 [] 1 0 (List.replicate n (⟨#[]⟩:ByteArray)).length) [([],⟨1,(List.replicate n (⟨#[]⟩:ByteArray)).map zs,2,false⟩)]:=by
 refine zj zod false Tryz.f130 ?_
 conv=>enter [1];reduce
 refine jvR Tryz.f130 15 [.tmp 2] (by kernel_rfl) (by decide +kernel) rfl ?_
 simp -implicitDefEqProofs only [go_sem]
 refine zU (fun m z=>∃i:Nat,i≤n∧m=n - i∧z=⟨15,[(0,vI n),(3,.blk 3 0 [] 1 0 (List.replicate i (⟨#[]⟩:ByteArray)).length),(4,vI i)],[(3,0,one ⟨1,(List.replicate i (⟨#[]⟩:ByteArray)).map zs,2,false⟩)],1⟩) n ?_ ?_
 ·simp -implicitDefEqProofs only [go_sem]
  exact ⟨0,Nat.zero_le _,rfl,rfl⟩
 ·rintro m z ⟨i,hi,rfl,rfl⟩
  have hs:List.replicate (i+1) (⟨#[]⟩:ByteArray)=List.replicate i ⟨#[]⟩++[⟨#[]⟩]:=List.replicate_succ'
  obtain ⟨X,hX0⟩:∃X,List.replicate i (⟨#[]⟩:ByteArray)=X:=⟨_,rfl⟩
  have hX:X.length=i:=by rw [←hX0];exact List.length_replicate
  rw [hX0] at hs ⊢
  rcases Nat.lt_or_ge i n with hlt | hge
  ·have hlt':(i:Int)<(n:Int):=by omega
   have w4:IntKind.i64.wrap ((i:Int)+1)=((i+1:Nat):Int):=by rw [wrS (by omega)];omega
   have ha:∀x,_:=fun x=>zH (E:=zs) (l:=X) (xs:=[x]) (b:=16) (n:=10000000) (by simp;omega) (by omega) (by omega)
   simp -implicitDefEqProofs only [go_sem,hlt',w4,ha]
   exact ⟨_,by omega,i+1,hlt,rfl,by rw [hs];simp [zs]⟩
  ·have hi:i=n:=by omega
   have hlt':¬((i:Int)<(n:Int)):=by omega
   subst hi
   simp -implicitDefEqProofs only [go_sem,hlt']
   rw [hX0]
   exact ⟨rfl,rfl⟩
theorem zrx (l:List UInt8) (hl:l.length≤maxLen):zS Tryz.prog 129 [] [.ro 1 (l.map zt)] (.ptr 0 0 [] 1 0 0) [(0,0,one ⟨1,[[.ptr 1 0 [] 2 0 0]],0,false⟩),(1,0,one ⟨2,[(Dr.mk (l.take 2000) 0).cs],0,false⟩)]:=by
 refine zj zod false Tryz.f129 ?_
 conv=>enter [1];reduce
 refine jvM Tryz.f129 7 [.tmp 2] (by kernel_rfl) (by decide +kernel) rfl ?_
 simp -implicitDefEqProofs only [go_sem]
 refine WantM.intro (zrn l hl) ?_
 simp -implicitDefEqProofs only [go_sem]
def zmZ (res:AV) (σ:Sig) (r:Dr):Prop:=∃(l:List ByteArray) (r':Dr),(res=.blk 0 0 [] 1 0 l.length∧σ=r'.r2++[(0,0,one ⟨1,l.map zs,2,false⟩)])∧l.length≤300∧r'.ok (r.p+1000)
theorem c73_c (r:Dr) (h:r.ok 500000000):∃res σ,zmZ res σ r∧zS Tryz.prog 73 r.r2 [vL] res σ:=by
 refine zj zod true Tryz.f73 ?_
 conv=>enter [1];reduce
 refine jvX Tryz.f73 30 [.tmp 2] (fun res σ=>zmZ res σ r) (by kernel_rfl) (by decide +kernel) (by kernel_rfl) rfl ?_
 have hp:=h.2
 have hb:=h.1
 have ok:∀i,i≤1000→(r.adv i).ok 1000000000:=fun i hi=>(h.adv i).le (by omega)
 simp -implicitDefEqProofs only [go_sem]
 refine WantM.intro (zZ 24 (ok 0 (by omega))) ?_
 generalize pk r 24=k
 simp -implicitDefEqProofs only [go_sem]
 refine zi (fun g=>?_) (fun g=>?_)
 ·simp -implicitDefEqProofs only [go_sem,g]
  have q2:=zL (ok 1 (by omega)) (n:=2) (by omega)
  obtain ⟨v,hv⟩:∃v:Nat,pk (r.adv 1) 2=v:=⟨(pk (r.adv 1) 2).toNat,by omega⟩
  have w1:IntKind.i64.wrap (256+(v:Int))=((256+v:Nat):Int):=by rw [wrS (by omega)];omega
  refine WantM.intro (zZ 2 (ok 1 (by omega))) ?_
  simp -implicitDefEqProofs only [go_sem,hv,w1]
  refine Want.intro (zrw (256+v) (by omega)) ?_
  generalize hX:List.replicate (256+v) (⟨#[]⟩:ByteArray)=X
  have hXl:X.length=256+v:=by rw [←hX];exact List.length_replicate
  simp -implicitDefEqProofs only [go_sem]
  refine RetAt.intro (.blk 0 0 [] 1 0 X.length) ((r.adv 2).r2++[(0,0,one ⟨1,X.map zs,2,false⟩)]) ⟨X,r.adv 2,⟨rfl,rfl⟩,by omega,hb,by show r.p+2≤_;omega⟩ ?_
  simp -implicitDefEqProofs only [go_sem]
 ·simp -implicitDefEqProofs only [go_sem,g]
  obtain ⟨hz,hcs⟩:=zq6 (r.adv 1) ((h.adv 1).le (by omega))
  refine WantM.intro hcs ?_
  obtain ⟨n,hn⟩:∃n:Nat,szT (r.adv 1)=n:=⟨(szT (r.adv 1)).toNat,by omega⟩
  rw [hn] at hz ⊢
  simp -implicitDefEqProofs only [go_sem]
  obtain ⟨res,σ,⟨l,r',⟨rfl,rfl⟩,hl,hr'⟩,hcall⟩:=zq7 (r.adv 3) n (by omega) ((h.adv 3).le (by omega))
  have hr2:=hr'.2
  have hap:(r.adv 3).p=r.p+3:=rfl
  refine WantM.intro hcall ?_
  have ha:∀x,_:=fun x=>zH (E:=zs) (l:=l) (xs:=[x]) (b:=16) (n:=1000) (by simp;omega) (by omega) (by omega)
  simp -implicitDefEqProofs only [go_sem]
  refine zX [4] [] (fun s=>∃(l:List ByteArray) (R:Dr),l.length≤300∧R.ok (r.p+1000)∧s=⟨30,[(4,.blk 4 0 [] 1 0 l.length)],[(1000000,0,one ⟨1,[[.ptr 1000001 0 [] 2 0 0]],0,false⟩),(1000001,0,one ⟨2,[R.cs],0,false⟩),(4,0,one ⟨1,l.map zs,2,false⟩)],1⟩) ?_ ?_
  ·simp -implicitDefEqProofs only [go_sem]
   refine zi (fun g=>?_) (fun g=>?_)
   ·simp -implicitDefEqProofs only [go_sem,g,b108]
    refine Want.intro (zkn [108] 41 (by omega) (by simp)) ?_
    simp -implicitDefEqProofs only [go_sem,ha]
    exact ⟨l++[bA (rep [108] 41)],r',by simp;omega,⟨hr'.1,by omega⟩,by simp [zs]⟩
   ·simp -implicitDefEqProofs only [go_sem,g]
    exact ⟨l,r',by omega,⟨hr'.1,by omega⟩,rfl⟩
  ·rintro s ⟨l,R,hl,hR,rfl⟩
   simp -implicitDefEqProofs only [go_sem]
   refine RetAt.intro (.blk 0 0 [] 1 0 l.length) (R.r2++[(0,0,one ⟨1,l.map zs,2,false⟩)]) ⟨l,R,⟨rfl,rfl⟩,hl,hR⟩ ?_
   simp -implicitDefEqProofs only [go_sem]
def PostTP (res:AV) (σ:Sig):Prop:=∃(l:List ByteArray),(res=.blk 0 0 [] 1 0 l.length∧σ=[(0,0,one ⟨1,l.map zs,2,false⟩)])∧l.length≤300
theorem c22_c (l:List ByteArray) (h:zJ l=true):CallR Tryz.prog 22 [.ro 1 (l.map zs)] (.agg (vI l.length::(qR l).cs)) []:=by
 refine zj zod false Tryz.f22 ?_
 conv=>enter [1];reduce
 refine jvR Tryz.f22 12 [.cell 2 47] (by kernel_rfl) (by decide +kernel) rfl ?_
 have hl:=(yV h).1
 simp -implicitDefEqProofs only [go_sem]
 refine Want.intro (zlY l (by unfold maxLen;omega)) ?_
 simp -implicitDefEqProofs only [go_sem,h,Bool.not_true,za]
 refine Want.intro (zok l h) ?_
 simp -implicitDefEqProofs only [go_sem]
end Go.Proofs.YtpjpkmhaffmbmaaGreat.E
end
section
namespace Go.Proofs.YtpjpkmhaffmbmaaGreat.E
open Go Go.RowKit
set_option maxHeartbeats 4000000
set_option maxRecDepth 10000
set_option linter.unusedSimpArgs false
set_option linter.unusedVariables false
set_option linter.unusedSectionVars false
def dcF1:Dec:=⟨[],[9,10,11],[22,30,37,38,39,40,49,56,76,80,87,141,143,159,237,250,259],false⟩
structure MPt where
 size:Int
 root:MDig
def MPt.zero:MPt:=⟨0,⟨0,0,0,0⟩⟩
def MPt.cs (p:MPt):List AV:=[vI p.size,vU p.root.a,vU p.root.b,vU p.root.c,vU p.root.d]
structure MLet where
 from_:Int
 to_:Int
 text:ByteArray
def MLet.cs (l:MLet):List AV:=[vI l.from_,vI l.to_,vS l.text]
structure MCl where
 need:Int
 many:Int
 session:Int
 phase:Int
 goal:MPt
 acks:List Int
 pin:MPt
def intC (n:Int):List AV:=[vI n]
def MCl.cs (c:MCl) (a:AV):List AV:=[vI c.need,vI c.many,vI c.session,vI c.phase,vI c.goal.size,vU c.goal.root.a,vU c.goal.root.b,vU c.goal.root.c,vU c.goal.root.d,a,vI c.pin.size,vU c.pin.root.a,vU c.pin.root.b,vU c.pin.root.c,vU c.pin.root.d]
def MCl.ro (c:MCl):AV:=.agg (c.cs (.ro 1 (c.acks.map intC)))
attribute [go_sem] MPt.cs MLet.cs MCl.cs MCl.ro intC
def qm (l:MLet):Bool:=mIn l.from_ 0 20&&(mIn l.to_ 0 20&&decide ((l.text.size:Int)≤600))
def yR (a b:MPt):Bool:=a.size==b.size&&(((a.root.a:Int)==b.root.a)&&(((a.root.b:Int)==b.root.b)&&(((a.root.c:Int)==b.root.c)&&((a.root.d:Int)==b.root.d))))
def zqb (p:MPt):Bool:=mIn p.size 1 256||yR p .zero
theorem zrB (l:MLet):CallR Tryz.prog 11 [.agg l.cs] (vB (qm l)) []:=by
 refine zj dcF1 false Tryz.f11 ?_
 conv=>enter [1];reduce
 refine jvR Tryz.f11 17 [.tmp 2] (by kernel_rfl) (by decide +kernel) rfl ?_
 simp -implicitDefEqProofs only [go_sem]
 repeat' first | (refine Want.intro (by first | exact zao _ _ _) ?_;try simp -implicitDefEqProofs only [go_sem]) | (refine WantM.intro (by first | exact zao _ _ _) ?_;try simp -implicitDefEqProofs only [go_sem]) | (refine zm (fun h=>?_) (fun h=>?_)<;>try simp -implicitDefEqProofs only [go_sem,h]) | (refine zi (fun h=>?_) (fun h=>?_)<;>try simp -implicitDefEqProofs only [go_sem,h])
 all_goals simp_all [qm]
theorem c41_c (l:MLet):CallR Tryz.prog 41 [.agg l.cs] (vB (qm l)) []:=by
 refine zj dcF1 false Tryz.f41 ?_
 conv=>enter [1];reduce
 refine jvR Tryz.f41 17 [.tmp 2] (by kernel_rfl) (by decide +kernel) rfl ?_
 simp -implicitDefEqProofs only [go_sem]
 repeat' first | (refine Want.intro (by first | exact qq _ _ _) ?_;try simp -implicitDefEqProofs only [go_sem]) | (refine WantM.intro (by first | exact qq _ _ _) ?_;try simp -implicitDefEqProofs only [go_sem]) | (refine zm (fun h=>?_) (fun h=>?_)<;>try simp -implicitDefEqProofs only [go_sem,h]) | (refine zi (fun h=>?_) (fun h=>?_)<;>try simp -implicitDefEqProofs only [go_sem,h])
 all_goals simp_all [qm]
def zgn (many:Int) (l:List Int) (i:Nat):Bool:=mIn (l.getD i 0) 1 many&&(i==0||decide (l.getD (i - 1) 0<l.getD i 0))
def zdc (many:Int) (l:List Int):Bool:=(List.range l.length).all (zgn many l)
def zjB (c:MCl):Bool:=
 mIn c.many 1 7&&(mIn c.need 1 c.many&&(decide (c.many<2 * c.need)&&(mIn c.session 0 1000000&&(zqb c.pin&&(if c.phase=0∨c.phase=1 then yR c.goal .zero&&(c.acks.length==0&&decide (c.phase≤c.session)) else decide (c.phase=2)&&(decide (1≤c.session)&&(mIn c.goal.size (c.pin.size+1) 256&&(decide ((c.acks.length:Int)<c.need)&&zdc c.many c.acks))))))))
theorem mIn_iff {a b c:Int}:mIn a b c=true↔b≤a∧a≤c:=by simp [mIn]
theorem mPin_wr {p:MPt} (h:zqb p=true):IntKind.i64.wrap (p.size+1)=p.size+1∧0≤p.size∧p.size≤256:=by
 have:0≤p.size∧p.size≤256:=by
  simp only [zqb,Bool.or_eq_true,mIn_iff] at h
  rcases h with h | h
  ·omega
  ·simp only [yR,MPt.zero,Bool.and_eq_true,beq_iff_eq] at h
   omega
 exact ⟨wrS (by omega),this⟩
theorem ok_low {c:MCl} (h:¬((mIn c.many 1 7=true∧mIn c.need 1 c.many=true)∧zqb c.pin=true)):zjB c=false:=by
 cases h':zjB c with
 | false=>rfl
 | true=>
  simp only [zjB,Bool.and_eq_true] at h'
  exact absurd ⟨⟨h'.1,h'.2.1⟩,h'.2.2.2.2.1⟩ h
theorem acks_all {many:Int} {l:List Int}:zdc many l=true↔∀i,i<l.length→zgn many l i=true:=by simp [zdc,List.all_eq_true]
theorem zpy {many:Int} {l:List Int} (h:0<l.length):zgn many l 0=mIn l[0] 1 many:=by simp [zgn,h]
theorem zpz {many:Int} {l:List Int} {i:Nat} (h:i+1<l.length):zgn many l (i+1)=(mIn l[i+1] 1 many&&decide (l[i]<l[i+1])):=by simp [zgn,h,show i<l.length by omega]
theorem acks_bad {many:Int} {l:List Int} {i:Nat} (h:i<l.length) (hb:zgn many l i=false):zdc many l=false:=by
 cases h':zdc many l with
 | false=>rfl
 | true=>rw [acks_all.1 h' i h] at hb;cases hb
theorem ok_two {c:MCl} (h1:mIn c.many 1 7=true) (h2:mIn c.need 1 c.many=true) (h3:c.many<2 * c.need) (h4:mIn c.session 0 1000000=true) (h5:zqb c.pin=true) (h6:c.phase=2):zjB c=(decide (1≤c.session)&&(mIn c.goal.size (c.pin.size+1) 256&&(decide ((c.acks.length:Int)<c.need)&&zdc c.many c.acks))):=by
 simp [zjB,h1,h2,h3,h4,h5,h6]
end Go.Proofs.YtpjpkmhaffmbmaaGreat.E
end
section
namespace Go.Proofs.YtpjpkmhaffmbmaaGreat.E
open Go Go.RowKit
set_option maxHeartbeats 4000000
set_option maxRecDepth 10000
set_option linter.unusedSimpArgs false
set_option linter.unusedVariables false
set_option linter.unusedSectionVars false
def dcM4:Dec:=⟨[],[9,10,11],[22,30,37,38,39,40,49,56,76,80,87,141,143,159,237,250,259],false⟩
def Dr.r3 (r:Dr):Sig:=[(1000000,0,one ⟨1,[[.ptr 1000001 0 [] 1 0 0]],0,false⟩),(1000001,0,one ⟨1,[[.ptr 1000002 0 [] 2 0 0]],0,false⟩),(1000002,0,one ⟨2,[r.cs],0,false⟩)]
attribute [go_sem] Dr.r3
def tPt (l:List ByteArray):MPt:=if zJ l then ⟨l.length,(qR l).dig⟩ else .zero
theorem zgw (l:List ByteArray):(tPt l).root.ok∧(0≤(tPt l).size∧(tPt l).size≤(l.length:Int)):=by
 unfold tPt
 split
 ·exact ⟨(qR l).dig_ok,Int.natCast_nonneg _,Int.le_refl _⟩
 ·exact ⟨yw,Int.le_refl _,Int.natCast_nonneg _⟩
theorem ziA (l:List ByteArray) (hl:l.length≤maxLen):CallR Tryz.prog 22 [.ro 1 (l.map zs)] (.agg (tPt l).cs) []:=by
 unfold tPt
 cases h:zJ l with
 | true=>exact c22_c l h
 | false=>
  refine zj dcM4 false Tryz.f22 ?_
  conv=>enter [1];reduce
  refine jvR Tryz.f22 12 [.cell 2 47] (by kernel_rfl) (by decide +kernel) rfl ?_
  simp -implicitDefEqProofs only [go_sem]
  refine Want.intro (zlY l hl) ?_
  simp -implicitDefEqProofs only [go_sem,h,Bool.not_false,zb]
  rfl
end Go.Proofs.YtpjpkmhaffmbmaaGreat.E
end
section
namespace Go.Proofs.YtpjpkmhaffmbmaaGreat.E
open Go Go.RowKit
set_option linter.unusedVariables false
theorem ziy {α:Type} {l:List α} {i:Nat} (h:i<l.length):l.take (i+1)=l.take i++[l[i]]:=List.take_succ_eq_append_getElem h
theorem zdv {l:List ByteArray} (h:zJ l=true) (n:Nat):zJ (l.take n)=true:=by
 obtain ⟨h1,h2⟩:=yV h
 simp only [zJ,Bool.and_eq_true,decide_eq_true_eq,zq,List.all_eq_true,List.length_take]
 exact ⟨by omega,fun b hb=>h2 b (List.mem_of_mem_take hb)⟩
def zah (n:Nat):Nat:=2 ^ n.log2
theorem zjU {n j:Nat} (h1:2 ^ j≤n) (h2:n<2 * 2 ^ j):zah n=2 ^ j:=by
 have:0<2 ^ j:=Nat.pow_pos (by omega)
 unfold zah
 rw [(Nat.log2_eq_iff (k:=j) (by omega)).2 ⟨h1,by rw [Nat.pow_succ];omega⟩]
theorem zag {n:Nat} (h:1≤n):1≤zah n∧zah n≤n∧n<2 * zah n:=by
 have h1:n≠0:=by omega
 have:=(Nat.log2_eq_iff (k:=n.log2) h1).1 rfl
 have h3:0<2 ^ n.log2:=Nat.pow_pos (by omega)
 unfold zah
 rw [Nat.pow_succ] at this
 omega
theorem zl9 {n:Nat} (h:2≤n):n≤2 * spl n:=by
 have h1:n - 1≠0:=by omega
 have:=(Nat.log2_eq_iff (k:=(n - 1).log2) h1).1 rfl
 unfold spl
 rw [Nat.pow_succ] at this
 omega
abbrev Nd:=Nat × Nat
def gN (m:Nat):Nat→Nat→Nat→List Nd × List Nd
 | 0,_,_=>([],[])
 | k+1,lo,hi=>
  if hi≤m then ([(lo,hi)],[])
  else if m≤lo then ([],[(lo,hi)])
  else ((gN m k lo (lo+spl (hi - lo))).1++(gN m k (lo+spl (hi - lo)) hi).1,(gN m k lo (lo+spl (hi - lo))).2++(gN m k (lo+spl (hi - lo)) hi).2)
theorem qn {m k lo hi:Nat} (h:hi≤m):gN m (k+1) lo hi=([(lo,hi)],[]):=by rw [gN,if_pos h]
theorem xM {m k lo hi:Nat} (h1:¬hi≤m) (h:m≤lo):gN m (k+1) lo hi=([],[(lo,hi)]):=by rw [gN,if_neg h1,if_pos h]
theorem qo {m k lo hi:Nat} (h1:¬hi≤m) (h:¬m≤lo):gN m (k+1) lo hi=((gN m k lo (lo+spl (hi - lo))).1++(gN m k (lo+spl (hi - lo)) hi).1,(gN m k lo (lo+spl (hi - lo))).2++(gN m k (lo+spl (hi - lo)) hi).2):=by rw [gN,if_neg h1,if_neg h]
theorem zf0 {m:Nat}:∀(k lo hi:Nat),lo<hi→hi - lo≤k→∀x,x∈(gN m k lo hi).1∨x∈(gN m k lo hi).2→lo≤x.1∧x.1<x.2∧x.2≤hi
 | 0,lo,hi,h,hk,x,hx=>by omega
 | k+1,lo,hi,h,hk,x,hx=>by
  by_cases h1:hi≤m
  ·rw [qn h1] at hx
   simp at hx
   subst hx
   exact ⟨Nat.le_refl _,h,Nat.le_refl _⟩
  ·by_cases h2:m≤lo
   ·rw [xM h1 h2] at hx
    simp at hx
    subst hx
    exact ⟨Nat.le_refl _,h,Nat.le_refl _⟩
   ·rw [qo h1 h2] at hx
    have hs:=xL (n:=hi - lo) (by omega)
    have a:=zf0 (m:=m) k lo (lo+spl (hi - lo)) (by omega) (by omega) x
    have b:=zf0 (m:=m) k (lo+spl (hi - lo)) hi (by omega) (by omega) x
    simp only [List.mem_append] at hx
    rcases hx with (hx | hx) | (hx | hx)
    ·have:=a (.inl hx);omega
    ·have:=b (.inl hx);omega
    ·have:=a (.inr hx);omega
    ·have:=b (.inr hx);omega
theorem qP {m:Nat}:∀(k lo hi:Nat),lo<hi→hi - lo≤k→(gN m k lo hi).1.length≤hi - lo∧(gN m k lo hi).2.length≤hi - lo
 | 0,lo,hi,h,hk=>by omega
 | k+1,lo,hi,h,hk=>by
  by_cases h1:hi≤m
  ·rw [qn h1];simp;omega
  ·by_cases h2:m≤lo
   ·rw [xM h1 h2];simp;omega
   ·rw [qo h1 h2]
    have hs:=xL (n:=hi - lo) (by omega)
    have a:=qP (m:=m) k lo (lo+spl (hi - lo)) (by omega) (by omega)
    have b:=qP (m:=m) k (lo+spl (hi - lo)) hi (by omega) (by omega)
    simp only [List.length_append]
    omega
theorem zfZ {m:Nat}:∀(d k lo hi:Nat),lo<m→m<hi→hi - lo≤k→hi - lo≤2 ^ d→(gN m k lo hi).1.length+(gN m k lo hi).2.length≤2 * d
 | d,0,lo,hi,h1,h2,hk,hd=>by omega
 | 0,k+1,lo,hi,h1,h2,hk,hd=>by simp at hd;omega
 | d+1,k+1,lo,hi,h1,h2,hk,hd=>by
  rw [qo (by omega) (by omega)]
  have hs:=xL (n:=hi - lo) (by omega)
  have hu:=zl9 (n:=hi - lo) (by omega)
  have hp:spl (hi - lo)≤2 ^ d:=by
   have e:spl (hi - lo)=2 ^ (hi - lo - 1).log2:=rfl
   rw [e]
   refine Nat.pow_le_pow_right (by omega) ?_
   have:=(Nat.log2_lt (n:=hi - lo - 1) (k:=d+1) (by omega)).2 (by omega)
   omega
  have hk1:∀k lo hi,lo<hi→hi - lo≤k→(hi≤m∨m≤lo)→(gN m k lo hi).1.length+(gN m k lo hi).2.length=1:=by
   intro k lo hi hl hk hc
   cases k with
   | zero=>omega
   | succ k=>
    by_cases h:hi≤m
    ·rw [qn h];rfl
    ·rw [xM h (by omega)];rfl
  simp only [List.length_append]
  by_cases hm:m<lo+spl (hi - lo)
  ·have a:=zfZ d k lo (lo+spl (hi - lo)) h1 hm (by omega) (by omega)
   have b:=hk1 k (lo+spl (hi - lo)) hi (by omega) (by omega) (.inr (by omega))
   omega
  ·have a:=hk1 k lo (lo+spl (hi - lo)) (by omega) (by omega) (.inl (by omega))
   by_cases he:m=lo+spl (hi - lo)
   ·have b:=hk1 k (lo+spl (hi - lo)) hi (by omega) (by omega) (.inr (by omega))
    omega
   ·have b:=zfZ d k (lo+spl (hi - lo)) hi (by omega) h2 (by omega) (by omega)
    omega
def pks:Nat→Nat→Nat→List Nd
 | 0,_,_=>[]
 | k+1,lo,m=>if lo<m then (lo,lo+zah (m - lo))::pks k (lo+zah (m - lo)) m else []
theorem qY {k lo m:Nat} (h:m≤lo):pks k lo m=[]:=by
 cases k with
 | zero=>rfl
 | succ k=>rw [pks,if_neg (by omega)]
theorem zeL {m:Nat}:∀(k j lo hi:Nat),lo<m→m<hi→hi - lo≤k→m - lo≤j→(gN m k lo hi).1=pks j lo m
 | 0,j,lo,hi,h1,h2,hk,hj=>by omega
 | k+1,0,lo,hi,h1,h2,hk,hj=>by omega
 | k+1,j+1,lo,hi,h1,h2,hk,hj=>by
  rw [qo (by omega) (by omega)]
  have hs:=xL (n:=hi - lo) (by omega)
  have hu:=zl9 (n:=hi - lo) (by omega)
  obtain ⟨e,he⟩:∃e,spl (hi - lo)=2 ^ e:=⟨_,rfl⟩
  by_cases hm:m<lo+spl (hi - lo)
  ·rw [zeL k (j+1) lo (lo+spl (hi - lo)) h1 hm (by omega) hj]
   cases k with
   | zero=>omega
   | succ k=>rw [xM (by omega) (by omega)];simp
  ·have hh:zah (m - lo)=spl (hi - lo):=by
    have hu':=hu
    have hm':=hm
    rw [he] at hu' hm' ⊢
    exact zjU (by omega) (by omega)
   rw [pks,if_pos h1,hh]
   cases k with
   | zero=>omega
   | succ k=>
    rw [qn (m:=m) (lo:=lo) (by omega)]
    by_cases heq:m=lo+spl (hi - lo)
    ·rw [xM (by omega) (by omega),qY (by omega)]
     rfl
    ·rw [zeL (k+1) j (lo+spl (hi - lo)) hi (by omega) h2 (by omega) (by omega)]
     rfl
def jn:Nat→Nat→Nat
 | 0,_=>0
 | k+1,n=>n%2+jn k (n/2)
theorem qW:∀k,jn k 0=0
 | 0=>rfl
 | k+1=>by rw [jn,qW k]
theorem zgF:∀(j k r:Nat),r<2 ^ j→j<k→jn k (2 ^ j+r)=1+jn k r
 | j,0,r,h,hk=>by omega
 | 0,k+1,r,h,hk=>by
  have:r=0:=by simp at h;omega
  subst this
  simp [jn,qW]
 | j+1,k+1,r,h,hk=>by
  rw [Nat.pow_succ] at h ⊢
  rw [jn,jn,show (2 ^ j * 2+r)%2=r%2 by omega,show (2 ^ j * 2+r)/2=2 ^ j+r/2 by omega,zgF j k (r/2) (by omega) (by omega)]
  omega
theorem zgG:∀(j lo m k:Nat),m - lo≤j→m - lo<2 ^ k→(pks j lo m).length=jn k (m - lo)
 | 0,lo,m,k,h,hk=>by rw [show m - lo=0 by omega,qW];rfl
 | j+1,lo,m,k,h,hk=>by
  by_cases h1:lo<m
  ·have hb:=zag (n:=m - lo) (by omega)
   obtain ⟨e,he⟩:∃e,zah (m - lo)=2 ^ e:=⟨_,rfl⟩
   rw [pks,if_pos h1,List.length_cons,zgG j (lo+zah (m - lo)) m k (by omega) (by omega)]
   rw [he] at hb ⊢
   have hek:e<k:=(Nat.pow_lt_pow_iff_right (a:=2) (by omega)).1 (by omega)
   have e2:jn k (m - lo)=1+jn k (m - lo - 2 ^ e):=by
    have:=zgF e k (m - lo - 2 ^ e) (by omega) hek
    rw [show 2 ^ e+(m - lo - 2 ^ e)=m - lo by omega] at this
    exact this
   rw [e2,show m - (lo+2 ^ e)=m - lo - 2 ^ e by omega]
   omega
  ·rw [show m - lo=0 by omega,qW,qY (by omega)]
   rfl
end Go.Proofs.YtpjpkmhaffmbmaaGreat.E
end
section
namespace Go.Proofs.YtpjpkmhaffmbmaaGreat.E
open Go Go.RowKit
set_option maxHeartbeats 4000000
set_option maxRecDepth 10000
set_option linter.unusedSimpArgs false
set_option linter.unusedVariables false
set_option linter.unusedSectionVars false
def zpu:Dec:=⟨[(185,.cm [false,false]),(200,.cm [false,false,true,true])],[9,10,11],[22,30,37,38,39,40,49,56,76,80,87,141,143,159,237,250,259],false⟩
def nC (x:Nd):List AV:=[vI x.1,vI x.2]
def zoS (l:List Nd):Row:=⟨2,l.map nC,2,false⟩
attribute [go_sem] zoS
theorem znC (l:List Nd):xT 2 (l.map nC)=true:=by
 induction l with
 | nil=>rfl
 | cons a l ih=>simp only [List.map_cons,xT,ih,nC];rfl
theorem znD (l:List Nd):flL (l.map nC)=2:=by
 induction l with
 | nil=>rfl
 | cons a l ih=>simp only [List.map_cons,flL,ih,nC];rfl
attribute [go_sem] znC znD
def jS (m n:Int):Bool:=mIn n 0 256&&mIn m 0 n
theorem zmK (m n:Int):CallR Tryz.prog 154 [vI m,vI n] (vB (jS m n)) []:=by
 refine zj zpu false Tryz.f154 ?_
 conv=>enter [1];reduce
 refine jvR Tryz.f154 12 [.tmp 4] (by kernel_rfl) (by decide +kernel) rfl ?_
 unfold jS
 simp -implicitDefEqProofs only [go_sem]
 refine Want.intro (qq _ _ _) ?_
 cases h:mIn n 0 256 with
 | false=>simp -implicitDefEqProofs only [go_sem,ze,zf,zg,zc,zb,za,Bool.false_and]
 | true=>
  simp -implicitDefEqProofs only [go_sem,ze,zf,zg,zc,zb,za,Bool.true_and]
  refine Want.intro (qq _ _ _) ?_
  simp -implicitDefEqProofs only [go_sem]
theorem zkl (lo hi:Nat) (h:lo+2≤hi) (h2:hi≤256):CallR Tryz.prog 179 [.agg [vI lo,vI hi]] (.tup [.agg [vI lo,vI ((lo+spl (hi - lo):Nat):Int)],.agg [vI ((lo+spl (hi - lo):Nat):Int),vI hi]]) []:=by
 refine zj zpu false Tryz.f179 ?_
 conv=>enter [1];reduce
 refine jvR Tryz.f179 22 [.cell 2 223,.cell 3 223] (by kernel_rfl) (by decide +kernel) rfl ?_
 have hs:=xL (n:=hi - lo) (by omega)
 have w1:IntKind.i64.wrap ((hi:Int) - (lo:Int))=((hi - lo:Nat):Int):=by rw [wrS (by omega)];omega
 have w2:IntKind.i64.wrap ((lo:Int)+((spl (hi - lo):Nat):Int))=((lo+spl (hi - lo):Nat):Int):=by rw [wrS (by omega)];omega
 simp -implicitDefEqProofs only [go_sem,w1]
 refine Want.intro (zri (hi - lo) (by omega) (by omega)) ?_
 simp -implicitDefEqProofs only [go_sem,w2]
def nRR (a b:List Nd):Sig:=[(1000000,0,one (zoS a)),(1000001,0,one (zoS b))]
def nNN (a b:List Nd):Sig:=[(0,0,one (zoS a)),(1,0,one (zoS b))]
attribute [go_sem] nRR nNN
theorem zms (l:List Nd) (h:l.length≤100000):∀x,(l.map nC++[x]).length≤maxLen∧(l.map nC++[x]).length * 16≤140737488355328:=fun x=>zH (E:=nC) (l:=l) (xs:=[x]) (b:=16) (n:=1000000) (by simp;omega) (by omega) (by omega)
theorem zf5 (m:Nat):∀(k lo hi:Nat) (a b:List Nd),lo<hi→hi≤256→hi - lo≤k→a.length+(hi - lo)≤10000→b.length+(hi - lo)≤10000→zS Tryz.prog 200 (nRR a b) [.agg [vI lo,vI hi],vI m,.blk 1000000 0 [] 2 0 a.length,.blk 1000001 0 [] 2 0 b.length]
  (.tup [.blk 0 0 [] 2 0 (a++(gN m k lo hi).1).length,.blk 1 0 [] 2 0 (b++(gN m k lo hi).2).length]) (nNN (a++(gN m k lo hi).1) (b++(gN m k lo hi).2))
 | 0,lo,hi,a,b,h,h2,hk,ha,hb=>by omega
 | k+1,lo,hi,a,b,h,h2,hk,ha,hb=>by
  have hA:=zms a (by omega)
  have hB:=zms b (by omega)
  refine zj zpu false Tryz.f200 ?_
  conv=>enter [1];reduce
  refine jvM Tryz.f200 52 [.tmp 8,.tmp 9] (by kernel_rfl) (by decide +kernel) rfl ?_
  by_cases c1:hi≤m
  ·have c1':(hi:Int)≤(m:Int):=by omega
   rw [qn c1,List.append_nil]
   simp -implicitDefEqProofs only [go_sem,c1',hA]
   simp [nC]
  ·have c1':¬(hi:Int)≤(m:Int):=by omega
   by_cases c2:m≤lo
   ·have c2':(lo:Int)≥(m:Int):=by omega
    rw [xM c1 c2,List.append_nil]
    simp -implicitDefEqProofs only [go_sem,c1',c2',hB]
    simp [nC]
   ·have c2':¬(lo:Int)≥(m:Int):=by omega
    have hs:=xL (n:=hi - lo) (by omega)
    rw [qo c1 c2]
    simp -implicitDefEqProofs only [go_sem,c1',c2']
    refine Want.intro (zkl lo hi (by omega) h2) ?_
    simp -implicitDefEqProofs only [go_sem]
    have hl:=qP (m:=m) k lo (lo+spl (hi - lo)) (by omega) (by omega)
    refine WantM.intro (zf5 m k lo (lo+spl (hi - lo)) a b (by omega) (by omega) (by omega) (by omega) (by omega)) ?_
    simp -implicitDefEqProofs only [go_sem]
    refine WantM.intro (zf5 m k (lo+spl (hi - lo)) hi _ _ (by omega) (by omega) (by omega) (by rw [List.length_append];omega) (by rw [List.length_append];omega)) ?_
    simp -implicitDefEqProofs only [go_sem,List.append_assoc]
theorem zka (m:Nat):∀(k lo hi:Nat),lo<hi→hi≤256→hi - lo≤k→zS Tryz.prog 200 [] [.agg [vI lo,vI hi],vI m,.nilS,.nilS]
  (.tup [.blk 0 0 [] 2 0 (gN m k lo hi).1.length,.blk 1 0 [] 2 0 (gN m k lo hi).2.length]) (nNN (gN m k lo hi).1 (gN m k lo hi).2)
 | 0,lo,hi,h,h2,hk=>by omega
 | k+1,lo,hi,h,h2,hk=>by
  have hA:1≤maxLen:=by unfold maxLen;omega
  refine zj zpu false Tryz.f200 ?_
  conv=>enter [1];reduce
  refine jvM Tryz.f200 52 [.tmp 8,.tmp 9] (by kernel_rfl) (by decide +kernel) rfl ?_
  by_cases c1:hi≤m
  ·have c1':(hi:Int)≤(m:Int):=by omega
   rw [qn c1]
   simp -implicitDefEqProofs only [go_sem,c1',hA]
   simp [nC]
  ·have c1':¬(hi:Int)≤(m:Int):=by omega
   by_cases c2:m≤lo
   ·have c2':(lo:Int)≥(m:Int):=by omega
    rw [xM c1 c2]
    simp -implicitDefEqProofs only [go_sem,c1',c2',hA]
    simp [nC]
   ·have c2':¬(lo:Int)≥(m:Int):=by omega
    have hs:=xL (n:=hi - lo) (by omega)
    rw [qo c1 c2]
    simp -implicitDefEqProofs only [go_sem,c1',c2']
    refine Want.intro (zkl lo hi (by omega) h2) ?_
    simp -implicitDefEqProofs only [go_sem]
    have hl:=qP (m:=m) k lo (lo+spl (hi - lo)) (by omega) (by omega)
    refine WantM.intro (zka m k lo (lo+spl (hi - lo)) (by omega) (by omega) (by omega)) ?_
    simp -implicitDefEqProofs only [go_sem]
    refine WantM.intro (zf5 m k (lo+spl (hi - lo)) hi _ _ (by omega) (by omega) (by omega) (by omega) (by omega)) ?_
    simp -implicitDefEqProofs only [go_sem]
theorem zmG (m n:Nat) (h:1≤n) (h2:n≤256):zS Tryz.prog 185 [] [vI m,vI n] (.tup [.blk 0 0 [] 2 0 (gN m n 0 n).1.length,.blk 1 0 [] 2 0 (gN m n 0 n).2.length]) (nNN (gN m n 0 n).1 (gN m n 0 n).2):=by
 refine zj zpu false Tryz.f185 ?_
 conv=>enter [1];reduce
 refine jvM Tryz.f185 12 [.tmp 4,.tmp 5] (by kernel_rfl) (by decide +kernel) rfl ?_
 simp -implicitDefEqProofs only [go_sem]
 refine WantM.intro (zka m n 0 n (by omega) h2 (by omega)) ?_
 simp -implicitDefEqProofs only [go_sem]
def xW (m n:Int):Int:=if jS m n then (if m=0∨m=n then 0 else (((gN m.toNat n.toNat 0 n.toNat).1.length+(gN m.toNat n.toNat 0 n.toNat).2.length:Nat):Int)) else -1
theorem xD {m n:Int} (h:jS m n=true):(0≤n∧n≤256)∧(0≤m∧m≤n):=by
 simp only [jS,Bool.and_eq_true,mIn_iff] at h
 exact h
theorem zrq (m n:Int):CallR Tryz.prog 155 [vI m,vI n] (vI (xW m n)) []:=by
 refine zj zpu false Tryz.f155 ?_
 conv=>enter [1];reduce
 refine jvR Tryz.f155 29 [.tmp 4] (by kernel_rfl) (by decide +kernel) rfl ?_
 unfold xW
 simp -implicitDefEqProofs only [go_sem]
 refine Want.intro (zmK _ _) ?_
 cases h:jS m n with
 | false=>simp -implicitDefEqProofs only [go_sem,Bool.not_false,zb,za,Bool.false_eq_true]
 | true=>
  obtain ⟨hn,hm⟩:=xD h
  by_cases h0:m=0
  ·subst h0
   simp -implicitDefEqProofs only [go_sem,Bool.not_true,zb,za,ze,zf,zg,zc,true_or]
  ·have h0':(m==0)=false:=by simpa using h0
   by_cases h1:m=n
   ·subst h1
    simp -implicitDefEqProofs only [go_sem,h0',Bool.not_true,zb,za,ze,zf,zg,zc,or_true]
   ·have h1':(m==n)=false:=by simpa using h1
    obtain ⟨M,rfl⟩:∃M:Nat,m=M:=⟨m.toNat,by omega⟩
    obtain ⟨N,rfl⟩:∃N:Nat,n=N:=⟨n.toNat,by omega⟩
    have hno:¬((M:Int)=0∨(M:Int)=(N:Int)):=fun h=>h.elim h0 h1
    have hl:=qP (m:=M) N 0 N (by omega) (by omega)
    have w1:∀x y:Nat,x≤1000→y≤1000→IntKind.i64.wrap ((x:Int)+(y:Int))=((x+y:Nat):Int):=fun x y _ _=>by rw [wrS (by omega)];omega
    have w1:=w1 (gN M N 0 N).1.length (gN M N 0 N).2.length (by omega) (by omega)
    simp -implicitDefEqProofs only [go_sem,h0',h1',hno,Bool.not_true,zb,za,ze,zf,zg,zc]
    refine WantM.intro (zmG M N (by omega) (by omega)) ?_
    simp -implicitDefEqProofs only [go_sem,w1]
end Go.Proofs.YtpjpkmhaffmbmaaGreat.E
end
section
namespace Go.Proofs.YtpjpkmhaffmbmaaGreat.E
open Go Go.RowKit
set_option maxHeartbeats 4000000
set_option maxRecDepth 10000
set_option linter.unusedSimpArgs false
set_option linter.unusedVariables false
set_option linter.unusedSectionVars false
def zpt:Dec:=⟨[],[9,10,11],[22,30,37,38,39,40,49,56,76,80,87,141,143,159,237,250,259],false⟩
theorem zoo (m n:Int):CallR Tryz.prog 56 [vI m,vI n] (vB (mIn m 0 n&&decide (n≤256))) []:=by
 refine zj zpt false Tryz.f56 ?_
 conv=>enter [1];reduce
 refine jvR Tryz.f56 12 [.tmp 4] (by kernel_rfl) (by decide +kernel) rfl ?_
 simp -implicitDefEqProofs only [go_sem]
 refine Want.intro (zao _ _ _) ?_
 cases h:mIn m 0 n<;>simp -implicitDefEqProofs only [go_sem,ze,zf,zg,zc,zb,za,Bool.false_and,Bool.true_and]
theorem wo (m n:Int):(mIn m 0 n&&decide (n≤256))=jS m n:=by
 unfold jS mIn
 rw [Bool.eq_iff_iff]
 simp only [Bool.and_eq_true,decide_eq_true_eq]
 omega
theorem zmL (n:Nat) (h:1≤n) (h2:n≤1000):CallR Tryz.prog 134 [vI n] (vI (zah n)) []:=by
 refine zj zpt false Tryz.f134 ?_
 conv=>enter [1];reduce
 refine jvR Tryz.f134 11 [.tmp 2] (by kernel_rfl) (by decide +kernel) rfl ?_
 simp -implicitDefEqProofs only [go_sem]
 refine zU (fun m s=>∃j:Nat,2 ^ j≤n∧m=n - 2 ^ j∧s=⟨11,[(0,vI n),(3,vI ((2 ^ j:Nat):Int))],[],1⟩) (n - 1) ?_ ?_
 ·simp -implicitDefEqProofs only [go_sem]
  exact ⟨0,by simp;omega,rfl,rfl⟩
 ·rintro m s ⟨j,hj,rfl,rfl⟩
  have e:2 ^ (j+1)=2 * 2 ^ j:=by rw [Nat.pow_succ];omega
  have hp:0<2 ^ j:=Nat.pow_pos (by omega)
  have hS:=fun h2=>zjU (n:=n) (j:=j) hj h2
  generalize hq:2 ^ j=q at *
  have w1:IntKind.i64.wrap (2 * (q:Int))=((2 * q:Nat):Int):=by rw [wrS (by omega)];omega
  rcases Nat.lt_or_ge n (2 * q) with hlt | hge
  ·have hlt':¬((2 * q:Nat):Int)≤(n:Int):=by omega
   simp -implicitDefEqProofs only [go_sem,w1,hlt']
   rw [hS (by omega)]
  ·have hlt':((2 * q:Nat):Int)≤(n:Int):=by omega
   simp -implicitDefEqProofs only [go_sem,w1,hlt']
   exact ⟨_,by omega,j+1,by omega,rfl,by rw [e]⟩
def wH (l:List MDig):Row:=⟨4,l.map MDig.cs,2,false⟩
attribute [go_sem] wH
theorem zlU (a b:List MDig) (ha:a.length≤1000) (hb:b.length≤1000):CallR Tryz.prog 78 [.ro 4 (a.map MDig.cs),.ro 4 (b.map MDig.cs)] (.blk 0 0 [] 4 0 (a++b).length) [([],wH (a++b))]:=by
 refine zj zpt false Tryz.f78 ?_
 conv=>enter [1];reduce
 refine jvR Tryz.f78 36 [.tmp 4] (by kernel_rfl) (by decide +kernel) rfl ?_
 simp -implicitDefEqProofs only [go_sem]
 refine zU (fun m s=>∃i:Nat,i≤a.length∧m=a.length - i∧s=⟨36,[(0,.ro 4 (a.map MDig.cs)),(1,.ro 4 (b.map MDig.cs)),(5,.blk 5 0 [] 4 0 (a.take i).length),(6,vI i)],[(5,0,one (wH (a.take i)))],1⟩) a.length ?_ ?_
 ·simp -implicitDefEqProofs only [go_sem]
  exact ⟨0,Nat.zero_le _,rfl,rfl⟩
 ·rintro m s ⟨i,hi,rfl,rfl⟩
  rcases Nat.lt_or_ge i a.length with hlt | hge
  ·have hlt':(i:Int)<(a.length:Int):=by omega
   have hg:a[i]?=some a[i]:=List.getElem?_eq_getElem hlt
   have hw:=zB hlt (by unfold maxLen;omega)
   have hx:∀x,_:=fun x=>zH (E:=MDig.cs) (l:=a.take i) (xs:=[x]) (b:=32) (n:=10000) (by simp;omega) (by omega) (by omega)
   simp -implicitDefEqProofs only [go_sem,hlt',hg,hw,hx]
   refine ⟨_,by omega,i+1,hlt,rfl,?_⟩
   rw [ziy hlt]
   simp only [List.map_append,List.length_append,List.length_map,List.map_cons,List.map_nil,List.length_cons,List.length_nil,MDig.cs,wH]
   try rfl
  ·have hi:i=a.length:=by omega
   subst hi
   have hlt':¬((a.length:Int)<(a.length:Int)):=by omega
   simp -implicitDefEqProofs only [go_sem,hlt',List.take_length]
   refine zU (fun m s=>∃i:Nat,i≤b.length∧m=b.length - i∧s=⟨36,[(1,.ro 4 (b.map MDig.cs)),(5,.blk 5 0 [] 4 0 (a++b.take i).length),(7,vI i)],[(5,0,one (wH (a++b.take i)))],1⟩) b.length ?_ ?_
   ·simp -implicitDefEqProofs only [go_sem]
    exact ⟨0,Nat.zero_le _,rfl,by simp [wH]⟩
   ·rintro m s ⟨i,hi,rfl,rfl⟩
    rcases Nat.lt_or_ge i b.length with hlt | hge
    ·have hlt':(i:Int)<(b.length:Int):=by omega
     have hg:b[i]?=some b[i]:=List.getElem?_eq_getElem hlt
     have hw:=zB hlt (by unfold maxLen;omega)
     have hx:∀x,_:=fun x=>zH (E:=MDig.cs) (l:=a++b.take i) (xs:=[x]) (b:=32) (n:=10000) (by simp;omega) (by omega) (by omega)
     simp -implicitDefEqProofs only [go_sem,hlt',hg,hw,hx]
     refine ⟨_,by omega,i+1,hlt,rfl,?_⟩
     rw [ziy hlt]
     simp only [List.map_append,List.length_append,List.length_map,List.map_cons,List.map_nil,List.length_cons,List.length_nil,MDig.cs,wH,List.append_assoc]
    ·have hi:i=b.length:=by omega
     subst hi
     have hlt':¬((b.length:Int)<(b.length:Int)):=by omega
     simp -implicitDefEqProofs only [go_sem,hlt',List.take_length]
def seg (l:List ByteArray) (lo hi:Nat):List ByteArray:=(l.drop lo).take (hi - lo)
def ndR (l:List ByteArray) (x:Nd):MDig:=(qR (seg l x.1 x.2)).dig
theorem jB {l:List ByteArray} (h:zJ l=true) (n:Nat):zJ (l.drop n)=true:=by
 obtain ⟨h1,h2⟩:=yV h
 simp only [zJ,Bool.and_eq_true,decide_eq_true_eq,zq,List.all_eq_true,List.length_drop]
 exact ⟨by omega,fun b hb=>h2 b (List.mem_of_mem_drop hb)⟩
theorem zpM {l:List ByteArray} (h:zJ l=true) (lo hi:Nat):zJ (seg l lo hi)=true:=zdv (jB h lo) _
theorem zk7 {l:List ByteArray} {n lo hi:Nat} (h:hi≤n):seg (l.take n) lo hi=seg l lo hi:=by
 unfold seg
 rw [List.drop_take,List.take_take,Nat.min_eq_left (by omega)]
theorem zmA (l:List MDig) (h:l.length≤100000):∀x,(l.map MDig.cs++[x]).length≤maxLen∧(l.map MDig.cs++[x]).length * 32≤140737488355328:=fun x=>zH (E:=MDig.cs) (l:=l) (xs:=[x]) (b:=32) (n:=1000000) (by simp;omega) (by omega) (by omega)
theorem zfF:∀(k lo m:Nat),(pks k lo m).length≤m - lo
 | 0,lo,m=>Nat.zero_le _
 | k+1,lo,m=>by
  rw [pks]
  split
  ·rename_i h
   have:=zag (n:=m - lo) (by omega)
   have:=zfF k (lo+zah (m - lo)) m
   simp only [List.length_cons]
   omega
  ·simp
theorem c79_c (l:List ByteArray) (h:zJ l=true):CallR Tryz.prog 79 [.ro 1 (l.map zs)] (.blk 0 0 [] 4 0 ((pks l.length 0 l.length).map (ndR l)).length) [([],wH ((pks l.length 0 l.length).map (ndR l)))]:=by
 refine zj zpt false Tryz.f79 ?_
 conv=>enter [1];reduce
 refine jvR Tryz.f79 34 [.tmp 2] (by kernel_rfl) (by decide +kernel) rfl ?_
 have h256:=(yV h).1
 simp -implicitDefEqProofs only [go_sem]
 refine Want.intro (zlY l (by unfold maxLen;omega)) ?_
 simp -implicitDefEqProofs only [go_sem,h,Bool.not_true,za]
 refine zU (fun k s=>∃(at_:Nat) (o:List Nd),at_≤l.length∧k=l.length - at_∧o++pks k at_ l.length=pks l.length 0 l.length∧o.length≤at_∧s=⟨34,[(0,.ro 1 (l.map zs)),(3,.blk 3 0 [] 4 0 (o.map (ndR l)).length),(4,vI at_)],[(3,0,one (wH (o.map (ndR l))))],1⟩) l.length ?_ ?_
 ·simp -implicitDefEqProofs only [go_sem]
  exact ⟨0,[],Nat.zero_le _,rfl,rfl,Nat.le_refl _,rfl⟩
 ·rintro k s ⟨at_,o,ha,rfl,ho,hol,rfl⟩
  rcases Nat.lt_or_ge at_ l.length with hlt | hge
  ·have hlt':(at_:Int)<(l.length:Int):=by omega
   have hb:=zag (n:=l.length - at_) (by omega)
   have w1:IntKind.i64.wrap ((l.length:Int) - (at_:Int))=((l.length - at_:Nat):Int):=by rw [wrS (by omega)];omega
   obtain ⟨k',hk'⟩:∃k',l.length - at_=k'+1:=⟨l.length - at_ - 1,by omega⟩
   have hp:pks (l.length - at_) at_ l.length=(at_,at_+zah (l.length - at_))::pks k' (at_+zah (l.length - at_)) l.length:=by
    rw [hk',pks,if_pos hlt,←hk']
   rw [hp] at ho
   simp -implicitDefEqProofs only [go_sem,hlt',w1]
   refine Want.intro (zmL (l.length - at_) (by omega) (by omega)) ?_
   have hR:ndR l (at_,at_+zah (l.length - at_))=(qR ((l.drop at_).take (at_+zah (l.length - at_) - at_))).dig:=rfl
   have hfuel:∀(a b lo m:Nat),m - lo≤a→m - lo≤b→pks a lo m=pks b lo m:=by
    intro a
    induction a with
    | zero=>intro b lo m h1 h2;rw [qY (k:=b) (by omega)];rfl
    | succ a ih=>
     intro b lo m h1 h2
     cases b with
     | zero=>rw [qY (k:=a+1) (by omega)];rfl
     | succ b=>
      rw [pks,pks]
      split
      ·have:=zag (n:=m - lo) (by omega)
       rw [ih b (lo+zah (m - lo)) m (by omega) (by omega)]
      ·rfl
   have ho':=fun j hj=>hfuel k' j (at_+zah (l.length - at_)) l.length (by omega) hj
   have hdl:zah (l.length - at_)≤l.length - at_:=hb.2.1
   have hd1:=hb.1
   clear hb hk' hp
   generalize zah (l.length - at_)=d at *
   have w2:IntKind.i64.wrap ((at_:Int)+(d:Int))=((at_+d:Nat):Int):=by rw [wrS (by omega)];omega
   have k1:(at_:Int)≤((at_+d:Nat):Int)∧((at_+d:Nat):Int)≤(l.length:Int):=by omega
   simp -implicitDefEqProofs only [go_sem,w2,k1]
   refine Want.intro (zok ((l.drop at_).take (at_+d - at_)) (zdv (jB h _) _)) ?_
   have hx:=zmA (o.map (ndR l)) (by simp;omega)
   simp -implicitDefEqProofs only [go_sem,w2,hx]
   refine ⟨_,?_,at_+d,o++[(at_,at_+d)],by omega,rfl,?_,?_,?_⟩
   ·omega
   ·rw [List.append_assoc,List.singleton_append,←ho' _ (by omega)]
    exact ho
   ·simp;omega
   ·rw [List.map_append,List.map_cons,List.map_nil,hR]
    simp [wH,MDig.cs,BD.dig,BD.cs]
  ·have hlt':¬(at_:Int)<(l.length:Int):=by omega
   rw [qY (by omega),List.append_nil] at ho
   rw [←ho]
   simp -implicitDefEqProofs only [go_sem,hlt']
theorem zoi (l:List ByteArray) (hl:zJ l=true) (m:Nat):∀(k lo hi:Nat),lo<hi→hi≤l.length→hi - lo≤k→CallR Tryz.prog 80 [.ro 1 (l.map zs),vI lo,vI hi,vI m] (.blk 0 0 [] 4 0 ((gN m k lo hi).2.map (ndR l)).length) [([],wH ((gN m k lo hi).2.map (ndR l)))]
 | 0,lo,hi,h,h2,hk=>by omega
 | k+1,lo,hi,h,h2,hk=>by
  have h256:=(yV hl).1
  refine zj zpt false Tryz.f80 ?_
  conv=>enter [1];reduce
  refine jvR Tryz.f80 40 [.tmp 8] (by kernel_rfl) (by decide +kernel) rfl ?_
  by_cases c1:hi≤m
  ·have c1':(hi:Int)≤(m:Int):=by omega
   rw [qn c1]
   simp -implicitDefEqProofs only [go_sem,c1',List.map_nil]
  ·have c1':¬(hi:Int)≤(m:Int):=by omega
   by_cases c2:m≤lo
   ·have c2':(lo:Int)≥(m:Int):=by omega
    have k1:(lo:Int)≤(hi:Int)∧(hi:Int)≤(l.length:Int):=by omega
    rw [xM c1 c2]
    simp -implicitDefEqProofs only [go_sem,c1',c2',k1]
    refine Want.intro (zok _ (zpM hl lo hi)) ?_
    have hR:ndR l (lo,hi)=(qR (seg l lo hi)).dig:=rfl
    simp -implicitDefEqProofs only [go_sem,hR,MDig.cs,BD.dig]
    try rfl
   ·have c2':¬(lo:Int)≥(m:Int):=by omega
    have hs:=xL (n:=hi - lo) (by omega)
    have w1:IntKind.i64.wrap ((hi:Int) - (lo:Int))=((hi - lo:Nat):Int):=by rw [wrS (by omega)];omega
    rw [qo c1 c2]
    simp only [List.map_append]
    simp -implicitDefEqProofs only [go_sem,c1',c2',w1]
    refine Want.intro (zg9 (hi - lo) (by omega) (by omega)) ?_
    have w2:IntKind.i64.wrap ((lo:Int)+((spl (hi - lo):Nat):Int))=((lo+spl (hi - lo):Nat):Int):=by rw [wrS (by omega)];omega
    have l1:=(qP (m:=m) k lo (lo+spl (hi - lo)) (by omega) (by omega)).2
    have l2:=(qP (m:=m) k (lo+spl (hi - lo)) hi (by omega) (by omega)).2
    simp -implicitDefEqProofs only [go_sem,w2]
    refine Want.intro (zoi l hl m k lo (lo+spl (hi - lo)) (by omega) (by omega) (by omega)) ?_
    simp -implicitDefEqProofs only [go_sem]
    refine Want.intro (zoi l hl m k (lo+spl (hi - lo)) hi (by omega) (by omega) (by omega)) ?_
    simp -implicitDefEqProofs only [go_sem]
    refine Want.intro (zlU _ _ (by rw [List.length_map];omega) (by rw [List.length_map];omega)) ?_
    simp -implicitDefEqProofs only [go_sem]
def mGr (l:List ByteArray) (m:Nat):List MDig:=if m=0∨m=l.length then [] else ((gN m l.length 0 l.length).1++(gN m l.length 0 l.length).2).map (ndR l)
def zdx (l:List ByteArray) (m:Int):Bool:=zJ l&&jS m l.length
def xc (l:List ByteArray) (m:Int):List MDig:=match zdx l m with
 | true=>mGr l m.toNat
 | false=>[]
theorem zgP {l:List ByteArray} {m:Nat} (h:m=0∨m=l.length):mGr l m=[]:=by unfold mGr;rw [if_pos h]
theorem zqd {l:List ByteArray} {m:Nat} (h:¬(m=0∨m=l.length)) (h2:m≤l.length):mGr l m=(pks m 0 m).map (ndR (l.take m))++(gN m l.length 0 l.length).2.map (ndR l):=by
 have e:=zeL (m:=m) l.length m 0 l.length (by omega) (by omega) (by omega) (by omega)
 unfold mGr
 rw [if_neg h,List.map_append,e]
 congr 1
 rw [←e]
 refine List.map_congr_left fun x hx=>?_
 have hm:∀(k lo hi:Nat),∀x∈(gN m k lo hi).1,x.2≤m:=by
  intro k
  induction k with
  | zero=>intro lo hi x hx;simp [gN] at hx
  | succ k ih=>
   intro lo hi x hx
   by_cases h1:hi≤m
   ·rw [qn h1] at hx
    simp at hx
    subst hx
    exact h1
   ·by_cases h2:m≤lo
    ·rw [xM h1 h2] at hx;simp at hx
    ·rw [qo h1 h2] at hx
     rcases List.mem_append.1 hx with hx | hx
     ·exact ih _ _ _ hx
     ·exact ih _ _ _ hx
 unfold ndR
 rw [zk7 (hm _ _ _ x hx)]
def zn3 (l:List ByteArray) (m:Int):AV:=.tup [.blk 0 0 [] 4 0 (xc l m).length,vB (zdx l m)]
def zjY (l:List ByteArray) (m:Int):Sig:=[(0,0,one (wH (xc l m)))]
attribute [go_sem] zn3 zjY
theorem c24_c (l:List ByteArray) (m:Int) (hl:l.length≤maxLen):zS Tryz.prog 24 [] [.ro 1 (l.map zs),vI m] (zn3 l m) (zjY l m):=by
 refine zj zpt false Tryz.f24 ?_
 conv=>enter [1];reduce
 refine jvM Tryz.f24 36 [.tmp 4,.tmp 5] (by kernel_rfl) (by decide +kernel) rfl ?_
 unfold zn3 zjY xc zdx
 simp -implicitDefEqProofs only [go_sem]
 refine Want.intro (zlY l hl) ?_
 cases h1:zJ l with
 | false=>
  simp -implicitDefEqProofs only [go_sem,Bool.not_false,Bool.false_and,ze,zf,zg,zc,zb,za]
 | true=>
  simp -implicitDefEqProofs only [go_sem,Bool.not_true,Bool.true_and,ze,zf,zg,zc,zb,za]
  refine Want.intro (zoo _ _) ?_
  rw [wo]
  cases h2:jS m l.length with
  | false=>simp -implicitDefEqProofs only [go_sem,Bool.not_false,ze,zf,zg,zc,zb,za]
  | true=>
   obtain ⟨hn,hm⟩:=xD h2
   obtain ⟨M,rfl⟩:∃M:Nat,m=M:=⟨m.toNat,by omega⟩
   have hML:M≤l.length:=by omega
   by_cases h3:M=0
   ·subst h3
    have e:=zgP (l:=l) (m:=0) (.inl rfl)
    simp -implicitDefEqProofs only [go_sem,Bool.not_true,e,Int.toNat_natCast,ze,zf,zg,zc,zb,za,z0]
    try rfl
   ·have h3':((M:Int)==0)=false:=by rw [beq_eq_false_iff_ne];omega
    by_cases h4:M=l.length
    ·have h4':((M:Int)==(l.length:Int))=true:=by rw [beq_iff_eq];omega
     have e:=zgP (l:=l) (m:=M) (.inr h4)
     simp -implicitDefEqProofs only [go_sem,Bool.not_true,e,h3',h4',Int.toNat_natCast,ze,zf,zg,zc,zb,za]
     try rfl
    ·have h4':((M:Int)==(l.length:Int))=false:=by rw [beq_eq_false_iff_ne];omega
     have e:=zqd (l:=l) (m:=M) (fun h=>h.elim h3 h4) hML
     have k1:(0:Int)≤(M:Int)∧(M:Int)≤(l.length:Int):=by omega
     have ht:(l.take M).length=M:=by rw [List.length_take];omega
     have hp:=c79_c (l.take M) (zdv h1 M)
     rw [ht] at hp
     have l1:=zfF M 0 M
     have l2:=(qP (m:=M) l.length 0 l.length (by omega) (by omega)).2
     rw [Int.toNat_natCast,e]
     simp -implicitDefEqProofs only [go_sem,Bool.not_true,h3',h4',k1,Nat.sub_zero,List.drop_zero,ze,zf,zg,zc,zb,za]
     refine Want.intro hp ?_
     simp -implicitDefEqProofs only [go_sem]
     refine Want.intro (zoi l h1 M l.length 0 l.length (by omega) (by omega) (by omega)) ?_
     simp -implicitDefEqProofs only [go_sem]
     refine Want.intro (zlU _ _ (by rw [List.length_map];omega) (by rw [List.length_map];omega)) ?_
     simp -implicitDefEqProofs only [go_sem]
end Go.Proofs.YtpjpkmhaffmbmaaGreat.E
end
section
namespace Go.Proofs.YtpjpkmhaffmbmaaGreat.E
open Go Go.RowKit
set_option maxHeartbeats 4000000
set_option maxRecDepth 10000
set_option linter.unusedSimpArgs false
set_option linter.unusedVariables false
set_option linter.unusedSectionVars false
def dcX0:Dec:=⟨[(24,.cm [false,false])],[9,10,11],[22,30,37,38,39,40,49,56,76,80,87,141,143,159,237,250,259],false⟩
theorem c97_c (l:List ByteArray) (m:Int) (hl:l.length≤maxLen):zS Tryz.prog 97 [] [.ro 1 (l.map zs),vI m] (.blk 0 0 [] 4 0 (xc l m).length) (zjY l m):=by
 refine zj dcX0 false Tryz.f97 ?_
 conv=>enter [1];reduce
 refine jvM Tryz.f97 14 [.tmp 4] (by kernel_rfl) (by decide +kernel) rfl ?_
 simp -implicitDefEqProofs only [go_sem]
 refine WantM.intro (c24_c l m hl) ?_
 simp -implicitDefEqProofs only [go_sem]
end Go.Proofs.YtpjpkmhaffmbmaaGreat.E
end
section
namespace Go.Proofs.YtpjpkmhaffmbmaaGreat.E
open Go Go.RowKit
set_option maxHeartbeats 4000000
set_option maxRecDepth 10000
set_option linter.unusedSimpArgs false
set_option linter.unusedVariables false
set_option linter.unusedSectionVars false
def dcX1:Dec:=⟨[(39,.cm [true,false]),(72,.cm [false]),(90,.cm [true,false]),(91,.cm [true]),(129,.cm [false])],[9,10,11],[22,30,37,38,39,40,49,56,76,80,87,141,143,159,237,250,259],false⟩
theorem c72_c (l:List UInt8) (hl:l.length≤maxLen):zS Tryz.prog 72 [] [.ro 1 (l.map zt)] (.ptr 0 0 [] 1 0 0) [(0,0,one ⟨1,[[.ptr 1 0 [] 1 0 0]],0,false⟩),(1,0,one ⟨1,[[.ptr 2 0 [] 2 0 0]],0,false⟩),(2,0,one ⟨2,[(Dr.mk (l.take 2000) 0).cs],0,false⟩)]:=by
 refine zj dcX1 false Tryz.f72 ?_
 conv=>enter [1];reduce
 refine jvM Tryz.f72 7 [.tmp 2] (by kernel_rfl) (by decide +kernel) rfl ?_
 simp -implicitDefEqProofs only [go_sem]
 refine WantM.intro (zrx l hl) ?_
 simp -implicitDefEqProofs only [go_sem]
theorem c35_c (l:List UInt8) (hl:l.length≤maxLen):zS Tryz.prog 35 [] [.ro 1 (l.map zt)] (.ptr 0 0 [] 1 0 0) [(0,0,one ⟨1,[[.ptr 1 0 [] 1 0 0]],0,false⟩),(1,0,one ⟨1,[[.ptr 2 0 [] 1 0 0]],0,false⟩),(2,0,one ⟨1,[[.ptr 3 0 [] 2 0 0]],0,false⟩),(3,0,one ⟨2,[(Dr.mk (l.take 2000) 0).cs],0,false⟩)]:=by
 refine zj dcX1 false Tryz.f35 ?_
 conv=>enter [1];reduce
 refine jvM Tryz.f35 7 [.tmp 2] (by kernel_rfl) (by decide +kernel) rfl ?_
 simp -implicitDefEqProofs only [go_sem]
 refine WantM.intro (c72_c l hl) ?_
 simp -implicitDefEqProofs only [go_sem]
def zm2 (r:Dr) (res:AV) (σ:Sig):Prop:=∃(l:List ByteArray) (m:Int) (r':Dr),(res=.tup [.blk 0 0 [] 1 0 l.length,vI m]∧σ=r'.r3++[(0,0,one ⟨1,l.map zs,2,false⟩)])∧(l.length≤80∧(0≤m∧m≤(l.length:Int)))∧r'.ok (r.p+1010)
theorem c36_c (r:Dr) (h:r.ok 500000000):∃res σ,zm2 r res σ∧zS Tryz.prog 36 r.r3 [vL] res σ:=by
 refine zj dcX1 false Tryz.f36 ?_
 conv=>enter [1];reduce
 refine jvX Tryz.f36 28 [.tmp 2,.tmp 3] (zm2 r) (by kernel_rfl) (by decide +kernel) (by kernel_rfl) rfl ?_
 have hp:=h.2
 have hb:=h.1
 obtain ⟨hz,hc⟩:=zq6 r (h.le (by omega))
 obtain ⟨n,hn⟩:∃n:Nat,szT r=n:=⟨(szT r).toNat,by omega⟩
 rw [hn] at hz hc
 have w1:IntKind.i64.wrap (1+(n:Int))=((n+1:Nat):Int):=by rw [wrS (by omega)];omega
 obtain ⟨res,σ,⟨l,r',⟨rfl,rfl⟩,hl,hr⟩,hls⟩:=zq7 (r.adv 2) (n+1) (by omega) ((h.adv 2).le (by omega))
 have w2:IntKind.i64.wrap ((l.length:Int)+1)=((l.length+1:Nat):Int):=by rw [wrS (by omega)];omega
 have hr9:r'.ok 1000000000:=hr.le (by show r.p+2+10 * (n+1)≤_;omega)
 have hpk:=zL (n:=((l.length+1:Nat):Int)) hr9 (by omega)
 simp -implicitDefEqProofs only [go_sem]
 refine WantM.intro hc ?_
 simp -implicitDefEqProofs only [go_sem,w1]
 refine WantM.intro hls ?_
 simp -implicitDefEqProofs only [go_sem,w2]
 refine WantM.intro (zZ ((l.length+1:Nat):Int) hr9) ?_
 simp -implicitDefEqProofs only [go_sem]
 refine RetAt.intro (.tup [.blk 0 0 [] 1 0 l.length,vI (pk r' ((l.length+1:Nat):Int))]) (r'.nx.r3++[(0,0,one ⟨1,l.map zs,2,false⟩)]) ⟨l,pk r' ((l.length+1:Nat):Int),r'.nx,⟨rfl,rfl⟩,⟨by omega,by omega⟩,hr.1,by have h2:r'.p≤r.p+2+10 * (n+1):=hr.2;show r'.p+1≤r.p+1010;omega⟩ ?_
 simp -implicitDefEqProofs only [go_sem]
end Go.Proofs.YtpjpkmhaffmbmaaGreat.E
end
section
namespace Go.Proofs.YtpjpkmhaffmbmaaGreat.E
open Go Go.RowKit
set_option linter.unusedVariables false
set_option linter.unusedSimpArgs false
structure MSlot where
 sum:Nat
 seq:Nat
 size:Nat
 root:MDig
def MSlot.cs (s:MSlot):List AV:=[vU s.sum,vU s.seq,vU s.size,vU s.root.a,vU s.root.b,vU s.root.c,vU s.root.d]
structure MSlot.ok (t:MSlot):Prop where
 s:t.sum<18446744073709551616
 q:t.seq<18446744073709551616
 z:t.size<18446744073709551616
 r:t.root.ok
structure MDisk where
 one:MSlot
 two:MSlot
def MDisk.cs (d:MDisk):List AV:=[vU d.one.sum,vU d.one.seq,vU d.one.size,vU d.one.root.a,vU d.one.root.b,vU d.one.root.c,vU d.one.root.d,vU d.two.sum,vU d.two.seq,vU d.two.size,vU d.two.root.a,vU d.two.root.b,vU d.two.root.c,vU d.two.root.d]
structure MDisk.ok (d:MDisk):Prop where
 a:d.one.ok
 b:d.two.ok
attribute [go_sem] MSlot.cs MDisk.cs
def ye (s:MSlot):Nat→List UInt8
 | 0=>[]
 | 1=>low s.seq 8
 | 2=>low s.seq 8++low s.size 8
 | 3=>low s.seq 8++low s.size 8++low s.root.a 8
 | 4=>low s.seq 8++low s.size 8++low s.root.a 8++low s.root.b 8
 | 5=>low s.seq 8++low s.size 8++low s.root.a 8++low s.root.b 8++low s.root.c 8
 | _=>low s.seq 8++low s.size 8++low s.root.a 8++low s.root.b 8++low s.root.c 8++low s.root.d 8
theorem zbj (s:MSlot) {i:Nat} (h:i≤6):(ye s i).length=8 * i:=by
 have hi:i=0∨i=1∨i=2∨i=3∨i=4∨i=5∨i=6:=by omega
 rcases hi with rfl | rfl | rfl | rfl | rfl | rfl | rfl<;>simp [ye,low8]
theorem zbk (s:MSlot):(qZ s.seq 8++qZ s.size 8++s.root.bytes)=⟨(ye s 6).toArray⟩:=by
 unfold MDig.bytes ye
 apply ByteArray.ext
 apply Array.toList_inj.1
 simp [ByteArray.data_append,Array.toList_append,zaW]
theorem zfH (x:Int):orI .u64 x 1=((orI .u64 x 1).toNat:Int):=by
 unfold orI
 have:0≤IntKind.u64.wrap ((BitVec.ofInt IntKind.u64.bits x||| BitVec.ofInt IntKind.u64.bits 1).toNat:Int):=by
  rw [wU]
  exact Int.emod_nonneg _ (by decide)
 omega
def zaN (s:MSlot):Nat:=(orI .u64 ((zG (ye s 6)).a.toNat:Int) 1).toNat
theorem zjt (s:MSlot):zaN s<18446744073709551616:=by
 have h:orI .u64 ((zG (ye s 6)).a.toNat:Int) 1<18446744073709551616:=by
  unfold orI
  rw [wU]
  exact Int.emod_lt_of_pos _ (by decide)
 unfold zaN
 omega
def zE (s:MSlot):Bool:=((s.sum:Int)==(zaN s:Int))&&(decide ((s.seq:Int)≥1)&&(decide ((s.seq:Int)≤1000000000)&&(decide ((s.size:Int)≥1)&&decide ((s.size:Int)≤256))))
structure MRec where
 seq:Int
 size:Int
 root:MDig
def MRec.cs (r:MRec):List AV:=[vI r.seq,vI r.size,vU r.root.a,vU r.root.b,vU r.root.c,vU r.root.d]
attribute [go_sem] MRec.cs
def MSlot.rec_ (s:MSlot):MRec:=⟨s.seq,s.size,s.root⟩
def zI (d:MDisk):MRec × Int:=
 match zE d.one,zE d.two with
 | true,true=>if d.two.seq>d.one.seq then (d.two.rec_,2) else (d.one.rec_,1)
 | true,false=>(d.one.rec_,1)
 | false,true=>(d.two.rec_,2)
 | false,false=>(⟨0,0,dig0⟩,0)
def zA (d:MDisk):MPt:=if (zI d).2=0 then ⟨0,(zG []).dig⟩ else ⟨(zI d).1.size,(zI d).1.root⟩
theorem zW {s:MSlot} (h:zE s=true):(1≤s.seq∧s.seq≤1000000000)∧(1≤s.size∧s.size≤256):=by
 simp only [zE,Bool.and_eq_true,decide_eq_true_eq] at h
 omega
theorem zaY (d:MDisk):0≤(zA d).size∧(zA d).size≤256:=by
 unfold zA
 split
 ·exact ⟨Int.le_refl _,by decide⟩
 ·rename_i h
  unfold zI at h ⊢
  cases h1:zE d.one<;>cases h2:zE d.two<;>simp only [h1,h2] at h ⊢
  ·exact absurd trivial h
  ·have:=zW h2
   show (0:Int)≤(d.two.size:Int)∧(d.two.size:Int)≤256
   omega
  ·have:=zW h1
   show (0:Int)≤(d.one.size:Int)∧(d.one.size:Int)≤256
   omega
  ·have:=zW h1
   have:=zW h2
   split
   ·show (0:Int)≤(d.two.size:Int)∧(d.two.size:Int)≤256
    omega
   ·show (0:Int)≤(d.one.size:Int)∧(d.one.size:Int)≤256
    omega
structure MRaw where
 slot:Int
 word:Int
 value:Nat
def MRaw.cs (r:MRaw):List AV:=[vI r.slot,vI r.word,vU r.value]
attribute [go_sem] MRaw.cs
def zcQ (s:MSlot) (w:Int) (v:Nat):MSlot:=
 if w=0 then {s with sum:=v} else if w=1 then {s with seq:=v} else if w=2 then {s with size:=v}
 else if w=3 then {s with root:={s.root with a:=v}} else if w=4 then {s with root:={s.root with b:=v}}
 else if w=5 then {s with root:={s.root with c:=v}} else if w=6 then {s with root:={s.root with d:=v}} else s
def xh (d:MDisk) (r:MRaw):MDisk:=if r.slot=1 then {d with one:=zcQ d.one r.word r.value} else if r.slot=2 then {d with two:=zcQ d.two r.word r.value} else d
def zC (d:MDisk) (l:List MRaw):MDisk:=l.foldl xh d
theorem zjv {s:MSlot} (h:s.ok) {w:Int} {v:Nat} (hv:v<18446744073709551616):(zcQ s w v).ok:=by
 obtain ⟨h1,h2,h3,h4,h5,h6,h7⟩:=h
 unfold zcQ
 repeat' split
 all_goals first
  | exact ⟨hv,h2,h3,h4,h5,h6,h7⟩
  | exact ⟨h1,hv,h3,h4,h5,h6,h7⟩
  | exact ⟨h1,h2,hv,h4,h5,h6,h7⟩
  | exact ⟨h1,h2,h3,hv,h5,h6,h7⟩
  | exact ⟨h1,h2,h3,h4,hv,h6,h7⟩
  | exact ⟨h1,h2,h3,h4,h5,hv,h7⟩
  | exact ⟨h1,h2,h3,h4,h5,h6,hv⟩
  | exact ⟨h1,h2,h3,h4,h5,h6,h7⟩
def yQ (d:MDisk) (size:Int) (root:MDig):List MRaw:=
 if mIn size 1 256=true∧(zI d).1.seq≠1000000000 then
  (let to:Int:=if (zI d).2=1 then 2 else 1
   let s:MSlot:=⟨0,((zI d).1.seq+1).toNat,size.toNat,root⟩
   [⟨to,0,0⟩,⟨to,1,s.seq⟩,⟨to,2,s.size⟩,⟨to,3,root.a⟩,⟨to,4,root.b⟩,⟨to,5,root.c⟩,⟨to,6,root.d⟩,⟨to,0,zaN s⟩])
 else []
theorem wi (d:MDisk):0≤(zI d).1.seq∧(zI d).1.seq≤1000000000:=by
 unfold zI
 cases h1:zE d.one<;>cases h2:zE d.two<;>simp only
 ·exact ⟨by show (0:Int)≤0;omega,by show (0:Int)≤1000000000;omega⟩
 ·have:=zW h2
  show (0:Int)≤(d.two.seq:Int)∧(d.two.seq:Int)≤1000000000
  omega
 ·have:=zW h1
  show (0:Int)≤(d.one.seq:Int)∧(d.one.seq:Int)≤1000000000
  omega
 ·have:=zW h1
  have:=zW h2
  split
  ·show (0:Int)≤(d.two.seq:Int)∧(d.two.seq:Int)≤1000000000
   omega
  ·show (0:Int)≤(d.one.seq:Int)∧(d.one.seq:Int)≤1000000000
   omega
end Go.Proofs.YtpjpkmhaffmbmaaGreat.E
end
section
namespace Go.Proofs.YtpjpkmhaffmbmaaGreat.E
open Go Go.RowKit
set_option maxHeartbeats 4000000
set_option maxRecDepth 10000
set_option linter.unusedSimpArgs false
set_option linter.unusedVariables false
set_option linter.unusedSectionVars false
def zke:Dec:=⟨[(70,.cm [true]),(120,.cm [false,true,false])],[9,10,11],[22,30,37,38,39,40,49,56,76,80,87,141,143,159,237,250,259],false⟩
attribute [-go_sem] zbZ
@[go_sem] theorem zpo:zbZ Tryz.prog 25 0=some 23:=by kernel_rfl
def znn (n a:Nat):Nat→List (List AV)
 | 0=>[[.ptr a 0 [] n 0 0],[.ptr a 0 [] n 0 1],[.ptr a 0 [] n 0 2],[.ptr a 0 [] n 0 3],[.ptr a 0 [] n 0 4],[.ptr a 0 [] n 0 5],[.ptr a 0 [] n 0 6]]
 | _=>[[.ptr a 0 [] n 0 7],[.ptr a 0 [] n 0 8],[.ptr a 0 [] n 0 9],[.ptr a 0 [] n 0 10],[.ptr a 0 [] n 0 11],[.ptr a 0 [] n 0 12],[.ptr a 0 [] n 0 13]]
attribute [go_sem] znn
theorem zm9 (s:MSlot):zS Tryz.prog 70 [(1000000,0,one ⟨7,[s.cs],0,false⟩)] [.ptr 1000000 0 [] 7 0 0] (.blk 0 0 [] 1 0 7) [(1000000,0,one ⟨7,[s.cs],0,false⟩),(0,0,one ⟨1,znn 7 1000000 0,0,false⟩)]:=by
 refine zj zke false Tryz.f70 ?_
 conv=>enter [1];reduce
 refine jvM Tryz.f70 29 [.tmp 2] (by kernel_rfl) (by decide +kernel) rfl ?_
 simp -implicitDefEqProofs only [go_sem]
theorem wds_1 (s:MDisk):zS Tryz.prog 70 [(1000000,0,one ⟨14,[s.cs],0,false⟩)] [.ptr 1000000 0 [] 14 0 0] (.blk 0 0 [] 1 0 7) [(1000000,0,one ⟨14,[s.cs],0,false⟩),(0,0,one ⟨1,znn 14 1000000 0,0,false⟩)]:=by
 refine zj zke false Tryz.f70 ?_
 conv=>enter [1];reduce
 refine jvM Tryz.f70 29 [.tmp 2] (by kernel_rfl) (by decide +kernel) rfl ?_
 simp -implicitDefEqProofs only [go_sem]
theorem wds_2 (s:MDisk):zS Tryz.prog 70 [(1000000,0,one ⟨14,[s.cs],0,false⟩)] [.ptr 1000000 0 [] 14 0 7] (.blk 0 0 [] 1 0 7) [(1000000,0,one ⟨14,[s.cs],0,false⟩),(0,0,one ⟨1,znn 14 1000000 7,0,false⟩)]:=by
 refine zj zke false Tryz.f70 ?_
 conv=>enter [1];reduce
 refine jvM Tryz.f70 29 [.tmp 2] (by kernel_rfl) (by decide +kernel) rfl ?_
 simp -implicitDefEqProofs only [go_sem]
theorem zoh (s:MSlot) (h:s.ok):CallR Tryz.prog 94 [.agg s.cs] (vU (zaN s)) []:=by
 refine zj zke false Tryz.f94 ?_
 conv=>enter [1];reduce
 refine jvR Tryz.f94 17 [.tmp 2] (by kernel_rfl) (by decide +kernel) rfl ?_
 have hs:∀v,(qZ v 8).size=8:=fun v=>zbu v 8
 have hb:s.root.bytes.size=32:=by unfold MDig.bytes;simp [hs]
 have z1:¬((((qZ s.seq 8).size+(qZ s.size 8).size:Nat):Int)>9223372036854775807):=by rw [hs,hs];decide
 have z2:¬((((qZ s.seq 8++qZ s.size 8).size+s.root.bytes.size:Nat):Int)>9223372036854775807):=by rw [hb];simp [hs]
 have hh:=zeX (qZ s.seq 8++qZ s.size 8++s.root.bytes) (by rw [zbk];show (ye s 6).length≤_;rw [zbj s (by omega)];omega)
 have eT:(qZ s.seq 8++qZ s.size 8++s.root.bytes).data.toList=ye s 6:=by rw [zbk]
 rw [eT] at hh
 have ho:=zfH ((zG (ye s 6)).a.toNat:Int)
 have hm:(orI .u64 ((zG (ye s 6)).a.toNat:Int) 1).toNat=zaN s:=rfl
 rw [hm] at ho
 generalize zG (ye s 6)=H at *
 simp -implicitDefEqProofs only [go_sem]
 refine Want.intro (je _ h.q) ?_
 simp -implicitDefEqProofs only [go_sem]
 refine Want.intro (je _ h.z) ?_
 simp -implicitDefEqProofs only [go_sem,z1]
 refine Want.intro (zq8 _ h.r) ?_
 simp -implicitDefEqProofs only [go_sem,z2]
 refine Want.intro hh ?_
 simp -implicitDefEqProofs only [go_sem,ho]
theorem zmN (s:MSlot):CallR Tryz.prog 128 [.agg s.cs] (vU (zaN s)) []:=by
 refine zj zke false Tryz.f128 ?_
 conv=>enter [1];reduce
 refine jvR Tryz.f128 25 [.tmp 2] (by kernel_rfl) (by decide +kernel) rfl ?_
 have hh:=zhZ ⟨(ye s 6).toArray⟩ (by show (ye s 6).length≤_;rw [zbj s (by omega)];omega)
 have eT:(⟨(ye s 6).toArray⟩:ByteArray).data.toList=ye s 6:=rfl
 rw [eT] at hh
 have ho:=zfH ((zG (ye s 6)).a.toNat:Int)
 have hm:(orI .u64 ((zG (ye s 6)).a.toNat:Int) 1).toNat=zaN s:=rfl
 rw [hm] at ho
 generalize zG (ye s 6)=H at *
 simp -implicitDefEqProofs only [go_sem]
 refine WantM.intro (zm9 s) ?_
 have h17:(1:Int)≤((7:Nat):Int):=by decide
 simp -implicitDefEqProofs only [go_sem,h17]
 refine qO [(3,1)] (fun m z=>∃i,i≤6∧m=6 - i∧z=⟨25,[(3,.blk 3 0 [] 1 0 (ye s i).length),(7,.blk 7 0 [] 1 1 6),(8,vI ((6:Nat):Int)),(9,vI i)],[(3,0,one ⟨1,(ye s i).map zt,2,false⟩),(7,0,one ⟨1,znn 7 10007 0,0,false⟩),(10007,0,one ⟨7,[s.cs],0,false⟩)],1⟩) 6 ?_ ?_
 ·simp -implicitDefEqProofs only [go_sem]
  exact ⟨0,by omega,rfl,rfl⟩
 ·rintro m z ⟨i,hi,rfl,rfl⟩
  have hlen:=zbj s hi
  have hi':i=0∨i=1∨i=2∨i=3∨i=4∨i=5∨i=6:=by omega
  rcases hi' with rfl | rfl | rfl | rfl | rfl | rfl | rfl
  ·have hlt':((0:Nat):Int)<((6:Nat):Int):=by decide
   have w4:IntKind.i64.wrap (((0:Nat):Int)+1)=((1:Nat):Int):=by decide
   have e:ye s 1=ye s 0++low s.seq 8:=by simp [ye]
   simp -implicitDefEqProofs only [go_sem,hlt',w4]
   refine WantM.intro (zaG (ye s 0) s.seq (by omega)) ?_
   simp -implicitDefEqProofs only [go_sem,w4]
   exact ⟨5 - 0,by omega,1,by omega,rfl,by rw [e]⟩
  ·have hlt':((1:Nat):Int)<((6:Nat):Int):=by decide
   have w4:IntKind.i64.wrap (((1:Nat):Int)+1)=((2:Nat):Int):=by decide
   have e:ye s 2=ye s 1++low s.size 8:=by simp [ye]
   simp -implicitDefEqProofs only [go_sem,hlt',w4]
   refine WantM.intro (zaG (ye s 1) s.size (by omega)) ?_
   simp -implicitDefEqProofs only [go_sem,w4]
   exact ⟨5 - 1,by omega,2,by omega,rfl,by rw [e]⟩
  ·have hlt':((2:Nat):Int)<((6:Nat):Int):=by decide
   have w4:IntKind.i64.wrap (((2:Nat):Int)+1)=((3:Nat):Int):=by decide
   have e:ye s 3=ye s 2++low s.root.a 8:=by simp [ye]
   simp -implicitDefEqProofs only [go_sem,hlt',w4]
   refine WantM.intro (zaG (ye s 2) s.root.a (by omega)) ?_
   simp -implicitDefEqProofs only [go_sem,w4]
   exact ⟨5 - 2,by omega,3,by omega,rfl,by rw [e]⟩
  ·have hlt':((3:Nat):Int)<((6:Nat):Int):=by decide
   have w4:IntKind.i64.wrap (((3:Nat):Int)+1)=((4:Nat):Int):=by decide
   have e:ye s 4=ye s 3++low s.root.b 8:=by simp [ye]
   simp -implicitDefEqProofs only [go_sem,hlt',w4]
   refine WantM.intro (zaG (ye s 3) s.root.b (by omega)) ?_
   simp -implicitDefEqProofs only [go_sem,w4]
   exact ⟨5 - 3,by omega,4,by omega,rfl,by rw [e]⟩
  ·have hlt':((4:Nat):Int)<((6:Nat):Int):=by decide
   have w4:IntKind.i64.wrap (((4:Nat):Int)+1)=((5:Nat):Int):=by decide
   have e:ye s 5=ye s 4++low s.root.c 8:=by simp [ye]
   simp -implicitDefEqProofs only [go_sem,hlt',w4]
   refine WantM.intro (zaG (ye s 4) s.root.c (by omega)) ?_
   simp -implicitDefEqProofs only [go_sem,w4]
   exact ⟨5 - 4,by omega,5,by omega,rfl,by rw [e]⟩
  ·have hlt':((5:Nat):Int)<((6:Nat):Int):=by decide
   have w4:IntKind.i64.wrap (((5:Nat):Int)+1)=((6:Nat):Int):=by decide
   have e:ye s 6=ye s 5++low s.root.d 8:=by simp [ye]
   simp -implicitDefEqProofs only [go_sem,hlt',w4]
   refine WantM.intro (zaG (ye s 5) s.root.d (by omega)) ?_
   simp -implicitDefEqProofs only [go_sem,w4]
   exact ⟨5 - 5,by omega,6,by omega,rfl,by rw [e]⟩
  ·have hlt':¬(((6:Nat):Int)<((6:Nat):Int)):=by decide
   simp -implicitDefEqProofs only [go_sem,hlt',xl]
   refine Want.intro hh ?_
   simp -implicitDefEqProofs only [go_sem,ho]
theorem zra (s:MSlot) (h:s.ok):CallR Tryz.prog 69 [.agg s.cs] (vB (zE s)) []:=by
 refine zj zke false Tryz.f69 ?_
 conv=>enter [1];reduce
 refine jvR Tryz.f69 28 [.tmp 2] (by kernel_rfl) (by decide +kernel) rfl ?_
 unfold zE
 have hs:=zmN s
 generalize zaN s=S at *
 simp -implicitDefEqProofs only [go_sem]
 refine Want.intro hs ?_
 cases e1:((s.sum:Int)==(S:Int)) with
 | false=>simp -implicitDefEqProofs only [go_sem,e1,ze,zf,zg,zc,Bool.false_and]
 | true=>
  by_cases e2:(s.seq:Int)≥1
  ·by_cases e3:(s.seq:Int)≤1000000000
   ·by_cases e4:(s.size:Int)≥1
    ·by_cases e5:(s.size:Int)≤256<;>simp -implicitDefEqProofs only [go_sem,e1,e2,e3,e4,e5,ze,zf,zg,zc,Bool.true_and]
    ·simp -implicitDefEqProofs only [go_sem,e1,e2,e3,e4,ze,zf,zg,zc,Bool.true_and,Bool.false_and]
   ·simp -implicitDefEqProofs only [go_sem,e1,e2,e3,ze,zf,zg,zc,Bool.true_and,Bool.false_and]
  ·simp -implicitDefEqProofs only [go_sem,e1,e2,ze,zf,zg,zc,Bool.true_and,Bool.false_and]
theorem zmQ (s:MSlot) (h:s.ok):CallR Tryz.prog 114 [.agg s.cs] (vB (zE s)) []:=by
 refine zj zke false Tryz.f114 ?_
 conv=>enter [1];reduce
 refine jvR Tryz.f114 28 [.tmp 2] (by kernel_rfl) (by decide +kernel) rfl ?_
 unfold zE
 have hs:=zoh s h
 generalize zaN s=S at *
 simp -implicitDefEqProofs only [go_sem]
 refine Want.intro hs ?_
 cases e1:((s.sum:Int)==(S:Int)) with
 | false=>simp -implicitDefEqProofs only [go_sem,e1,ze,zf,zg,zc,Bool.false_and]
 | true=>
  by_cases e2:(s.seq:Int)≥1
  ·by_cases e3:(s.seq:Int)≤1000000000
   ·by_cases e4:(s.size:Int)≥1
    ·by_cases e5:(s.size:Int)≤256<;>simp -implicitDefEqProofs only [go_sem,e1,e2,e3,e4,e5,ze,zf,zg,zc,Bool.true_and]
    ·simp -implicitDefEqProofs only [go_sem,e1,e2,e3,e4,ze,zf,zg,zc,Bool.true_and,Bool.false_and]
   ·simp -implicitDefEqProofs only [go_sem,e1,e2,e3,ze,zf,zg,zc,Bool.true_and,Bool.false_and]
  ·simp -implicitDefEqProofs only [go_sem,e1,e2,ze,zf,zg,zc,Bool.true_and,Bool.false_and]
theorem zrd (d:MDisk) (h:d.ok):CallR Tryz.prog 54 [.agg d.cs] (.tup [.agg (zI d).1.cs,vI (zI d).2]) []:=by
 refine zj zke false Tryz.f54 ?_
 conv=>enter [1];reduce
 refine jvR Tryz.f54 39 [.cell 2 122,.tmp 3] (by kernel_rfl) (by decide +kernel) rfl ?_
 have o1:=zra d.one h.a
 have o2:=zra d.two h.b
 unfold zI
 simp -implicitDefEqProofs only [go_sem]
 refine Want.intro o1 ?_
 cases h1:zE d.one with
 | false=>
  simp -implicitDefEqProofs only [go_sem,h1,zb,za]
  refine Want.intro o2 ?_
  cases h2:zE d.two with
  | false=>
   simp -implicitDefEqProofs only [go_sem,h2,ze,zf,zg,zc,zb,za]
   rfl
  | true=>
   have b2:=zW h2
   have w1:IntKind.i64.wrap (d.two.seq:Int)=d.two.seq:=wrS (by omega)
   have w2:IntKind.i64.wrap (d.two.size:Int)=d.two.size:=wrS (by omega)
   simp -implicitDefEqProofs only [go_sem,h2,ze,zf,zg,zc,zb,za,w1,w2]
   rfl
 | true=>
  have b1:=zW h1
  have w3:IntKind.i64.wrap (d.one.seq:Int)=d.one.seq:=wrS (by omega)
  have w4:IntKind.i64.wrap (d.one.size:Int)=d.one.size:=wrS (by omega)
  simp -implicitDefEqProofs only [go_sem,h1,zb,za]
  refine Want.intro o2 ?_
  cases h2:zE d.two with
  | false=>
   simp -implicitDefEqProofs only [go_sem,h2,ze,zf,zg,zc,zb,za,w3,w4]
   rfl
  | true=>
   have b2:=zW h2
   have w1:IntKind.i64.wrap (d.two.seq:Int)=d.two.seq:=wrS (by omega)
   have w2:IntKind.i64.wrap (d.two.size:Int)=d.two.size:=wrS (by omega)
   by_cases q:d.two.seq>d.one.seq
   ·have q':(d.two.seq:Int)>(d.one.seq:Int):=by omega
    simp -implicitDefEqProofs only [go_sem,h2,q,q',ze,zf,zg,zc,zb,za,w1,w2]
    rfl
   ·have q':¬((d.two.seq:Int)>(d.one.seq:Int)):=by omega
    simp -implicitDefEqProofs only [go_sem,h2,q,q',ze,zf,zg,zc,zb,za,w3,w4]
    rfl
theorem zre (d:MDisk) (h:d.ok):CallR Tryz.prog 52 [.agg d.cs] (.tup [.agg (zI d).1.cs,vI (zI d).2]) []:=by
 refine zj zke false Tryz.f52 ?_
 conv=>enter [1];reduce
 refine jvR Tryz.f52 52 [.cell 2 122,.tmp 3] (by kernel_rfl) (by decide +kernel) rfl ?_
 have o1:=zmQ d.one h.a
 have o2:=zmQ d.two h.b
 unfold zI
 simp -implicitDefEqProofs only [go_sem]
 refine Want.intro o1 ?_
 simp -implicitDefEqProofs only [go_sem]
 refine Want.intro o2 ?_
 cases h1:zE d.one with
 | false=>
  cases h2:zE d.two with
  | false=>
   simp -implicitDefEqProofs only [go_sem,h1,h2,Bool.not_true,Bool.not_false,ze,zf,zg,zc,zb,za]
   rfl
  | true=>
   have b2:=zW h2
   have w1:IntKind.i64.wrap (d.two.seq:Int)=d.two.seq:=wrS (by omega)
   have w2:IntKind.i64.wrap (d.two.size:Int)=d.two.size:=wrS (by omega)
   simp -implicitDefEqProofs only [go_sem,h1,h2,Bool.not_true,Bool.not_false,ze,zf,zg,zc,zb,za,w1,w2]
   rfl
 | true=>
  have b1:=zW h1
  have w3:IntKind.i64.wrap (d.one.seq:Int)=d.one.seq:=wrS (by omega)
  have w4:IntKind.i64.wrap (d.one.size:Int)=d.one.size:=wrS (by omega)
  cases h2:zE d.two with
  | false=>
   simp -implicitDefEqProofs only [go_sem,h1,h2,Bool.not_true,Bool.not_false,ze,zf,zg,zc,zb,za,w3,w4]
   rfl
  | true=>
   have b2:=zW h2
   have w1:IntKind.i64.wrap (d.two.seq:Int)=d.two.seq:=wrS (by omega)
   have w2:IntKind.i64.wrap (d.two.size:Int)=d.two.size:=wrS (by omega)
   by_cases q:d.two.seq>d.one.seq
   ·have q':¬((d.one.seq:Int)≥(d.two.seq:Int)):=by omega
    simp -implicitDefEqProofs only [go_sem,h1,h2,q,q',Bool.not_true,Bool.not_false,ze,zf,zg,zc,zb,za,w1,w2]
    rfl
   ·have q':((d.one.seq:Int)≥(d.two.seq:Int)):=by omega
    simp -implicitDefEqProofs only [go_sem,h1,h2,q,q',Bool.not_true,Bool.not_false,ze,zf,zg,zc,zb,za,w3,w4]
    rfl
theorem zos (d:MDisk) (h:d.ok):CallR Tryz.prog 13 [.agg d.cs] (.agg (zA d).cs) []:=by
 refine zj zke false Tryz.f13 ?_
 conv=>enter [1];reduce
 refine jvR Tryz.f13 19 [.cell 2 47] (by kernel_rfl) (by decide +kernel) rfl ?_
 have hr:=zrd d h
 have hHO:=zhZ ⟨#[]⟩ (by decide)
 have eHO:zG (⟨#[]⟩:ByteArray).data.toList=zG []:=rfl
 rw [eHO] at hHO
 unfold zA
 generalize zG []=H at *
 generalize zI d=R at *
 obtain ⟨r,a⟩:=R
 simp -implicitDefEqProofs only [go_sem]
 refine Want.intro hr ?_
 by_cases e:a=0
 ·subst e
  simp -implicitDefEqProofs only [go_sem,beq_self_eq_true,zb,za]
  refine Want.intro hHO ?_
  simp -implicitDefEqProofs only [go_sem]
  rfl
 ·have e':(a==0)=false:=beq_eq_false_iff_ne.2 e
  simp -implicitDefEqProofs only [go_sem,e,e',zb,za]
theorem zl0 (d:MDisk) (h:d.ok):CallR Tryz.prog 12 [.agg d.cs] (.agg (zA d).cs) []:=by
 refine zj zke false Tryz.f12 ?_
 conv=>enter [1];reduce
 refine jvR Tryz.f12 19 [.cell 2 47] (by kernel_rfl) (by decide +kernel) rfl ?_
 have hr:=zre d h
 have hHO:=zeX ⟨#[]⟩ (by decide)
 have eHO:zG (⟨#[]⟩:ByteArray).data.toList=zG []:=rfl
 rw [eHO] at hHO
 unfold zA
 generalize zG []=H at *
 generalize zI d=R at *
 obtain ⟨r,a⟩:=R
 simp -implicitDefEqProofs only [go_sem]
 refine Want.intro hr ?_
 by_cases e:a=0
 ·subst e
  simp -implicitDefEqProofs only [go_sem,beq_self_eq_true,zb,za]
  refine Want.intro hHO ?_
  simp -implicitDefEqProofs only [go_sem]
  rfl
 ·have e':(a==0)=false:=beq_eq_false_iff_ne.2 e
  simp -implicitDefEqProofs only [go_sem,e,e',zb,za]
end Go.Proofs.YtpjpkmhaffmbmaaGreat.E
end
section
namespace Go.Proofs.YtpjpkmhaffmbmaaGreat.E
open Go Go.RowKit
set_option maxHeartbeats 4000000
set_option maxRecDepth 10000
set_option linter.unusedSimpArgs false
set_option linter.unusedVariables false
set_option linter.unusedSectionVars false
def dcW2:Dec:=⟨[(70,.cm [true])],[9,10,11],[22,30,37,38,39,40,49,56,76,80,87,141,143,159,237,250,259],false⟩
attribute [-go_sem] zbZ
@[go_sem] theorem zn9:zbZ Tryz.prog 131 1=some 3:=by kernel_rfl
theorem zrb (s:MSlot) (w:Int) (v:Nat):CallR Tryz.prog 61 [.agg s.cs,vI w,vU v] (.agg (zcQ s w v).cs) []:=by
 refine zj dcW2 false Tryz.f61 ?_
 conv=>enter [1];reduce
 refine jvR Tryz.f61 40 [.cell 6 27] (by kernel_rfl) (by decide +kernel) rfl ?_
 unfold zcQ
 by_cases e0:w=0
 ·subst e0;simp -implicitDefEqProofs only [go_sem,zb,za,beq_self_eq_true]
 ·have f0:(w==0)=false:=beq_eq_false_iff_ne.2 e0
  by_cases e1:w=1
  ·subst e1;simp -implicitDefEqProofs only [go_sem,zb,za,beq_self_eq_true]
  ·have f1:(w==1)=false:=beq_eq_false_iff_ne.2 e1
   by_cases e2:w=2
   ·subst e2;simp -implicitDefEqProofs only [go_sem,zb,za,beq_self_eq_true]
   ·have f2:(w==2)=false:=beq_eq_false_iff_ne.2 e2
    by_cases e3:w=3
    ·subst e3;simp -implicitDefEqProofs only [go_sem,zb,za,beq_self_eq_true]
    ·have f3:(w==3)=false:=beq_eq_false_iff_ne.2 e3
     by_cases e4:w=4
     ·subst e4;simp -implicitDefEqProofs only [go_sem,zb,za,beq_self_eq_true]
     ·have f4:(w==4)=false:=beq_eq_false_iff_ne.2 e4
      by_cases e5:w=5
      ·subst e5;simp -implicitDefEqProofs only [go_sem,zb,za,beq_self_eq_true]
      ·have f5:(w==5)=false:=beq_eq_false_iff_ne.2 e5
       by_cases e6:w=6
       ·subst e6;simp -implicitDefEqProofs only [go_sem,zb,za,beq_self_eq_true]
       ·have f6:(w==6)=false:=beq_eq_false_iff_ne.2 e6
        simp -implicitDefEqProofs only [go_sem,f0,f1,f2,f3,f4,f5,f6,e0,e1,e2,e3,e4,e5,e6,zb,za]
theorem zbB {d:MDisk} {l:List MRaw} {i:Nat} (h:i<l.length):zC d (l.take (i+1))=xh (zC d (l.take i)) l[i]:=by
 unfold zC
 rw [List.take_succ_eq_append_getElem h,List.foldl_append]
 rfl
def zdisk:MDisk:=⟨⟨0,0,0,dig0⟩,⟨0,0,0,dig0⟩⟩
theorem zlZ (d:MDisk) (l:List MRaw) (hl:l.length≤maxLen):CallR Tryz.prog 15 [.agg d.cs,.ro 3 (l.map MRaw.cs)] (.agg (zC d l).cs) []:=by
 refine zj dcW2 false Tryz.f15 ?_
 conv=>enter [1];reduce
 refine jvR Tryz.f15 40 [.cell 4 29] (by kernel_rfl) (by decide +kernel) rfl ?_
 simp -implicitDefEqProofs only [go_sem]
 refine zU (fun m z=>∃i,i≤l.length∧m=l.length - i∧z=⟨40,[(1,.ro 3 (l.map MRaw.cs)),(2,.ptr 2 0 [] 14 0 0),(4,.ptr 4 0 [] 14 0 0),(5,vI i)],[(2,0,one ⟨14,[(zC d (l.take i)).cs],0,false⟩),(4,0,one ⟨14,[zdisk.cs],0,false⟩)],1⟩) l.length ?_ ?_
 ·simp -implicitDefEqProofs only [go_sem]
  exact ⟨0,Nat.zero_le _,rfl,rfl⟩
 ·rintro m z ⟨i,hi,rfl,rfl⟩
  rcases Nat.lt_or_ge i l.length with hlt | hge
  ·have hlt':(i:Int)<(l.length:Int):=by omega
   have hg:l[i]?=some l[i]:=List.getElem?_eq_getElem hlt
   have hw:=zB hlt hl
   have hst:=zbB (d:=d) hlt
   generalize l[i]=r at *
   generalize zC d (l.take i)=D at *
   have hp1:=zrb D.one r.word r.value
   have hp2:=zrb D.two r.word r.value
   unfold xh at hst
   by_cases e1:r.slot=1
   ·have f1:(r.slot==1)=true:=by rw [e1];rfl
    have f2:(r.slot==2)=false:=by rw [e1];rfl
    rw [if_pos e1] at hst
    simp -implicitDefEqProofs only [go_sem,hlt',hg,hw,f1,f2,zb,za]
    refine Want.intro hp1 ?_
    simp -implicitDefEqProofs only [go_sem,hlt',hg,hw,f1,f2,zb,za]
    exact ⟨_,by omega,i+1,hlt,rfl,by rw [hst]⟩
   ·have f1:(r.slot==1)=false:=beq_eq_false_iff_ne.2 e1
    rw [if_neg e1] at hst
    by_cases e2:r.slot=2
    ·have f2:(r.slot==2)=true:=by rw [e2];rfl
     rw [if_pos e2] at hst
     simp -implicitDefEqProofs only [go_sem,hlt',hg,hw,f1,f2,zb,za]
     refine Want.intro hp2 ?_
     simp -implicitDefEqProofs only [go_sem,hlt',hg,hw,f1,f2,zb,za]
     exact ⟨_,by omega,i+1,hlt,rfl,by rw [hst]⟩
    ·have f2:(r.slot==2)=false:=beq_eq_false_iff_ne.2 e2
     rw [if_neg e2] at hst
     simp -implicitDefEqProofs only [go_sem,hlt',hg,hw,f1,f2,zb,za]
     exact ⟨_,by omega,i+1,hlt,rfl,by rw [hst]⟩
  ·have hi:i=l.length:=by omega
   subst hi
   have hlt':¬((l.length:Int)<(l.length:Int)):=by omega
   simp -implicitDefEqProofs only [go_sem,hlt',List.take_length]
theorem c68_c (d:MDisk) (l:List MRaw) (hl:l.length≤maxLen):CallR Tryz.prog 68 [.agg d.cs,.ro 3 (l.map MRaw.cs)] (.agg (zC d l).cs) []:=by
 refine zj dcW2 false Tryz.f68 ?_
 conv=>enter [1];reduce
 refine jvR Tryz.f68 43 [.cell 4 29] (by kernel_rfl) (by decide +kernel) rfl ?_
 have x0:(0:Int)<((7:Nat):Int):=by decide
 have x1:(1:Int)<((7:Nat):Int):=by decide
 have x2:(2:Int)<((7:Nat):Int):=by decide
 have x3:(3:Int)<((7:Nat):Int):=by decide
 have x4:(4:Int)<((7:Nat):Int):=by decide
 have x5:(5:Int)<((7:Nat):Int):=by decide
 have x6:(6:Int)<((7:Nat):Int):=by decide
 simp -implicitDefEqProofs only [go_sem]
 refine zU (fun m z=>∃i,i≤l.length∧m=l.length - i∧z=⟨43,[(2,.ptr 2 0 [] 14 0 0),(4,.ptr 4 0 [] 14 0 0),(7,.ro 3 (l.map MRaw.cs)),(8,vI l.length),(9,vI i)],[(2,0,one ⟨14,[(zC d (l.take i)).cs],0,false⟩),(4,0,one ⟨14,[zdisk.cs],0,false⟩)],1⟩) l.length ?_ ?_
 ·simp -implicitDefEqProofs only [go_sem]
  exact ⟨0,Nat.zero_le _,rfl,rfl⟩
 ·rintro m z ⟨i,hi,rfl,rfl⟩
  rcases Nat.lt_or_ge i l.length with hlt | hge
  ·have hlt':(i:Int)<(l.length:Int):=by omega
   have hg:l[i]?=some l[i]:=List.getElem?_eq_getElem hlt
   have hw:=zB hlt hl
   have hst:=zbB (d:=d) hlt
   generalize l[i]=r at *
   generalize zC d (l.take i)=D at *
   obtain ⟨sl,wd,v⟩:=r
   simp only [xh] at hst
   have hin:=qq wd 0 6
   simp -implicitDefEqProofs only [go_sem,hlt',hg,hw,zb,za]
   refine Want.intro hin ?_
   cases hi6:mIn wd 0 6 with
   | false=>
    have hk:¬(0≤wd∧wd≤6):=fun h=>by rw [mIn_iff.2 h] at hi6;cases hi6
    have hp:∀s:MSlot,zcQ s wd v=s:=fun s=>by unfold zcQ;repeat' (rw [if_neg (by omega)])
    simp only [hp,ite_self] at hst
    simp -implicitDefEqProofs only [go_sem,hi6,hw,Bool.not_false,zb,za]
    exact ⟨_,by omega,i+1,hlt,rfl,by rw [hst]⟩
   | true=>
    simp -implicitDefEqProofs only [go_sem,hi6,hw,Bool.not_true,zb,za]
    have k6:=mIn_iff.1 hi6
    have hwd:wd=0∨wd=1∨wd=2∨wd=3∨wd=4∨wd=5∨wd=6:=by omega
    by_cases e1:sl=1
    ·subst e1
     rw [if_pos rfl] at hst
     simp -implicitDefEqProofs only [go_sem,hw,beq_self_eq_true,zb,za]
     refine WantM.intro (wds_1 D) ?_
     rcases hwd with rfl | rfl | rfl | rfl | rfl | rfl | rfl
     all_goals
      simp -implicitDefEqProofs only [go_sem,hw,x0,x1,x2,x3,x4,x5,x6]
      exact ⟨_,by omega,i+1,hlt,rfl,by rw [hst];rfl⟩
    ·have f1:(sl==1)=false:=beq_eq_false_iff_ne.2 e1
     rw [if_neg e1] at hst
     by_cases e2:sl=2
     ·subst e2
      rw [if_pos rfl] at hst
      simp -implicitDefEqProofs only [go_sem,hw,f1,beq_self_eq_true,zb,za]
      refine WantM.intro (wds_2 D) ?_
      rcases hwd with rfl | rfl | rfl | rfl | rfl | rfl | rfl
      all_goals
       simp -implicitDefEqProofs only [go_sem,hw,x0,x1,x2,x3,x4,x5,x6]
       exact ⟨_,by omega,i+1,hlt,rfl,by rw [hst];rfl⟩
     ·have f2:(sl==2)=false:=beq_eq_false_iff_ne.2 e2
      rw [if_neg e2] at hst
      simp -implicitDefEqProofs only [go_sem,hw,f1,f2,zb,za]
      exact ⟨_,by omega,i+1,hlt,rfl,by rw [hst]⟩
  ·have hi:i=l.length:=by omega
   subst hi
   have hlt':¬((l.length:Int)<(l.length:Int)):=by omega
   simp -implicitDefEqProofs only [go_sem,hlt',List.take_length]
end Go.Proofs.YtpjpkmhaffmbmaaGreat.E
end
section
namespace Go.Proofs.YtpjpkmhaffmbmaaGreat.E
open Go Go.RowKit
set_option maxHeartbeats 4000000
set_option maxRecDepth 10000
set_option linter.unusedSimpArgs false
set_option linter.unusedVariables false
set_option linter.unusedSectionVars false
def dcW3:Dec:=⟨[(70,.cm [true])],[9,10,11],[22,30,37,38,39,40,49,56,76,80,87,141,143,159,237,250,259],false⟩
def zdj (d:MDisk):Int:=if (zI d).2=1 then 2 else 1
def wT (d:MDisk) (size:Int) (root:MDig):MSlot:=⟨0,((zI d).1.seq+1).toNat,size.toNat,root⟩
def xU (to:Int) (s:MSlot) (S:Nat):List MRaw:=[⟨to,0,0⟩,⟨to,1,s.seq⟩,⟨to,2,s.size⟩,⟨to,3,s.root.a⟩,⟨to,4,s.root.b⟩,⟨to,5,s.root.c⟩,⟨to,6,s.root.d⟩,⟨to,0,S⟩]
theorem xm (d:MDisk) (size:Int) (root:MDig):yQ d size root=if mIn size 1 256=true∧(zI d).1.seq≠1000000000 then xU (zdj d) (wT d size root) (zaN (wT d size root)) else []:=rfl
theorem zi2 {d:MDisk} {size:Int} {root:MDig} (hr:root.ok) (hs:mIn size 1 256=true):(wT d size root).ok:=by
 have:=wi d
 have:=mIn_iff.1 hs
 exact ⟨by show 0<_;omega,by show ((zI d).1.seq+1).toNat<_;omega,by show size.toNat<_;omega,hr⟩
theorem MRaw.wide (l:List MRaw):xT 3 (l.map MRaw.cs)=true:=by
 induction l with
 | nil=>rfl
 | cons a l ih=>simp only [List.map_cons,xT,ih,MRaw.cs];rfl
theorem MRaw.flat (l:List MRaw):flL (l.map MRaw.cs)=2:=by
 induction l with
 | nil=>rfl
 | cons a l ih=>simp only [List.map_cons,flL,ih,MRaw.cs];rfl
attribute [go_sem] MRaw.wide MRaw.flat
theorem zkp (d:MDisk) (size:Int) (root:MDig) (h:d.ok) (hr:root.ok):CallR Tryz.prog 113 [.agg d.cs,vI size,.agg root.cs] (.blk 0 0 [] 3 0 (yQ d size root).length) [([],⟨3,(yQ d size root).map MRaw.cs,2,false⟩)]:=by
 refine zj dcW3 false Tryz.f113 ?_
 conv=>enter [1];reduce
 refine jvR Tryz.f113 66 [.tmp 6] (by kernel_rfl) (by decide +kernel) rfl ?_
 have hrd:=zre d h
 have hin:=zao size 1 256
 have hok:=fun hs=>zoh (wT d size root) (zi2 (d:=d) hr hs)
 have hbd:=wi d
 rw [xm]
 generalize hS:zaN (wT d size root)=S at *
 unfold wT zdj at *
 generalize zI d=R at *
 obtain ⟨r,a⟩:=R
 simp only at hbd hok ⊢
 simp -implicitDefEqProofs only [go_sem]
 refine Want.intro hrd ?_
 simp -implicitDefEqProofs only [go_sem]
 refine Want.intro hin ?_
 cases hi:mIn size 1 256 with
 | false=>
  simp -implicitDefEqProofs only [go_sem,Bool.not_false,ze,zf,zg,zc,zb,za,Bool.false_eq_true,false_and,if_false]
 | true=>
  have ki:=mIn_iff.1 hi
  have hok:=hok hi
  by_cases q:r.seq=1000000000
  ·have q':r.seq≥1000000000:=by omega
   simp -implicitDefEqProofs only [go_sem,q,q',Bool.not_true,ze,zf,zg,zc,zb,za,ne_eq,not_true_eq_false,and_false,if_false]
  ·have q':¬r.seq≥1000000000:=by omega
   have w1:IntKind.i64.wrap (r.seq+1)=r.seq+1:=wrS (by omega)
   have w2:IntKind.u64.wrap (r.seq+1)=((r.seq+1).toNat:Int):=by rw [wU];omega
   have w3:IntKind.u64.wrap size=(size.toNat:Int):=by rw [wU];omega
   by_cases e:a=1
   ·subst e
    simp -implicitDefEqProofs only [go_sem,q,q',w1,w2,w3,Bool.not_true,ze,zf,zg,zc,zb,za,ne_eq,not_false_eq_true,and_true,if_true,beq_self_eq_true]
    refine Want.intro hok ?_
    simp -implicitDefEqProofs only [go_sem,xU]
    rfl
   ·have e':(a==1)=false:=beq_eq_false_iff_ne.2 e
    simp -implicitDefEqProofs only [go_sem,q,q',e,e',w1,w2,w3,Bool.not_true,ze,zf,zg,zc,zb,za,ne_eq,not_false_eq_true,and_true,if_true,beq_self_eq_true]
    refine Want.intro hok ?_
    simp -implicitDefEqProofs only [go_sem,xU]
    rfl
theorem zq9 (l:List MRaw) (hl:l.length * 24≤140737488355328):CallR Tryz.prog 71 [.ro 3 (l.map MRaw.cs)] (.blk 0 0 [] 3 0 l.length) [([],⟨3,l.map MRaw.cs,2,false⟩)]:=by
 refine zj dcW3 false Tryz.f71 ?_
 conv=>enter [1];reduce
 refine jvR Tryz.f71 14 [.tmp 2] (by kernel_rfl) (by decide +kernel) rfl ?_
 simp -implicitDefEqProofs only [go_sem]
 refine zi (fun h=>?_) (fun h=>?_)
 ·have:l=[]:=by simpa using h
  subst this
  simp -implicitDefEqProofs only [go_sem]
 ·have hm:=zbs hl (by omega)
  have hmk:((24:Nat):Int) * (l.length:Int)≤281474976710656∧(l.length:Int)≤9223372036854775807:=by unfold maxLen at hm;omega
  simp -implicitDefEqProofs only [go_sem,h,hmk,List.length_replicate]
theorem zrF (d:MDisk) (size:Int) (root:MDig) (h:d.ok):CallR Tryz.prog 110 [.agg d.cs,vI size,.agg root.cs] (.blk 0 0 [] 3 0 (yQ d size root).length) [([],⟨3,(yQ d size root).map MRaw.cs,2,false⟩)]:=by
 refine zj dcW3 false Tryz.f110 ?_
 conv=>enter [1];reduce
 refine jvR Tryz.f110 68 [.tmp 6] (by kernel_rfl) (by decide +kernel) rfl ?_
 have hrd:=zrd d h
 have hin:=qq size 1 256
 have hok:=zmN (wT d size root)
 have hbd:=wi d
 rw [xm]
 generalize hS:zaN (wT d size root)=S at *
 unfold wT zdj at *
 generalize zI d=R at *
 obtain ⟨r,a⟩:=R
 simp only at hbd hok ⊢
 simp -implicitDefEqProofs only [go_sem]
 refine Want.intro hrd ?_
 simp -implicitDefEqProofs only [go_sem]
 refine Want.intro hin ?_
 cases hi:mIn size 1 256 with
 | false=>
  simp -implicitDefEqProofs only [go_sem,Bool.not_false,ze,zf,zg,zc,zb,za,Bool.false_eq_true,false_and,if_false]
 | true=>
  have ki:=mIn_iff.1 hi
  by_cases q:r.seq=1000000000
  ·have q':(r.seq==1000000000)=true:=by rw [q];rfl
   simp -implicitDefEqProofs only [go_sem,q,q',Bool.not_true,ze,zf,zg,zc,zb,za,ne_eq,not_true_eq_false,and_false,if_false]
  ·have q':(r.seq==1000000000)=false:=beq_eq_false_iff_ne.2 q
   have w1:IntKind.i64.wrap (r.seq+1)=r.seq+1:=wrS (by omega)
   have w2:IntKind.u64.wrap (r.seq+1)=((r.seq+1).toNat:Int):=by rw [wU];omega
   have w3:IntKind.u64.wrap size=(size.toNat:Int):=by rw [wU];omega
   by_cases e:a=1
   ·subst e
    simp -implicitDefEqProofs only [go_sem,q,q',w1,w2,w3,Bool.not_true,ze,zf,zg,zc,zb,za,ne_eq,not_false_eq_true,and_true,if_true,beq_self_eq_true]
    refine Want.intro hok ?_
    simp -implicitDefEqProofs only [go_sem]
    refine WantM.intro (zm9 ⟨S,(r.seq+1).toNat,size.toNat,root⟩) ?_
    simp -implicitDefEqProofs only [go_sem]
    refine zU (fun m z=>∃i:Nat,(1≤i∧i≤7)∧m=7 - i∧z=⟨68,[(9,vI 2),(10,.ptr 10 0 [] 7 0 0),(11,.blk 11 0 [] 3 0 ((xU 2 ⟨0,(r.seq+1).toNat,size.toNat,root⟩ S).take i).length),(12,.blk 12 0 [] 1 0 7),(13,vI i)],[(10,0,one ⟨7,[MSlot.cs ⟨S,(r.seq+1).toNat,size.toNat,root⟩],0,false⟩),(11,0,one ⟨3,((xU 2 ⟨0,(r.seq+1).toNat,size.toNat,root⟩ S).take i).map MRaw.cs,2,false⟩),(12,0,one ⟨1,znn 7 10 0,0,false⟩)],1⟩) 6 ?_ ?_
    ·simp -implicitDefEqProofs only [go_sem]
     exact ⟨1,by omega,rfl,rfl⟩
    ·rintro m z ⟨i,hi,rfl,rfl⟩
     have hi':i=1∨i=2∨i=3∨i=4∨i=5∨i=6∨i=7:=by omega
     rcases hi' with rfl | rfl | rfl | rfl | rfl | rfl | rfl
     ·have h1:((1:Nat):Int)≤6:=by decide
      have h2:((1:Nat):Int)<((7:Nat):Int):=by decide
      have w4:IntKind.i64.wrap (((1:Nat):Int)+1)=((2:Nat):Int):=by decide
      have ha:∀x,_:=fun x=>zH (E:=MRaw.cs) (l:=(xU 2 ⟨0,(r.seq+1).toNat,size.toNat,root⟩ S).take 1) (xs:=[x]) (b:=24) (n:=100) (by simp [xU]) (by omega) (by omega)
      simp -implicitDefEqProofs only [go_sem,h1,h2,w4,ha]
      exact ⟨6 - 1,by omega,2,by omega,rfl,rfl⟩
     ·have h1:((2:Nat):Int)≤6:=by decide
      have h2:((2:Nat):Int)<((7:Nat):Int):=by decide
      have w4:IntKind.i64.wrap (((2:Nat):Int)+1)=((3:Nat):Int):=by decide
      have ha:∀x,_:=fun x=>zH (E:=MRaw.cs) (l:=(xU 2 ⟨0,(r.seq+1).toNat,size.toNat,root⟩ S).take 2) (xs:=[x]) (b:=24) (n:=100) (by simp [xU]) (by omega) (by omega)
      simp -implicitDefEqProofs only [go_sem,h1,h2,w4,ha]
      exact ⟨6 - 2,by omega,3,by omega,rfl,rfl⟩
     ·have h1:((3:Nat):Int)≤6:=by decide
      have h2:((3:Nat):Int)<((7:Nat):Int):=by decide
      have w4:IntKind.i64.wrap (((3:Nat):Int)+1)=((4:Nat):Int):=by decide
      have ha:∀x,_:=fun x=>zH (E:=MRaw.cs) (l:=(xU 2 ⟨0,(r.seq+1).toNat,size.toNat,root⟩ S).take 3) (xs:=[x]) (b:=24) (n:=100) (by simp [xU]) (by omega) (by omega)
      simp -implicitDefEqProofs only [go_sem,h1,h2,w4,ha]
      exact ⟨6 - 3,by omega,4,by omega,rfl,rfl⟩
     ·have h1:((4:Nat):Int)≤6:=by decide
      have h2:((4:Nat):Int)<((7:Nat):Int):=by decide
      have w4:IntKind.i64.wrap (((4:Nat):Int)+1)=((5:Nat):Int):=by decide
      have ha:∀x,_:=fun x=>zH (E:=MRaw.cs) (l:=(xU 2 ⟨0,(r.seq+1).toNat,size.toNat,root⟩ S).take 4) (xs:=[x]) (b:=24) (n:=100) (by simp [xU]) (by omega) (by omega)
      simp -implicitDefEqProofs only [go_sem,h1,h2,w4,ha]
      exact ⟨6 - 4,by omega,5,by omega,rfl,rfl⟩
     ·have h1:((5:Nat):Int)≤6:=by decide
      have h2:((5:Nat):Int)<((7:Nat):Int):=by decide
      have w4:IntKind.i64.wrap (((5:Nat):Int)+1)=((6:Nat):Int):=by decide
      have ha:∀x,_:=fun x=>zH (E:=MRaw.cs) (l:=(xU 2 ⟨0,(r.seq+1).toNat,size.toNat,root⟩ S).take 5) (xs:=[x]) (b:=24) (n:=100) (by simp [xU]) (by omega) (by omega)
      simp -implicitDefEqProofs only [go_sem,h1,h2,w4,ha]
      exact ⟨6 - 5,by omega,6,by omega,rfl,rfl⟩
     ·have h1:((6:Nat):Int)≤6:=by decide
      have h2:((6:Nat):Int)<((7:Nat):Int):=by decide
      have w4:IntKind.i64.wrap (((6:Nat):Int)+1)=((7:Nat):Int):=by decide
      have ha:∀x,_:=fun x=>zH (E:=MRaw.cs) (l:=(xU 2 ⟨0,(r.seq+1).toNat,size.toNat,root⟩ S).take 6) (xs:=[x]) (b:=24) (n:=100) (by simp [xU]) (by omega) (by omega)
      simp -implicitDefEqProofs only [go_sem,h1,h2,w4,ha]
      exact ⟨6 - 6,by omega,7,by omega,rfl,rfl⟩
     ·have h1:¬(((7:Nat):Int)≤6):=by decide
      have ha:∀x,_:=fun x=>zH (E:=MRaw.cs) (l:=(xU 2 ⟨0,(r.seq+1).toNat,size.toNat,root⟩ S).take 7) (xs:=[x]) (b:=24) (n:=100) (by simp [xU]) (by omega) (by omega)
      simp -implicitDefEqProofs only [go_sem,h1,ha]
      refine Want.intro (zq9 (xU 2 ⟨0,(r.seq+1).toNat,size.toNat,root⟩ S) (by show 8 * 24≤_;decide)) ?_
      simp -implicitDefEqProofs only [go_sem]
   ·have e':(a==1)=false:=beq_eq_false_iff_ne.2 e
    simp -implicitDefEqProofs only [go_sem,q,q',e,e',w1,w2,w3,Bool.not_true,ze,zf,zg,zc,zb,za,ne_eq,not_false_eq_true,and_true,if_true,beq_self_eq_true]
    refine Want.intro hok ?_
    simp -implicitDefEqProofs only [go_sem]
    refine WantM.intro (zm9 ⟨S,(r.seq+1).toNat,size.toNat,root⟩) ?_
    simp -implicitDefEqProofs only [go_sem]
    refine zU (fun m z=>∃i:Nat,(1≤i∧i≤7)∧m=7 - i∧z=⟨68,[(9,vI 1),(10,.ptr 10 0 [] 7 0 0),(11,.blk 11 0 [] 3 0 ((xU 1 ⟨0,(r.seq+1).toNat,size.toNat,root⟩ S).take i).length),(12,.blk 12 0 [] 1 0 7),(13,vI i)],[(10,0,one ⟨7,[MSlot.cs ⟨S,(r.seq+1).toNat,size.toNat,root⟩],0,false⟩),(11,0,one ⟨3,((xU 1 ⟨0,(r.seq+1).toNat,size.toNat,root⟩ S).take i).map MRaw.cs,2,false⟩),(12,0,one ⟨1,znn 7 10 0,0,false⟩)],1⟩) 6 ?_ ?_
    ·simp -implicitDefEqProofs only [go_sem]
     exact ⟨1,by omega,rfl,rfl⟩
    ·rintro m z ⟨i,hi,rfl,rfl⟩
     have hi':i=1∨i=2∨i=3∨i=4∨i=5∨i=6∨i=7:=by omega
     rcases hi' with rfl | rfl | rfl | rfl | rfl | rfl | rfl
     ·have h1:((1:Nat):Int)≤6:=by decide
      have h2:((1:Nat):Int)<((7:Nat):Int):=by decide
      have w4:IntKind.i64.wrap (((1:Nat):Int)+1)=((2:Nat):Int):=by decide
      have ha:∀x,_:=fun x=>zH (E:=MRaw.cs) (l:=(xU 1 ⟨0,(r.seq+1).toNat,size.toNat,root⟩ S).take 1) (xs:=[x]) (b:=24) (n:=100) (by simp [xU]) (by omega) (by omega)
      simp -implicitDefEqProofs only [go_sem,h1,h2,w4,ha]
      exact ⟨6 - 1,by omega,2,by omega,rfl,rfl⟩
     ·have h1:((2:Nat):Int)≤6:=by decide
      have h2:((2:Nat):Int)<((7:Nat):Int):=by decide
      have w4:IntKind.i64.wrap (((2:Nat):Int)+1)=((3:Nat):Int):=by decide
      have ha:∀x,_:=fun x=>zH (E:=MRaw.cs) (l:=(xU 1 ⟨0,(r.seq+1).toNat,size.toNat,root⟩ S).take 2) (xs:=[x]) (b:=24) (n:=100) (by simp [xU]) (by omega) (by omega)
      simp -implicitDefEqProofs only [go_sem,h1,h2,w4,ha]
      exact ⟨6 - 2,by omega,3,by omega,rfl,rfl⟩
     ·have h1:((3:Nat):Int)≤6:=by decide
      have h2:((3:Nat):Int)<((7:Nat):Int):=by decide
      have w4:IntKind.i64.wrap (((3:Nat):Int)+1)=((4:Nat):Int):=by decide
      have ha:∀x,_:=fun x=>zH (E:=MRaw.cs) (l:=(xU 1 ⟨0,(r.seq+1).toNat,size.toNat,root⟩ S).take 3) (xs:=[x]) (b:=24) (n:=100) (by simp [xU]) (by omega) (by omega)
      simp -implicitDefEqProofs only [go_sem,h1,h2,w4,ha]
      exact ⟨6 - 3,by omega,4,by omega,rfl,rfl⟩
     ·have h1:((4:Nat):Int)≤6:=by decide
      have h2:((4:Nat):Int)<((7:Nat):Int):=by decide
      have w4:IntKind.i64.wrap (((4:Nat):Int)+1)=((5:Nat):Int):=by decide
      have ha:∀x,_:=fun x=>zH (E:=MRaw.cs) (l:=(xU 1 ⟨0,(r.seq+1).toNat,size.toNat,root⟩ S).take 4) (xs:=[x]) (b:=24) (n:=100) (by simp [xU]) (by omega) (by omega)
      simp -implicitDefEqProofs only [go_sem,h1,h2,w4,ha]
      exact ⟨6 - 4,by omega,5,by omega,rfl,rfl⟩
     ·have h1:((5:Nat):Int)≤6:=by decide
      have h2:((5:Nat):Int)<((7:Nat):Int):=by decide
      have w4:IntKind.i64.wrap (((5:Nat):Int)+1)=((6:Nat):Int):=by decide
      have ha:∀x,_:=fun x=>zH (E:=MRaw.cs) (l:=(xU 1 ⟨0,(r.seq+1).toNat,size.toNat,root⟩ S).take 5) (xs:=[x]) (b:=24) (n:=100) (by simp [xU]) (by omega) (by omega)
      simp -implicitDefEqProofs only [go_sem,h1,h2,w4,ha]
      exact ⟨6 - 5,by omega,6,by omega,rfl,rfl⟩
     ·have h1:((6:Nat):Int)≤6:=by decide
      have h2:((6:Nat):Int)<((7:Nat):Int):=by decide
      have w4:IntKind.i64.wrap (((6:Nat):Int)+1)=((7:Nat):Int):=by decide
      have ha:∀x,_:=fun x=>zH (E:=MRaw.cs) (l:=(xU 1 ⟨0,(r.seq+1).toNat,size.toNat,root⟩ S).take 6) (xs:=[x]) (b:=24) (n:=100) (by simp [xU]) (by omega) (by omega)
      simp -implicitDefEqProofs only [go_sem,h1,h2,w4,ha]
      exact ⟨6 - 6,by omega,7,by omega,rfl,rfl⟩
     ·have h1:¬(((7:Nat):Int)≤6):=by decide
      have ha:∀x,_:=fun x=>zH (E:=MRaw.cs) (l:=(xU 1 ⟨0,(r.seq+1).toNat,size.toNat,root⟩ S).take 7) (xs:=[x]) (b:=24) (n:=100) (by simp [xU]) (by omega) (by omega)
      simp -implicitDefEqProofs only [go_sem,h1,ha]
      refine Want.intro (zq9 (xU 1 ⟨0,(r.seq+1).toNat,size.toNat,root⟩ S) (by show 8 * 24≤_;decide)) ?_
      simp -implicitDefEqProofs only [go_sem]
end Go.Proofs.YtpjpkmhaffmbmaaGreat.E
end
section
namespace Go.Proofs.YtpjpkmhaffmbmaaGreat.E
open Go Go.RowKit
set_option linter.unusedVariables false
set_option linter.unusedSimpArgs false
theorem mSum_sum (s:MSlot) (v:Nat):zaN {s with sum:=v}=zaN s:=rfl
theorem put_all (s:MSlot) (to:Int) (S q z:Nat) (r:MDig):
  zcQ (zcQ (zcQ (zcQ (zcQ (zcQ (zcQ (zcQ s 0 0) 1 q) 2 z) 3 r.a) 4 r.b) 5 r.c) 6 r.d) 0 S=⟨S,q,z,r⟩:=rfl
theorem za5 (d:MDisk) (s:MSlot) (S:Nat):zC d (xU 1 s S)={d with one:=⟨S,s.seq,s.size,s.root⟩}:=rfl
theorem zdW (d:MDisk) (s:MSlot) (S:Nat):zC d (xU 2 s S)={d with two:=⟨S,s.seq,s.size,s.root⟩}:=rfl
theorem zp2 {d:MDisk} {size:Int} {root:MDig} (h:mIn size 1 256=true) (hq:(zI d).1.seq≠1000000000):
  zE ⟨zaN (wT d size root),(wT d size root).seq,(wT d size root).size,(wT d size root).root⟩=true:=by
 have hb:=wi d
 have hi:=mIn_iff.1 h
 have e:zaN ⟨zaN (wT d size root),(wT d size root).seq,(wT d size root).size,(wT d size root).root⟩=zaN (wT d size root):=rfl
 have e1:(wT d size root).seq=((zI d).1.seq+1).toNat:=rfl
 have e2:(wT d size root).size=size.toNat:=rfl
 simp only [zE,e,e1,e2,Bool.and_eq_true,beq_self_eq_true,decide_eq_true_eq,true_and]
 refine ⟨beq_self_eq_true _,by omega⟩
theorem ziW {d:MDisk} {size:Int} {root:MDig} (h:mIn size 1 256=true) (hq:(zI d).1.seq≠1000000000):
  zI (zC d (yQ d size root))=(⟨(zI d).1.seq+1,size,root⟩,zdj d):=by
 have hb:=wi d
 have hi:=mIn_iff.1 h
 have ho:=zp2 (root:=root) h hq
 rw [xm,if_pos ⟨h,hq⟩]
 have e1:(wT d size root).seq=((zI d).1.seq+1).toNat:=rfl
 have e2:(wT d size root).size=size.toNat:=rfl
 have e3:(wT d size root).root=root:=rfl
 generalize zaN (wT d size root)=S at *
 generalize wT d size root=s at *
 obtain ⟨s0,sq,sz,sr⟩:=s
 simp only at e1 e2 e3 ho
 subst e1 e2 e3
 unfold zdj
 cases h1:zE d.one<;>cases h2:zE d.two
 ·have r:zI d=(⟨0,0,dig0⟩,0):=by unfold zI;rw [h1,h2]
  rw [r] at ho ⊢
  rw [if_neg (by decide),za5]
  unfold zI
  simp only [h2,ho,MSlot.rec_]
  refine Prod.ext ?_ rfl
  simp only [MSlot.rec_,MRec.mk.injEq]
  exact ⟨rfl,by omega,trivial⟩
 ·have r:zI d=(d.two.rec_,2):=by unfold zI;rw [h1,h2]
  rw [r] at ho hb hq ⊢
  simp only [MSlot.rec_] at ho hb hq ⊢
  rw [if_neg (by simp),za5]
  unfold zI
  simp only [h2,ho]
  rw [if_neg (by omega)]
  refine Prod.ext ?_ rfl
  simp only [MSlot.rec_,MRec.mk.injEq]
  first | omega | exact ⟨by omega,by omega,trivial⟩ | exact ⟨by omega,by omega,rfl⟩ | (constructor<;>omega) | trace_state
 ·have r:zI d=(d.one.rec_,1):=by unfold zI;rw [h1,h2]
  rw [r] at ho hb hq ⊢
  simp only [MSlot.rec_] at ho hb hq ⊢
  simp only [if_true]
  rw [zdW]
  unfold zI
  simp only [h1,ho]
  rw [if_pos (by omega)]
  refine Prod.ext ?_ rfl
  simp only [MSlot.rec_,MRec.mk.injEq]
  first | omega | exact ⟨by omega,by omega,trivial⟩ | exact ⟨by omega,by omega,rfl⟩ | (constructor<;>omega) | trace_state
 ·by_cases q:d.two.seq>d.one.seq
  ·have r:zI d=(d.two.rec_,2):=by unfold zI;rw [h1,h2];simp only;rw [if_pos q]
   rw [r] at ho hb hq ⊢
   simp only [MSlot.rec_] at ho hb hq ⊢
   rw [if_neg (by simp),za5]
   unfold zI
   simp only [h2,ho]
   rw [if_neg (by omega)]
   refine Prod.ext ?_ rfl
   simp only [MSlot.rec_,MRec.mk.injEq]
   first | omega | exact ⟨by omega,by omega,trivial⟩ | exact ⟨by omega,by omega,rfl⟩ | (constructor<;>omega) | trace_state
  ·have r:zI d=(d.one.rec_,1):=by unfold zI;rw [h1,h2];simp only;rw [if_neg q]
   rw [r] at ho hb hq ⊢
   simp only [MSlot.rec_] at ho hb hq ⊢
   simp only [if_true]
   rw [zdW]
   unfold zI
   simp only [h1,ho]
   rw [if_pos (by omega)]
   refine Prod.ext ?_ rfl
   simp only [MSlot.rec_,MRec.mk.injEq]
   first | omega | exact ⟨by omega,by omega,trivial⟩ | exact ⟨by omega,by omega,rfl⟩ | (constructor<;>omega) | trace_state
theorem zbP {d:MDisk} {size:Int} {root:MDig} (h:yQ d size root≠[]):zA (zC d (yQ d size root))=⟨size,root⟩:=by
 have hc:mIn size 1 256=true∧(zI d).1.seq≠1000000000:=by
  apply Classical.byContradiction
  intro hn
  exact h (by rw [xm,if_neg hn])
 unfold zA
 rw [ziW hc.1 hc.2]
 have:zdj d≠0:=by unfold zdj;split<;>decide
 rw [if_neg this]
end Go.Proofs.YtpjpkmhaffmbmaaGreat.E
end
section
namespace Go.Proofs.YtpjpkmhaffmbmaaGreat.E
open Go Go.RowKit
set_option linter.unusedVariables false
set_option linter.unusedSimpArgs false
theorem zly {d:MDisk} (h:d.ok) {r:MRaw} (hr:r.value<18446744073709551616):(xh d r).ok:=by
 unfold xh
 split
 ·exact ⟨zjv h.a hr,h.b⟩
 ·split
  ·exact ⟨h.a,zjv h.b hr⟩
  ·exact h
theorem zbC:∀{l:List MRaw} {d:MDisk},d.ok→(∀r∈l,r.value<18446744073709551616)→(zC d l).ok
 | [],d,h,_=>h
 | r::l,d,h,hl=>zbC (l:=l) (d:=xh d r) (zly h (hl r (List.mem_cons_self ..))) fun x hx=>hl x (List.mem_cons_of_mem _ hx)
theorem zlg {to:Int} {s:MSlot} {S:Nat} (h:s.ok) (hS:S<18446744073709551616):∀r∈xU to s S,r.value<18446744073709551616:=by
 obtain ⟨h1,h2,h3,h4,h5,h6,h7⟩:=h
 intro r hr
 simp only [xU,List.mem_cons,List.not_mem_nil,or_false] at hr
 rcases hr with rfl | rfl | rfl | rfl | rfl | rfl | rfl | rfl
 all_goals first | exact (by decide:(0:Nat)<18446744073709551616) | assumption
theorem zey {d:MDisk} {size:Int} {root:MDig} (hr:root.ok):∀r∈yQ d size root,r.value<18446744073709551616:=by
 rw [xm]
 split
 ·rename_i h
  exact zlg (zi2 hr h.1) (zjt _)
 ·intro r hr;cases hr
theorem zjP {d:MDisk} {size:Int} {root:MDig} (h:d.ok) (hr:root.ok):(zC d (yQ d size root)).ok:=zbC h (zey hr)
theorem zaS:zdisk.ok:=by
 have hz:(⟨0,0,0,dig0⟩:MSlot).ok:=⟨by decide,by decide,by decide,yw⟩
 exact ⟨hz,hz⟩
def MSlot.wl (s:MSlot):List Nat:=[s.sum,s.seq,s.size,s.root.a,s.root.b,s.root.c,s.root.d]
def zbz (at_:Int) (l:List Nat) (n:Nat):List MRaw:=((List.range n).filter fun k=>!(l.getD k 0==0)).map fun k:Nat=>(⟨at_,(k:Int),0⟩:MRaw)
theorem zoU (at_:Int) (l:List Nat) (n:Nat):zbz at_ l (n+1)=zbz at_ l n++(if l.getD n 0=0 then [] else [⟨at_,n,0⟩]):=by
 unfold zbz
 rw [List.range_succ,List.filter_append,List.map_append]
 congr 1
 by_cases h:l.getD n 0=0
 ·rw [if_pos h,List.filter_cons,h];rfl
 ·rw [if_neg h,List.filter_cons,beq_false_of_ne h];rfl
theorem zjq (at_:Int) (l:List Nat) (n:Nat):(zbz at_ l n).length≤n:=by
 unfold zbz
 rw [List.length_map]
 have h:=List.length_filter_le (fun k=>!(l.getD k 0==0)) (List.range n)
 rw [List.length_range] at h
 exact h
def qj (at_:Int) (s:MSlot):List MRaw:=if zE s then [] else zbz at_ s.wl 7
def zeA (d:MDisk):List MRaw:=qj 1 d.one++qj 2 d.two
def zfR (d:MDisk) (l:List MRaw) (cut:Int):MDisk:=zC d (l.take cut.toNat)
theorem zev (at_:Int) (s:MSlot):(qj at_ s).length≤7:=by
 unfold qj
 split
 ·exact Nat.zero_le _
 ·exact zjq _ _ _
theorem zqc (d:MDisk):(zeA d).length≤14:=by
 unfold zeA
 rw [List.length_append]
 have:=zev 1 d.one
 have:=zev 2 d.two
 omega
theorem zbx (at_:Int) (l:List Nat) (n:Nat):∀r∈zbz at_ l n,r.slot=at_∧r.value=0:=by
 intro r hr
 obtain ⟨k,-,rfl⟩:=List.mem_map.1 hr
 exact ⟨rfl,rfl⟩
theorem wh (at_:Int) (s:MSlot):∀r∈qj at_ s,r.slot=at_∧r.value=0:=by
 unfold qj
 split
 ·intro r hr;cases hr
 ·exact zbx _ _ _
theorem zjw (d:MDisk):∀r∈zeA d,r.value=0:=by
 intro r hr
 rcases List.mem_append.1 hr with h | h
 ·exact (wh _ _ r h).2
 ·exact (wh _ _ r h).2
theorem zhB (x:Int):orI .u64 x 1≠0:=by
 unfold orI
 rw [wU]
 intro h
 have h1:((BitVec.ofInt IntKind.u64.bits x||| BitVec.ofInt IntKind.u64.bits 1).toNat:Int)%18446744073709551616=0:=h
 have h2:(BitVec.ofInt IntKind.u64.bits x||| BitVec.ofInt IntKind.u64.bits 1).toNat<18446744073709551616:=(BitVec.ofInt IntKind.u64.bits x||| BitVec.ofInt IntKind.u64.bits 1).isLt
 have h3:(BitVec.ofInt IntKind.u64.bits x||| BitVec.ofInt IntKind.u64.bits 1).toNat=0:=by omega
 rw [BitVec.toNat_or] at h3
 have h4:(BitVec.ofInt IntKind.u64.bits 1).toNat=1:=by decide
 rw [h4] at h3
 have h5:1≤(BitVec.ofInt IntKind.u64.bits x).toNat||| 1:=Nat.right_le_or
 omega
theorem znI (s:MSlot):zaN s≠0:=by
 unfold zaN
 have h:=zhB ((zG (ye s 6)).a.toNat:Int)
 have h2:=zfH ((zG (ye s 6)).a.toNat:Int)
 omega
theorem zoM {s:MSlot} (h:s.sum=0):zE s=false:=by
 have:=znI s
 unfold zE
 rw [h]
 have:(((0:Nat):Int)==(zaN s:Int))=false:=by rw [beq_eq_false_iff_ne];omega
 rw [this]
 rfl
theorem zi3 {s:MSlot} {w:Int} (h:s.sum=0):(zcQ s w 0).sum=0:=by
 unfold zcQ
 repeat' split
 all_goals first | rfl | exact h
def KeepS (s t:MSlot):Prop:=(zE s=true∧t=s)∨(zE s=false∧zE t=false)
theorem KeepS.refl (s:MSlot):KeepS s s:=by
 cases h:zE s with
 | true=>exact .inl ⟨h,rfl⟩
 | false=>exact .inr ⟨h,h⟩
theorem KeepS.read {d e:MDisk} (h1:KeepS d.one e.one) (h2:KeepS d.two e.two):zI e=zI d:=by
 unfold zI
 rcases h1 with ⟨a1,b1⟩ | ⟨a1,b1⟩<;>rcases h2 with ⟨a2,b2⟩ | ⟨a2,b2⟩
 ·rw [b1,b2]
 ·rw [b1,a1,a2,b2]
 ·rw [b2,a1,a2,b1]
 ·rw [a1,a2,b1,b2]
theorem qe:∀{l:List MRaw} {d:MDisk},(∀r∈l,r.value=0)→(d.one.sum=0→(zC d l).one.sum=0)∧(d.two.sum=0→(zC d l).two.sum=0)
 | [],d,_=>⟨id,id⟩
 | r::l,d,h=>by
  have hr:=h r (List.mem_cons_self ..)
  obtain ⟨i1,i2⟩:=qe (l:=l) (d:=xh d r) fun x hx=>h x (List.mem_cons_of_mem _ hx)
  have e:zC d (r::l)=zC (xh d r) l:=rfl
  rw [e]
  refine ⟨fun h0=>i1 ?_,fun h0=>i2 ?_⟩
  ·unfold xh
   rw [hr]
   split
   ·exact zi3 h0
   ·split
    ·exact h0
    ·exact h0
  ·unfold xh
   rw [hr]
   split
   ·exact h0
   ·split
    ·exact zi3 h0
    ·exact h0
theorem xR:∀{l:List MRaw} {d:MDisk},(∀r∈l,r.slot=1)→(zC d l).two=d.two
 | [],d,_=>rfl
 | r::l,d,h=>by
  have e:zC d (r::l)=zC (xh d r) l:=rfl
  rw [e,xR (l:=l) fun x hx=>h x (List.mem_cons_of_mem _ hx)]
  unfold xh
  rw [if_pos (h r (List.mem_cons_self ..))]
theorem xQ:∀{l:List MRaw} {d:MDisk},(∀r∈l,r.slot=2)→(zC d l).one=d.one
 | [],d,_=>rfl
 | r::l,d,h=>by
  have e:zC d (r::l)=zC (xh d r) l:=rfl
  rw [e,xQ (l:=l) fun x hx=>h x (List.mem_cons_of_mem _ hx)]
  unfold xh
  have h2:=h r (List.mem_cons_self ..)
  rw [if_neg (by rw [h2];decide),if_pos h2]
theorem zih (d:MDisk) (a b:List MRaw):zC d (a++b)=zC (zC d a) b:=by unfold zC;exact List.foldl_append
theorem zby (at_:Int) (s:MSlot):(s.sum=0)∨∃l,zbz at_ s.wl 7=⟨at_,0,0⟩::l:=by
 by_cases h:s.sum=0
 ·exact .inl h
 ·refine .inr ?_
  unfold zbz
  have e:List.range 7=[0,1,2,3,4,5,6]:=rfl
  have h0:(s.wl.getD 0 0==0)=false:=beq_false_of_ne h
  rw [e,List.filter_cons,h0]
  exact ⟨_,rfl⟩
theorem qv {l:List MRaw} {P:MRaw→Prop} (h:∀r∈l,P r) (j:Nat):∀r∈l.take j,P r:=fun r hr=>h r (List.mem_of_mem_take hr)
theorem mend1 (d:MDisk) (j:Nat):KeepS d.one (zC d ((qj 1 d.one).take j)).one∧(zC d ((qj 1 d.one).take j)).two=d.two:=by
 refine ⟨?_,xR (qv (fun r hr=>(wh 1 d.one r hr).1) j)⟩
 cases h:zE d.one with
 | true=>
  have e:qj 1 d.one=[]:=by unfold qj;rw [h];rfl
  rw [e,List.take_nil]
  exact .inl ⟨h,rfl⟩
 | false=>
  refine .inr ⟨h,?_⟩
  have e:qj 1 d.one=zbz 1 d.one.wl 7:=by unfold qj;rw [h];rfl
  have hv:=fun r hr=>(zbx 1 d.one.wl 7 r hr).2
  rw [e]
  rcases zby 1 d.one with h0 | ⟨l,hl⟩
  ·exact zoM ((qe (qv hv j)).1 h0)
  ·cases j with
   | zero=>exact h
   | succ j=>
    rw [hl] at hv ⊢
    rw [List.take_succ_cons]
    exact zoM ((qe (d:=xh d ⟨1,0,0⟩) (qv (fun r hr=>hv r (List.mem_cons_of_mem _ hr)) j)).1 rfl)
theorem mend2 (d:MDisk) (j:Nat):KeepS d.two (zC d ((qj 2 d.two).take j)).two∧(zC d ((qj 2 d.two).take j)).one=d.one:=by
 refine ⟨?_,xQ (qv (fun r hr=>(wh 2 d.two r hr).1) j)⟩
 cases h:zE d.two with
 | true=>
  have e:qj 2 d.two=[]:=by unfold qj;rw [h];rfl
  rw [e,List.take_nil]
  exact .inl ⟨h,rfl⟩
 | false=>
  refine .inr ⟨h,?_⟩
  have e:qj 2 d.two=zbz 2 d.two.wl 7:=by unfold qj;rw [h];rfl
  have hv:=fun r hr=>(zbx 2 d.two.wl 7 r hr).2
  rw [e]
  rcases zby 2 d.two with h0 | ⟨l,hl⟩
  ·exact zoM ((qe (qv hv j)).2 h0)
  ·cases j with
   | zero=>exact h
   | succ j=>
    rw [hl] at hv ⊢
    rw [List.take_succ_cons]
    exact zoM ((qe (d:=xh d ⟨2,0,0⟩) (qv (fun r hr=>hv r (List.mem_cons_of_mem _ hr)) j)).2 rfl)
theorem zjp (d:MDisk) (j:Int):zI (zfR d (zeA d) j)=zI d:=by
 unfold zfR zeA
 rw [List.take_append,zih]
 obtain ⟨k1,e1⟩:=mend1 d j.toNat
 generalize zC d ((qj 1 d.one).take j.toNat)=D at *
 obtain ⟨k2,e2⟩:=mend2 D (j.toNat - (qj 1 d.one).length)
 rw [e1] at k2 e2
 exact KeepS.read (by rw [e2];exact k1) k2
theorem zaD {d e:MDisk} (h:zI e=zI d):zA e=zA d:=by unfold zA;rw [h]
theorem zi1 {d:MDisk} {size:Int} {root:MDig} {cut:Nat} (h:cut<(yQ d size root).length):zI (zfR d (yQ d size root) cut)=zI d:=by
 have hz:(zI (zC d []))=zI d:=rfl
 unfold zfR
 rw [show ((cut:Int)).toNat=cut from rfl]
 rw [xm] at h ⊢
 split at h
 case isFalse=>cases h
 rename_i hc
 rw [if_pos hc]
 generalize zaN (wT d size root)=S at *
 generalize wT d size root=s at *
 have hc8:cut<8:=h
 have key:∀to:Int,∀j,1≤j→j<8→∃l,(xU to s S).take j=⟨to,0,0⟩::l∧∀r∈l,r.slot=to∧r.word≠0:=by
  intro to j h1 h2
  have hj:j=1∨j=2∨j=3∨j=4∨j=5∨j=6∨j=7:=by omega
  rcases hj with rfl | rfl | rfl | rfl | rfl | rfl | rfl
  ·exact ⟨[],rfl,fun r hr=>by cases hr⟩
  all_goals
   refine ⟨_,rfl,?_⟩
   intro r hr
   simp only [List.mem_cons,List.not_mem_nil,or_false,List.take,xU] at hr
   rcases hr with rfl | rfl | rfl | rfl | rfl | rfl<;>exact ⟨rfl,by simp⟩
 have stay:∀(l:List MRaw) (e:MDisk),(∀r∈l,r.word≠0)→(zC e l).one.sum=e.one.sum∧(zC e l).two.sum=e.two.sum:=by
  intro l
  induction l with
  | nil=>intro e _;exact ⟨rfl,rfl⟩
  | cons r l ih=>
   intro e hl
   have h1:=ih (xh e r) fun x hx=>hl x (List.mem_cons_of_mem _ hx)
   have hr:=hl r (List.mem_cons_self ..)
   have hp:∀t:MSlot,(zcQ t r.word r.value).sum=t.sum:=by
    intro t
    unfold zcQ
    rw [if_neg hr]
    repeat' split
    all_goals rfl
   have h2:(xh e r).one.sum=e.one.sum∧(xh e r).two.sum=e.two.sum:=by
    unfold xh
    split
    ·exact ⟨hp _,rfl⟩
    ·split
     ·exact ⟨rfl,hp _⟩
     ·exact ⟨rfl,rfl⟩
   exact ⟨h1.1.trans h2.1,h1.2.trans h2.2⟩
 rcases Nat.eq_zero_or_pos cut with rfl | hpos
 ·rfl
 ·obtain ⟨l,hl,hw⟩:=key (zdj d) cut hpos hc8
  rw [hl]
  unfold zdj at hl hw ⊢
  have e:∀x:MRaw,zC d (x::l)=zC (xh d x) l:=fun _=>rfl
  rw [e]
  have hst:=fun E=>stay l E fun r hr=>(hw r hr).2
  by_cases h1:(zI d).2=1
  ·rw [if_pos h1] at hw ⊢
   have k1:=xQ (d:=xh d ⟨2,0,0⟩) (fun r hr=>(hw r hr).1)
   have k2:=(hst (xh d ⟨2,0,0⟩)).2
   generalize zC (xh d ⟨2,0,0⟩) l=D at *
   have k1:D.one=d.one:=k1
   have k3:zE D.two=false:=zoM k2
   have ho:zE d.one=true:=by
    unfold zI at h1
    cases q1:zE d.one<;>cases q2:zE d.two<;>simp only [q1,q2] at h1
    ·exact absurd h1 (by decide)
    ·exact absurd h1 (by simp)
    ·rfl
    ·rfl
   have r1:zI D=(d.one.rec_,1):=by unfold zI;rw [k1,ho,k3]
   rw [r1]
   unfold zI at h1 ⊢
   rw [ho] at h1 ⊢
   cases q2:zE d.two with
   | false=>rfl
   | true=>
    simp only [q2] at h1
    split at h1
    ·exact absurd h1 (by simp)
    ·rename_i q
     simp only
     rw [if_neg q]
  ·rw [if_neg h1] at hw ⊢
   have k1:=xR (d:=xh d ⟨1,0,0⟩) (fun r hr=>(hw r hr).1)
   have k2:=(hst (xh d ⟨1,0,0⟩)).1
   generalize zC (xh d ⟨1,0,0⟩) l=D at *
   have k1:D.two=d.two:=k1
   have k3:zE D.one=false:=zoM k2
   unfold zI at h1 ⊢
   rw [k1,k3]
   cases q1:zE d.one<;>cases q2:zE d.two<;>simp only [q1,q2] at h1 ⊢
   ·exact absurd trivial h1
   ·split at h1
    ·rename_i q
     rw [if_pos q]
    ·exact absurd rfl h1
end Go.Proofs.YtpjpkmhaffmbmaaGreat.E
end
section
namespace Go.Proofs.YtpjpkmhaffmbmaaGreat.E
open Go Go.RowKit
set_option maxHeartbeats 4000000
set_option maxRecDepth 10000
set_option linter.unusedSimpArgs false
set_option linter.unusedVariables false
set_option linter.unusedSectionVars false
def dcX2:Dec:=⟨[(39,.cm [true,false]),(93,.cm [true])],[9,10,11],[22,30,37,38,39,40,49,56,76,80,87,141,143,159,237,250,259],false⟩
def zkL (L:Nat) (r:Dr) (res:AV) (σ:Sig):Prop:=∃(Q:List MDig) (n:Nat) (r':Dr),(res=.blk 0 0 [] 4 0 n∧σ=r'.r3++[(0,0,one ⟨4,Q.map MDig.cs,2,false⟩)])∧(n≤Q.length∧Q.length≤L+1)∧(∀d∈Q,d.ok)∧r'.ok (r.p+100)
theorem c98_c (r:Dr) (P:List MDig) (h:r.ok 500000000) (hP:P.length≤600) (hd:∀d∈P,d.ok):∃res σ,zkL P.length r res σ∧zS Tryz.prog 98 r.r3 [vL,.ro 4 (P.map MDig.cs)] res σ:=by
 refine zj dcX2 true Tryz.f98 ?_
 conv=>enter [1];reduce
 refine jvX Tryz.f98 71 [.tmp 4] (zkL P.length r) (by kernel_rfl) (by decide +kernel) (by kernel_rfl) rfl ?_
 have hp:=h.2
 have hb:=h.1
 have ok:∀i,i≤1000→(r.adv i).ok 1000000000:=fun i hi=>(h.adv i).le (by omega)
 have hdi:=zlU P [] (by omega) (by simp)
 rw [List.append_nil] at hdi
 have hdg:=fun i=>jD (r.adv i) (n:=r.p+i) ⟨hb,Nat.le_refl _⟩
 have hdo:=fun i (hi:i≤1000)=>xZ (r.adv i) ((h.adv i).le (by omega))
 simp -implicitDefEqProofs only [go_sem]
 refine Want.intro hdi ?_
 simp -implicitDefEqProofs only [go_sem]
 refine WantM.intro (zZ 12 (ok 0 (by omega))) ?_
 generalize pk r 12=k
 simp -implicitDefEqProofs only [go_sem]
 refine zi (fun g=>?_) (fun g=>?_)
 ·simp -implicitDefEqProofs only [go_sem,g]
  refine WantM.intro (zb5 (r.adv 1) ((h.adv 1).le (by omega))) ?_
  have q1:=hdg 1
  have q2:=hdo 1 (by omega)
  generalize dgR (r.adv 1)=q at *
  obtain ⟨x,R⟩:=q
  simp only at q1 q2
  simp -implicitDefEqProofs only [go_sem,zmA P (by omega)]
  refine RetAt.intro (.blk 0 0 [] 4 0 (P.length+1)) (R.r3++[(0,0,one ⟨4,(P++[x]).map MDig.cs,2,false⟩)]) ⟨P++[x],P.length+1,R,⟨rfl,rfl⟩,by simp,?_,q1.1.le (by omega)⟩ ?_
  ·intro d hd'
   rcases List.mem_append.1 hd' with hd' | hd'
   ·exact hd d hd'
   ·rw [List.mem_singleton.1 hd'];exact q2
  simp -implicitDefEqProofs only [go_sem]
  exact ⟨by rw [List.map_append];rfl,by rw [List.length_append,List.length_map];rfl⟩
 ·have hfin:∀(Q:List MDig) (R:Dr),Q.length=P.length→(∀d∈Q,d.ok)→R.ok (r.p+100)→zkL P.length r (.blk 0 0 [] 4 0 P.length) (R.r3++[(0,0,one ⟨4,Q.map MDig.cs,2,false⟩)]):=fun Q R e hq hR=>⟨Q,P.length,R,⟨rfl,rfl⟩,⟨by omega,by omega⟩,hq,hR⟩
  by_cases h0:(P.length:Int)>0
  ·have wd:IntKind.i64.wrap ((P.length:Int) - 1)=((P.length - 1:Nat):Int):=by rw [wrS (by omega)];omega
   have l1:((P.length - 1:Nat):Int)≤(P.length:Int):=by omega
   have l2:P.length - 1≤P.length:=by omega
   cases g1:(k==1) with
   | true=>
    simp -implicitDefEqProofs only [go_sem,g,g1,h0,wd,l1,l2,zc,zb]
    refine RetAt.intro (.blk 0 0 [] 4 0 (P.length - 1)) ((r.adv 1).r3++[(0,0,one ⟨4,P.map MDig.cs,2,false⟩)]) ⟨P,P.length - 1,r.adv 1,⟨rfl,rfl⟩,⟨by omega,by omega⟩,hd,hb,by show r.p+1≤_;omega⟩ ?_
    simp -implicitDefEqProofs only [go_sem]
    first | done | rfl | exact ⟨rfl,rfl⟩ | trace_state
   | false=>
    simp -implicitDefEqProofs only [go_sem,g,g1,h0,ze,za]
    refine zX [5] [] (fun s=>∃(Q:List MDig) (R:Dr),Q.length=P.length∧(∀d∈Q,d.ok)∧R.ok (r.p+100)∧s=⟨71,[(5,.blk 5 0 [] 4 0 P.length)],[(1000000,0,one ⟨1,[[.ptr 1000001 0 [] 1 0 0]],0,false⟩),(1000001,0,one ⟨1,[[.ptr 1000002 0 [] 2 0 0]],0,false⟩),(1000002,0,one ⟨2,[R.cs],0,false⟩),(5,0,one ⟨4,Q.map MDig.cs,2,false⟩)],1⟩) ?_ ?_
    ·by_cases g2:k<4
     ·have q:=zL (n:=(P.length:Int)) (ok 1 (by omega)) (by omega)
      obtain ⟨u,hu⟩:∃u:Nat,pk (r.adv 1) P.length=u:=⟨(pk (r.adv 1) P.length).toNat,by omega⟩
      have hu1:(u:Int)<(P.length:Int):=by omega
      have hu2:u<P.length:=by omega
      have hgu:P[u]?=some P[u]:=List.getElem?_eq_getElem hu2
      simp -implicitDefEqProofs only [go_sem,g2,h0,zc,zb]
      refine WantM.intro (zZ _ (ok 1 (by omega))) ?_
      rw [hu]
      simp -implicitDefEqProofs only [go_sem]
      refine WantM.intro (zb5 (r.adv 2) ((h.adv 2).le (by omega))) ?_
      have q1:=hdg 2
      have q2:=hdo 2 (by omega)
      generalize dgR (r.adv 2)=q at *
      obtain ⟨x,R⟩:=q
      simp only at q1 q2
      simp -implicitDefEqProofs only [go_sem,hu1,hu2,hgu]
      refine ⟨P.set u x,R,by rw [List.length_set],?_,q1.1.le (by omega),?_⟩
      ·intro d hd'
       rcases List.mem_or_eq_of_mem_set hd' with hd' | rfl
       ·exact hd d hd'
       ·exact q2
      ·rw [List.map_set]
       rfl
     ·simp -implicitDefEqProofs only [go_sem,g2,ze,za]
      exact ⟨P,r.adv 1,rfl,hd,⟨hb,by show r.p+1≤_;omega⟩,rfl⟩
    ·rintro s ⟨Q,R,hQ,hq,hR,rfl⟩
     simp -implicitDefEqProofs only [go_sem]
     refine RetAt.intro _ _ (hfin Q R hQ hq hR) ?_
     simp -implicitDefEqProofs only [go_sem]
     first | done | rfl | exact ⟨rfl,rfl⟩ | trace_state
  ·have hP0:P=[]:=List.length_eq_zero_iff.1 (by omega)
   subst hP0
   have h1:¬((([]:List MDig).length:Int)>0):=by decide
   have e0:¬(((0:Nat):Int)>0):=by decide
   have g1:=k==1
   cases g1:(k==1)<;>by_cases g2:k<4
   all_goals
    simp -implicitDefEqProofs only [go_sem,g,g1,e0,zc,ze,za,List.length_nil,List.map_nil]
    try refine zX [5] [] (fun s=>s=⟨71,[(5,.blk 5 0 [] 4 0 0)],[(1000000,0,one ⟨1,[[.ptr 1000001 0 [] 1 0 0]],0,false⟩),(1000001,0,one ⟨1,[[.ptr 1000002 0 [] 2 0 0]],0,false⟩),(1000002,0,one ⟨2,[(r.adv 1).cs],0,false⟩),(5,0,one ⟨4,[],2,false⟩)],1⟩) ?_ ?_
    ·simp -implicitDefEqProofs only [go_sem,g2,e0,zc,ze,za]
     first | done | rfl | trace_state
    ·rintro s rfl
     simp -implicitDefEqProofs only [go_sem]
     refine RetAt.intro _ _ (hfin [] (r.adv 1) rfl (by simp) ⟨hb,by show r.p+1≤_;omega⟩) ?_
     simp -implicitDefEqProofs only [go_sem]
     first | done | rfl | exact ⟨rfl,rfl⟩ | trace_state
theorem zc5 (d:MDisk) (size:Int) (root:MDig):(yQ d size root).length≤8:=by
 rw [xm]
 split
 ·exact Nat.le_refl 8
 ·exact Nat.zero_le _
def dk (l:List ByteArray) (d:MDisk) (k:Nat):MDisk:=zC d (yQ d (tPt (l.take k)).size (tPt (l.take k)).root)
def zaz (l:List ByteArray) (m:Nat) (tw:Bool):MDisk:=if (tw&&decide (m>1))=true then dk l zdisk (m - 1) else zdisk
def zeC (l:List ByteArray) (m:Nat) (tw:Bool):MDisk:=if m>0 then dk l (zaz l m tw) m else zaz l m tw
theorem zqR {l:List ByteArray} {d:MDisk} {k:Nat} (h:d.ok):(dk l d k).ok:=zjP h (zgw _).1
theorem zbG (l:List ByteArray) (m:Nat) (tw:Bool):(zaz l m tw).ok:=by
 unfold zaz
 split
 ·exact zqR zaS
 ·exact zaS
theorem zjA (l:List ByteArray) (m:Nat) (tw:Bool):(zeC l m tw).ok:=by
 unfold zeC
 split
 ·exact zqR (zbG _ _ _)
 ·exact zbG _ _ _
theorem c92_c (l:List ByteArray) (m:Nat) (tw:Bool) (hl:l.length≤1000) (hm:m≤l.length):CallR Tryz.prog 92 [.ro 1 (l.map zs),vI m,vB tw] (.agg (zeC l m tw).cs) []:=by
 refine zj dcX2 true Tryz.f92 ?_
 conv=>enter [1];reduce
 refine jvR Tryz.f92 44 [.cell 6 29] (by kernel_rfl) (by decide +kernel) rfl ?_
 have hTP:=fun k=>ziA (l.take k) (by rw [List.length_take];unfold maxLen;omega)
 have hTk:=fun k=>zgw (l.take k)
 have hd8:=zbG l m tw
 simp -implicitDefEqProofs only [go_sem]
 refine zX [0,1,6,7] [] (fun s=>s=⟨44,[(0,.ro 1 (l.map zs)),(1,vI m),(6,.ptr 6 0 [] 14 0 0),(7,.ptr 7 0 [] 14 0 0)],[(6,0,one ⟨14,[zdisk.cs],0,false⟩),(7,0,one ⟨14,[(zaz l m tw).cs],0,false⟩)],1⟩) ?_ ?_
 ·have hd1:zaz l m tw=if (tw&&decide ((m:Int)>1))=true then dk l zdisk (m - 1) else zdisk:=by
   unfold zaz
   have:decide (m>1)=decide ((m:Int)>1):=by simp only [decide_eq_decide];omega
   rw [this]
  rw [hd1]
  cases tw with
  | false=>
   simp -implicitDefEqProofs only [go_sem,ze,za,Bool.false_and,Bool.false_eq_true,if_false]
   first | done | rfl | trace_state
  | true=>
   by_cases h1:(m:Int)>1
   ·have wm:IntKind.i64.wrap ((m:Int) - 1)=((m - 1:Nat):Int):=by rw [wrS (by omega)];omega
    have l1:m - 1≤l.length:=by omega
    have l1i:((m - 1:Nat):Int)≤(l.length:Int):=by omega
    have hT:=hTP (m - 1)
    have hk:=hTk (m - 1)
    simp -implicitDefEqProofs only [go_sem,h1,wm,l1,l1i,zc,zb,Bool.true_and,decide_true,if_true,Nat.sub_zero]
    refine Want.intro hT ?_
    unfold dk
    generalize tPt (l.take (m - 1))=T at *
    have hrw:=zkp zdisk T.size T.root zaS hk.1
    have hwl:=zc5 zdisk T.size T.root
    have hdw:=zlZ zdisk (yQ zdisk T.size T.root) (by unfold maxLen;omega)
    generalize yQ zdisk T.size T.root=R at *
    simp -implicitDefEqProofs only [go_sem]
    refine Want.intro hrw ?_
    simp -implicitDefEqProofs only [go_sem]
    refine Want.intro hdw ?_
    simp -implicitDefEqProofs only [go_sem]
    first | done | rfl | trace_state
   ·simp -implicitDefEqProofs only [go_sem,h1,zc,za,Bool.true_and,decide_false,Bool.false_eq_true,if_false]
    first | done | rfl | trace_state
 ·rintro s rfl
  generalize hE:zaz l m tw=E at *
  unfold zeC
  rw [hE]
  refine zX [6,7] [] (fun s=>s=⟨44,[(6,.ptr 6 0 [] 14 0 0),(7,.ptr 7 0 [] 14 0 0)],[(6,0,one ⟨14,[zdisk.cs],0,false⟩),(7,0,one ⟨14,[(if m>0 then dk l E m else E).cs],0,false⟩)],1⟩) ?_ ?_
  ·by_cases h1:(m:Int)>0
   ·have h1':m>0:=by omega
    have l1i:((m:Nat):Int)≤(l.length:Int):=by omega
    have hT:=hTP m
    have hk:=hTk m
    simp -implicitDefEqProofs only [go_sem,h1,hm,l1i,zb,Nat.sub_zero]
    refine Want.intro hT ?_
    rw [if_pos h1']
    unfold dk
    generalize tPt (l.take m)=T at *
    have hrw:=zkp E T.size T.root hd8 hk.1
    have hwl:=zc5 E T.size T.root
    have hdw:=zlZ E (yQ E T.size T.root) (by unfold maxLen;omega)
    generalize yQ E T.size T.root=R at *
    simp -implicitDefEqProofs only [go_sem]
    refine Want.intro hrw ?_
    simp -implicitDefEqProofs only [go_sem]
    refine Want.intro hdw ?_
    simp -implicitDefEqProofs only [go_sem]
    first | done | rfl | trace_state
   ·have h1':¬m>0:=by omega
    rw [if_neg h1']
    simp -implicitDefEqProofs only [go_sem,h1,za]
    first | done | rfl | trace_state
  ·rintro s rfl
   simp -implicitDefEqProofs only [go_sem]
   first | done | rfl | exact ⟨rfl,rfl⟩ | trace_state
end Go.Proofs.YtpjpkmhaffmbmaaGreat.E
end
