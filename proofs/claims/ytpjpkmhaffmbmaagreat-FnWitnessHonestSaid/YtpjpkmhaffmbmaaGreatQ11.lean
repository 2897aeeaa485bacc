/- Contracts: messages that are drawn; Contracts: messages that are drawn, spoilt -/
import Derived.Test.YtpjpkmhaffmbmaaGreatQ10
import Derived.Test.YtpjpkmhaffmbmaaGreatQ9
section
namespace Go.Proofs.YtpjpkmhaffmbmaaGreat.E
open Go Go.RowKit
set_option maxHeartbeats 4000000
set_option maxRecDepth 10000
set_option linter.unusedSimpArgs false
set_option linter.unusedVariables false
set_option linter.unusedSectionVars false
def zo3:Dec:=⟨[(39,.cm [true,false]),(93,.cm [true]),(96,.cm [true,false]),(151,.cm [true])],[9,10,11],[22,30,37,38,39,40,49,56,76,80,87,141,143,159,237,250,259],false⟩
theorem Dr.ok.le {r:Dr} {a b:Nat} (h:r.ok a) (hb:a≤b):r.ok b:=⟨h.1,Nat.le_trans h.2 hb⟩
theorem Dr.ok.adv {r:Dr} {a:Nat} (h:r.ok a) (i:Nat):(r.adv i).ok (a+i):=⟨h.1,Nat.add_le_add_right h.2 i⟩
theorem Dr.ok.nx {r:Dr} {a:Nat} (h:r.ok a):r.nx.ok (a+1):=⟨h.1,Nat.add_le_add_right h.2 1⟩
theorem zM {r:Dr} {n:Int} (h:r.ok 1000000000) (hn:1≤n):0≤pk r n∧pk r n<n:=by
 have:=(zaW r n h).1
 omega
theorem yc {r:Dr} (n:Int) (h:r.ok 1000000000):zW Tryz.prog 39 r.row [vD,vI n] (vI (pk r n)) r.nx.row:=(zaW r n h).2
def szD (r:Dr):Int × Dr:=if pk r 8=0 then (256 - pk r.nx 2,r.nx.nx) else (pk r.nx 30,r.nx.nx)
theorem ja (r:Dr) (h:r.ok 900000000):(0≤(szD r).1∧(szD r).1≤256)∧(szD r).2.ok 1000000000∧(szD r).2.p=r.p+2∧zW Tryz.prog 151 r.row [vD] (vI (szD r).1) (szD r).2.row:=by
 have h0:=h.le (b:=1000000000) (by omega)
 have h1:=h.nx.le (b:=1000000000) (by omega)
 have h2:=h.nx.nx.le (b:=1000000000) (by omega)
 have p8:=zM h0 (n:=8) (by omega)
 have p2:=zM h1 (n:=2) (by omega)
 have p30:=zM h1 (n:=30) (by omega)
 unfold szD
 by_cases k0:pk r 8=0
 ·rw [if_pos k0]
  refine ⟨⟨by show 0≤256 - pk r.nx 2;omega,by show 256 - pk r.nx 2≤256;omega⟩,h2,rfl,?_⟩
  refine zl zo3 false Tryz.f151 ?_
  conv=>enter [1];reduce
  refine jvM Tryz.f151 11 [.tmp 2] (by kernel_rfl) (by decide +kernel) rfl ?_
  have k1:(pk r 8==0)=true:=by simpa using k0
  have w1:IntKind.i64.wrap (256 - pk r.nx 2)=256 - pk r.nx 2:=wrS (by omega)
  simp -implicitDefEqProofs only [go_sem]
  refine WantM.intro (yc 8 h0) ?_
  simp -implicitDefEqProofs only [go_sem,k1,zb]
  refine WantM.intro (yc 2 h1) ?_
  simp -implicitDefEqProofs only [go_sem,w1]
 ·rw [if_neg k0]
  refine ⟨⟨p30.1,by show pk r.nx 30≤256;omega⟩,h2,rfl,?_⟩
  refine zl zo3 false Tryz.f151 ?_
  conv=>enter [1];reduce
  refine jvM Tryz.f151 11 [.tmp 2] (by kernel_rfl) (by decide +kernel) rfl ?_
  have k1:(pk r 8==0)=false:=by simpa using k0
  simp -implicitDefEqProofs only [go_sem]
  refine WantM.intro (yc 8 h0) ?_
  simp -implicitDefEqProofs only [go_sem,k1,za]
  refine WantM.intro (yc 30 h1) ?_
  simp -implicitDefEqProofs only [go_sem]
def MMsg.outD (m:MMsg) (r:Dr):Sig:=[(1000000,0,one ⟨2,[r.cs],0,false⟩),(0,0,one ⟨4,m.proof.map MDig.cs,2,false⟩),(1,0,one ⟨1,m.leaves.map zw,2,false⟩)]
attribute [go_sem] MMsg.outD
def zli (r:Dr) (res:AV) (σ:Sig):Prop:=∃(m:MMsg) (r':Dr),(res=m.avM∧σ=m.outD r')∧zC m=true∧m.root.ok∧(∀d∈m.proof,d.ok)∧r'.ok (r.p+1000)
theorem zlC (r:Dr) (n:Int) {a:Nat} (h:r.ok a) (ha:a≤900000000) (hn:0≤n):(tx r n).2.ok (a+1+n.toNat)∧(tx r n).1.size≤n.toNat:=by
 have hq:=zM (h.le (b:=1000000000) (by omega)) (n:=n+1) (by omega)
 refine ⟨⟨h.1,?_⟩,?_⟩
 ·show r.p+1+(pk r (n+1)).toNat≤_
  have:=h.2
  omega
 ·show (bA _).size≤_
  rw [zU,zi5]
  omega
theorem zqT:CallR Tryz.prog 131 [vS ⟨#[107]⟩,vI 40] (vS (bA (rep [107] 40))) []:=zkV [107] 40 (by omega) (by simp)
theorem ze7 {l:List ByteArray} (h:zt l=true) (i:Nat) {s:ByteArray} (hs:s.size≤40):zt (l.set i s)=true:=by
 simp only [zt,List.all_eq_true,decide_eq_true_eq] at *
 intro x hx
 rcases List.mem_or_eq_of_mem_set hx with hx | rfl
 ·exact h x hx
 ·exact hs
attribute [go_sem] dig0
theorem c95_c (r:Dr) (h1:r.ok 700000000):∃res σ,zli r res σ∧zW Tryz.prog 95 r.row [vD] res σ:=by
 refine zl zo3 false Tryz.f95 ?_
 conv=>enter [1];reduce
 refine jvX Tryz.f95 105 [.cell 2 58] (zli r) (by kernel_rfl) (by decide +kernel) (by kernel_rfl) rfl ?_
 have hp:=h1.2
 have ok:∀i,i≤1000→(r.adv i).ok 1000000000:=fun i hi=>(h1.adv i).le (by omega)
 have h0:=h1.le (b:=1000000000) (by omega)
 have p8:=zM h0 (n:=8) (by omega)
 have q2:=zM (ok 3 (by omega)) (n:=2) (by omega)
 have q5:=zM (ok 1 (by omega)) (n:=5) (by omega)
 have ws1:IntKind.i64.wrap (1000000 - pk (r.adv 3) 2)=1000000 - pk (r.adv 3) 2:=wrS (by omega)
 have ws2:IntKind.i64.wrap (1+pk (r.adv 1) 5)=1+pk (r.adv 1) 5:=wrS (by omega)
 have b1:1≤1000000 - pk (r.adv 3) 2∧1000000 - pk (r.adv 3) 2≤1000000:=by omega
 have b2:1≤1+pk (r.adv 1) 5∧1+pk (r.adv 1) 5≤1000000:=by omega
 have w1:IntKind.i64.wrap (1+pk r 8)=1+pk r 8:=wrS (by omega)
 simp -implicitDefEqProofs only [go_sem]
 refine WantM.intro (yc 8 h0) ?_
 simp -implicitDefEqProofs only [go_sem,w1]
 refine Want.intro (zmE _) ?_
 generalize hK:1+pk r 8=K at *
 have hk8:K=1∨K=2∨K=3∨K=6∨K=4∨K=5∨K=7∨K=8:=by omega
 rcases hk8 with rfl | rfl | rfl | rfl | rfl | rfl | rfl | rfl
 all_goals simp -implicitDefEqProofs only [go_sem,zb,za]
 all_goals repeat' first | (refine Want.intro (by first | exact zh _ 115 (by decide) | exact zh _ 102 (by decide) | exact zh _ 110 (by decide) | exact zh _ 114 (by decide) | exact zh _ 99 (by decide) | exact zh _ 112 (by decide) | exact zh _ 108 (by decide) | exact yc _ (ok 1 (by omega)) | exact yc _ (ok 2 (by omega)) | exact yc _ (ok 3 (by omega))) ?_;try simp -implicitDefEqProofs only [go_sem,zb,za,ws1,ws2]) | (refine WantM.intro (by first | exact zh _ 115 (by decide) | exact zh _ 102 (by decide) | exact zh _ 110 (by decide) | exact zh _ 114 (by decide) | exact zh _ 99 (by decide) | exact zh _ 112 (by decide) | exact zh _ 108 (by decide) | exact yc _ (ok 1 (by omega)) | exact yc _ (ok 2 (by omega)) | exact yc _ (ok 3 (by omega))) ?_;try simp -implicitDefEqProofs only [go_sem,zb,za,ws1,ws2]) | (refine zm (fun h=>?_) (fun h=>?_)<;>try simp -implicitDefEqProofs only [go_sem,zb,za,ws1,ws2,h]) | (refine zi (fun h=>?_) (fun h=>?_)<;>try simp -implicitDefEqProofs only [go_sem,zb,za,ws1,ws2,h])
 ·refine RetAt.intro (MMsg.avM ⟨1,(1000000 - pk (r.adv 3) 2),0,0,dig0,0,[],[]⟩) (MMsg.outD ⟨1,(1000000 - pk (r.adv 3) 2),0,0,dig0,0,[],[]⟩ (r.adv 4)) ⟨⟨1,(1000000 - pk (r.adv 3) 2),0,0,dig0,0,[],[]⟩,(r.adv 4),⟨rfl,rfl⟩,ok_s b1,yy,by simp,⟨h0.1,by show r.p+4≤_;omega⟩⟩ ?_
  simp -implicitDefEqProofs only [go_sem]
  first | done | rfl | exact ⟨rfl,rfl⟩
 ·refine RetAt.intro (MMsg.avM ⟨1,(1+pk (r.adv 1) 5),0,0,dig0,0,[],[]⟩) (MMsg.outD ⟨1,(1+pk (r.adv 1) 5),0,0,dig0,0,[],[]⟩ (r.adv 3)) ⟨⟨1,(1+pk (r.adv 1) 5),0,0,dig0,0,[],[]⟩,(r.adv 3),⟨rfl,rfl⟩,ok_s b2,yy,by simp,⟨h0.1,by show r.p+3≤_;omega⟩⟩ ?_
  simp -implicitDefEqProofs only [go_sem]
  first | done | rfl | exact ⟨rfl,rfl⟩
 ·have z:=ja (r.adv 4) ((h1.adv 4).le (by omega))
  have zp:=z.2.2.1
  rw [zgO] at zp
  have zd:=z.2.1
  have zk:(szD (r.adv 4)).2.ok (r.p+4+2):=⟨zd.1,by omega⟩
  refine WantM.intro z.2.2.2 ?_
  simp -implicitDefEqProofs only [go_sem]
  repeat' first | (refine Want.intro (by first | exact zh _ 115 (by decide) | exact zh _ 102 (by decide) | exact zh _ 110 (by decide) | exact zh _ 114 (by decide) | exact zh _ 99 (by decide) | exact zh _ 112 (by decide) | exact zh _ 108 (by decide)) ?_;try simp -implicitDefEqProofs only [go_sem,zb,za]) | (refine WantM.intro (by first | exact zh _ 115 (by decide) | exact zh _ 102 (by decide) | exact zh _ 110 (by decide) | exact zh _ 114 (by decide) | exact zh _ 99 (by decide) | exact zh _ 112 (by decide) | exact zh _ 108 (by decide)) ?_;try simp -implicitDefEqProofs only [go_sem,zb,za]) | (refine zm (fun h=>?_) (fun h=>?_)<;>try simp -implicitDefEqProofs only [go_sem,zb,za,h]) | (refine zi (fun h=>?_) (fun h=>?_)<;>try simp -implicitDefEqProofs only [go_sem,zb,za,h])
  refine WantM.intro (zcx _ (zk.le (by omega))) ?_
  simp -implicitDefEqProofs only [go_sem]
  repeat' first | (refine Want.intro (by first | exact zh _ 115 (by decide) | exact zh _ 102 (by decide) | exact zh _ 110 (by decide) | exact zh _ 114 (by decide) | exact zh _ 99 (by decide) | exact zh _ 112 (by decide) | exact zh _ 108 (by decide)) ?_;try simp -implicitDefEqProofs only [go_sem,zb,za]) | (refine WantM.intro (by first | exact zh _ 115 (by decide) | exact zh _ 102 (by decide) | exact zh _ 110 (by decide) | exact zh _ 114 (by decide) | exact zh _ 99 (by decide) | exact zh _ 112 (by decide) | exact zh _ 108 (by decide)) ?_;try simp -implicitDefEqProofs only [go_sem,zb,za]) | (refine zm (fun h=>?_) (fun h=>?_)<;>try simp -implicitDefEqProofs only [go_sem,zb,za,h]) | (refine zi (fun h=>?_) (fun h=>?_)<;>try simp -implicitDefEqProofs only [go_sem,zb,za,h])
  refine RetAt.intro (MMsg.avM ⟨2,(1000000 - pk (r.adv 3) 2),0,(szD (r.adv 4)).1,(dgR (szD (r.adv 4)).2).1,0,[],[]⟩) (MMsg.outD ⟨2,(1000000 - pk (r.adv 3) 2),0,(szD (r.adv 4)).1,(dgR (szD (r.adv 4)).2).1,0,[],[]⟩ (dgR (szD (r.adv 4)).2).2) ⟨⟨2,(1000000 - pk (r.adv 3) 2),0,(szD (r.adv 4)).1,(dgR (szD (r.adv 4)).2).1,0,[],[]⟩,(dgR (szD (r.adv 4)).2).2,⟨rfl,rfl⟩,zgc b1 z.1,qj _ (zk.le (by omega)),by simp,(jV _ zk).1.le (by omega)⟩ ?_
  simp -implicitDefEqProofs only [go_sem]
  first | done | rfl | exact ⟨rfl,rfl⟩
 ·have z:=ja (r.adv 3) ((h1.adv 3).le (by omega))
  have zp:=z.2.2.1
  rw [zgO] at zp
  have zd:=z.2.1
  have zk:(szD (r.adv 3)).2.ok (r.p+3+2):=⟨zd.1,by omega⟩
  refine WantM.intro z.2.2.2 ?_
  simp -implicitDefEqProofs only [go_sem]
  repeat' first | (refine Want.intro (by first | exact zh _ 115 (by decide) | exact zh _ 102 (by decide) | exact zh _ 110 (by decide) | exact zh _ 114 (by decide) | exact zh _ 99 (by decide) | exact zh _ 112 (by decide) | exact zh _ 108 (by decide)) ?_;try simp -implicitDefEqProofs only [go_sem,zb,za]) | (refine WantM.intro (by first | exact zh _ 115 (by decide) | exact zh _ 102 (by decide) | exact zh _ 110 (by decide) | exact zh _ 114 (by decide) | exact zh _ 99 (by decide) | exact zh _ 112 (by decide) | exact zh _ 108 (by decide)) ?_;try simp -implicitDefEqProofs only [go_sem,zb,za]) | (refine zm (fun h=>?_) (fun h=>?_)<;>try simp -implicitDefEqProofs only [go_sem,zb,za,h]) | (refine zi (fun h=>?_) (fun h=>?_)<;>try simp -implicitDefEqProofs only [go_sem,zb,za,h])
  refine WantM.intro (zcx _ (zk.le (by omega))) ?_
  simp -implicitDefEqProofs only [go_sem]
  repeat' first | (refine Want.intro (by first | exact zh _ 115 (by decide) | exact zh _ 102 (by decide) | exact zh _ 110 (by decide) | exact zh _ 114 (by decide) | exact zh _ 99 (by decide) | exact zh _ 112 (by decide) | exact zh _ 108 (by decide)) ?_;try simp -implicitDefEqProofs only [go_sem,zb,za]) | (refine WantM.intro (by first | exact zh _ 115 (by decide) | exact zh _ 102 (by decide) | exact zh _ 110 (by decide) | exact zh _ 114 (by decide) | exact zh _ 99 (by decide) | exact zh _ 112 (by decide) | exact zh _ 108 (by decide)) ?_;try simp -implicitDefEqProofs only [go_sem,zb,za]) | (refine zm (fun h=>?_) (fun h=>?_)<;>try simp -implicitDefEqProofs only [go_sem,zb,za,h]) | (refine zi (fun h=>?_) (fun h=>?_)<;>try simp -implicitDefEqProofs only [go_sem,zb,za,h])
  refine RetAt.intro (MMsg.avM ⟨2,(1+pk (r.adv 1) 5),0,(szD (r.adv 3)).1,(dgR (szD (r.adv 3)).2).1,0,[],[]⟩) (MMsg.outD ⟨2,(1+pk (r.adv 1) 5),0,(szD (r.adv 3)).1,(dgR (szD (r.adv 3)).2).1,0,[],[]⟩ (dgR (szD (r.adv 3)).2).2) ⟨⟨2,(1+pk (r.adv 1) 5),0,(szD (r.adv 3)).1,(dgR (szD (r.adv 3)).2).1,0,[],[]⟩,(dgR (szD (r.adv 3)).2).2,⟨rfl,rfl⟩,zgc b2 z.1,qj _ (zk.le (by omega)),by simp,(jV _ zk).1.le (by omega)⟩ ?_
  simp -implicitDefEqProofs only [go_sem]
  first | done | rfl | exact ⟨rfl,rfl⟩
 ·have z:=ja (r.adv 4) ((h1.adv 4).le (by omega))
  have zp:=z.2.2.1
  rw [zgO] at zp
  have zd:=z.2.1
  have zk:(szD (r.adv 4)).2.ok (r.p+4+2):=⟨zd.1,by omega⟩
  refine WantM.intro z.2.2.2 ?_
  simp -implicitDefEqProofs only [go_sem]
  repeat' first | (refine Want.intro (by first | exact zh _ 115 (by decide) | exact zh _ 102 (by decide) | exact zh _ 110 (by decide) | exact zh _ 114 (by decide) | exact zh _ 99 (by decide) | exact zh _ 112 (by decide) | exact zh _ 108 (by decide)) ?_;try simp -implicitDefEqProofs only [go_sem,zb,za]) | (refine WantM.intro (by first | exact zh _ 115 (by decide) | exact zh _ 102 (by decide) | exact zh _ 110 (by decide) | exact zh _ 114 (by decide) | exact zh _ 99 (by decide) | exact zh _ 112 (by decide) | exact zh _ 108 (by decide)) ?_;try simp -implicitDefEqProofs only [go_sem,zb,za]) | (refine zm (fun h=>?_) (fun h=>?_)<;>try simp -implicitDefEqProofs only [go_sem,zb,za,h]) | (refine zi (fun h=>?_) (fun h=>?_)<;>try simp -implicitDefEqProofs only [go_sem,zb,za,h])
  refine WantM.intro (zcx _ (zk.le (by omega))) ?_
  simp -implicitDefEqProofs only [go_sem]
  repeat' first | (refine Want.intro (by first | exact zh _ 115 (by decide) | exact zh _ 102 (by decide) | exact zh _ 110 (by decide) | exact zh _ 114 (by decide) | exact zh _ 99 (by decide) | exact zh _ 112 (by decide) | exact zh _ 108 (by decide)) ?_;try simp -implicitDefEqProofs only [go_sem,zb,za]) | (refine WantM.intro (by first | exact zh _ 115 (by decide) | exact zh _ 102 (by decide) | exact zh _ 110 (by decide) | exact zh _ 114 (by decide) | exact zh _ 99 (by decide) | exact zh _ 112 (by decide) | exact zh _ 108 (by decide)) ?_;try simp -implicitDefEqProofs only [go_sem,zb,za]) | (refine zm (fun h=>?_) (fun h=>?_)<;>try simp -implicitDefEqProofs only [go_sem,zb,za,h]) | (refine zi (fun h=>?_) (fun h=>?_)<;>try simp -implicitDefEqProofs only [go_sem,zb,za,h])
  refine RetAt.intro (MMsg.avM ⟨3,(1000000 - pk (r.adv 3) 2),0,(szD (r.adv 4)).1,(dgR (szD (r.adv 4)).2).1,0,[],[]⟩) (MMsg.outD ⟨3,(1000000 - pk (r.adv 3) 2),0,(szD (r.adv 4)).1,(dgR (szD (r.adv 4)).2).1,0,[],[]⟩ (dgR (szD (r.adv 4)).2).2) ⟨⟨3,(1000000 - pk (r.adv 3) 2),0,(szD (r.adv 4)).1,(dgR (szD (r.adv 4)).2).1,0,[],[]⟩,(dgR (szD (r.adv 4)).2).2,⟨rfl,rfl⟩,zgb b1 z.1,qj _ (zk.le (by omega)),by simp,(jV _ zk).1.le (by omega)⟩ ?_
  simp -implicitDefEqProofs only [go_sem]
  first | done | rfl | exact ⟨rfl,rfl⟩
 ·have z:=ja (r.adv 3) ((h1.adv 3).le (by omega))
  have zp:=z.2.2.1
  rw [zgO] at zp
  have zd:=z.2.1
  have zk:(szD (r.adv 3)).2.ok (r.p+3+2):=⟨zd.1,by omega⟩
  refine WantM.intro z.2.2.2 ?_
  simp -implicitDefEqProofs only [go_sem]
  repeat' first | (refine Want.intro (by first | exact zh _ 115 (by decide) | exact zh _ 102 (by decide) | exact zh _ 110 (by decide) | exact zh _ 114 (by decide) | exact zh _ 99 (by decide) | exact zh _ 112 (by decide) | exact zh _ 108 (by decide)) ?_;try simp -implicitDefEqProofs only [go_sem,zb,za]) | (refine WantM.intro (by first | exact zh _ 115 (by decide) | exact zh _ 102 (by decide) | exact zh _ 110 (by decide) | exact zh _ 114 (by decide) | exact zh _ 99 (by decide) | exact zh _ 112 (by decide) | exact zh _ 108 (by decide)) ?_;try simp -implicitDefEqProofs only [go_sem,zb,za]) | (refine zm (fun h=>?_) (fun h=>?_)<;>try simp -implicitDefEqProofs only [go_sem,zb,za,h]) | (refine zi (fun h=>?_) (fun h=>?_)<;>try simp -implicitDefEqProofs only [go_sem,zb,za,h])
  refine WantM.intro (zcx _ (zk.le (by omega))) ?_
  simp -implicitDefEqProofs only [go_sem]
  repeat' first | (refine Want.intro (by first | exact zh _ 115 (by decide) | exact zh _ 102 (by decide) | exact zh _ 110 (by decide) | exact zh _ 114 (by decide) | exact zh _ 99 (by decide) | exact zh _ 112 (by decide) | exact zh _ 108 (by decide)) ?_;try simp -implicitDefEqProofs only [go_sem,zb,za]) | (refine WantM.intro (by first | exact zh _ 115 (by decide) | exact zh _ 102 (by decide) | exact zh _ 110 (by decide) | exact zh _ 114 (by decide) | exact zh _ 99 (by decide) | exact zh _ 112 (by decide) | exact zh _ 108 (by decide)) ?_;try simp -implicitDefEqProofs only [go_sem,zb,za]) | (refine zm (fun h=>?_) (fun h=>?_)<;>try simp -implicitDefEqProofs only [go_sem,zb,za,h]) | (refine zi (fun h=>?_) (fun h=>?_)<;>try simp -implicitDefEqProofs only [go_sem,zb,za,h])
  refine RetAt.intro (MMsg.avM ⟨3,(1+pk (r.adv 1) 5),0,(szD (r.adv 3)).1,(dgR (szD (r.adv 3)).2).1,0,[],[]⟩) (MMsg.outD ⟨3,(1+pk (r.adv 1) 5),0,(szD (r.adv 3)).1,(dgR (szD (r.adv 3)).2).1,0,[],[]⟩ (dgR (szD (r.adv 3)).2).2) ⟨⟨3,(1+pk (r.adv 1) 5),0,(szD (r.adv 3)).1,(dgR (szD (r.adv 3)).2).1,0,[],[]⟩,(dgR (szD (r.adv 3)).2).2,⟨rfl,rfl⟩,zgb b2 z.1,qj _ (zk.le (by omega)),by simp,(jV _ zk).1.le (by omega)⟩ ?_
  simp -implicitDefEqProofs only [go_sem]
  first | done | rfl | exact ⟨rfl,rfl⟩
 ·have z:=ja (r.adv 4) ((h1.adv 4).le (by omega))
  have zp:=z.2.2.1
  rw [zgO] at zp
  have zd:=z.2.1
  have zk:(szD (r.adv 4)).2.ok (r.p+4+2):=⟨zd.1,by omega⟩
  refine WantM.intro z.2.2.2 ?_
  simp -implicitDefEqProofs only [go_sem]
  repeat' first | (refine Want.intro (by first | exact zh _ 115 (by decide) | exact zh _ 102 (by decide) | exact zh _ 110 (by decide) | exact zh _ 114 (by decide) | exact zh _ 99 (by decide) | exact zh _ 112 (by decide) | exact zh _ 108 (by decide)) ?_;try simp -implicitDefEqProofs only [go_sem,zb,za]) | (refine WantM.intro (by first | exact zh _ 115 (by decide) | exact zh _ 102 (by decide) | exact zh _ 110 (by decide) | exact zh _ 114 (by decide) | exact zh _ 99 (by decide) | exact zh _ 112 (by decide) | exact zh _ 108 (by decide)) ?_;try simp -implicitDefEqProofs only [go_sem,zb,za]) | (refine zm (fun h=>?_) (fun h=>?_)<;>try simp -implicitDefEqProofs only [go_sem,zb,za,h]) | (refine zi (fun h=>?_) (fun h=>?_)<;>try simp -implicitDefEqProofs only [go_sem,zb,za,h])
  refine WantM.intro (zcx _ (zk.le (by omega))) ?_
  simp -implicitDefEqProofs only [go_sem]
  repeat' first | (refine Want.intro (by first | exact zh _ 115 (by decide) | exact zh _ 102 (by decide) | exact zh _ 110 (by decide) | exact zh _ 114 (by decide) | exact zh _ 99 (by decide) | exact zh _ 112 (by decide) | exact zh _ 108 (by decide)) ?_;try simp -implicitDefEqProofs only [go_sem,zb,za]) | (refine WantM.intro (by first | exact zh _ 115 (by decide) | exact zh _ 102 (by decide) | exact zh _ 110 (by decide) | exact zh _ 114 (by decide) | exact zh _ 99 (by decide) | exact zh _ 112 (by decide) | exact zh _ 108 (by decide)) ?_;try simp -implicitDefEqProofs only [go_sem,zb,za]) | (refine zm (fun h=>?_) (fun h=>?_)<;>try simp -implicitDefEqProofs only [go_sem,zb,za,h]) | (refine zi (fun h=>?_) (fun h=>?_)<;>try simp -implicitDefEqProofs only [go_sem,zb,za,h])
  refine RetAt.intro (MMsg.avM ⟨6,(1000000 - pk (r.adv 3) 2),0,(szD (r.adv 4)).1,(dgR (szD (r.adv 4)).2).1,0,[],[]⟩) (MMsg.outD ⟨6,(1000000 - pk (r.adv 3) 2),0,(szD (r.adv 4)).1,(dgR (szD (r.adv 4)).2).1,0,[],[]⟩ (dgR (szD (r.adv 4)).2).2) ⟨⟨6,(1000000 - pk (r.adv 3) 2),0,(szD (r.adv 4)).1,(dgR (szD (r.adv 4)).2).1,0,[],[]⟩,(dgR (szD (r.adv 4)).2).2,⟨rfl,rfl⟩,zdU b1 z.1,qj _ (zk.le (by omega)),by simp,(jV _ zk).1.le (by omega)⟩ ?_
  simp -implicitDefEqProofs only [go_sem]
  first | done | rfl | exact ⟨rfl,rfl⟩
 ·have z:=ja (r.adv 3) ((h1.adv 3).le (by omega))
  have zp:=z.2.2.1
  rw [zgO] at zp
  have zd:=z.2.1
  have zk:(szD (r.adv 3)).2.ok (r.p+3+2):=⟨zd.1,by omega⟩
  refine WantM.intro z.2.2.2 ?_
  simp -implicitDefEqProofs only [go_sem]
  repeat' first | (refine Want.intro (by first | exact zh _ 115 (by decide) | exact zh _ 102 (by decide) | exact zh _ 110 (by decide) | exact zh _ 114 (by decide) | exact zh _ 99 (by decide) | exact zh _ 112 (by decide) | exact zh _ 108 (by decide)) ?_;try simp -implicitDefEqProofs only [go_sem,zb,za]) | (refine WantM.intro (by first | exact zh _ 115 (by decide) | exact zh _ 102 (by decide) | exact zh _ 110 (by decide) | exact zh _ 114 (by decide) | exact zh _ 99 (by decide) | exact zh _ 112 (by decide) | exact zh _ 108 (by decide)) ?_;try simp -implicitDefEqProofs only [go_sem,zb,za]) | (refine zm (fun h=>?_) (fun h=>?_)<;>try simp -implicitDefEqProofs only [go_sem,zb,za,h]) | (refine zi (fun h=>?_) (fun h=>?_)<;>try simp -implicitDefEqProofs only [go_sem,zb,za,h])
  refine WantM.intro (zcx _ (zk.le (by omega))) ?_
  simp -implicitDefEqProofs only [go_sem]
  repeat' first | (refine Want.intro (by first | exact zh _ 115 (by decide) | exact zh _ 102 (by decide) | exact zh _ 110 (by decide) | exact zh _ 114 (by decide) | exact zh _ 99 (by decide) | exact zh _ 112 (by decide) | exact zh _ 108 (by decide)) ?_;try simp -implicitDefEqProofs only [go_sem,zb,za]) | (refine WantM.intro (by first | exact zh _ 115 (by decide) | exact zh _ 102 (by decide) | exact zh _ 110 (by decide) | exact zh _ 114 (by decide) | exact zh _ 99 (by decide) | exact zh _ 112 (by decide) | exact zh _ 108 (by decide)) ?_;try simp -implicitDefEqProofs only [go_sem,zb,za]) | (refine zm (fun h=>?_) (fun h=>?_)<;>try simp -implicitDefEqProofs only [go_sem,zb,za,h]) | (refine zi (fun h=>?_) (fun h=>?_)<;>try simp -implicitDefEqProofs only [go_sem,zb,za,h])
  refine RetAt.intro (MMsg.avM ⟨6,(1+pk (r.adv 1) 5),0,(szD (r.adv 3)).1,(dgR (szD (r.adv 3)).2).1,0,[],[]⟩) (MMsg.outD ⟨6,(1+pk (r.adv 1) 5),0,(szD (r.adv 3)).1,(dgR (szD (r.adv 3)).2).1,0,[],[]⟩ (dgR (szD (r.adv 3)).2).2) ⟨⟨6,(1+pk (r.adv 1) 5),0,(szD (r.adv 3)).1,(dgR (szD (r.adv 3)).2).1,0,[],[]⟩,(dgR (szD (r.adv 3)).2).2,⟨rfl,rfl⟩,zdU b2 z.1,qj _ (zk.le (by omega)),by simp,(jV _ zk).1.le (by omega)⟩ ?_
  simp -implicitDefEqProofs only [go_sem]
  first | done | rfl | exact ⟨rfl,rfl⟩
 ·have z:=ja r.nx (h1.nx.le (by omega))
  have zp:=z.2.2.1
  rw [zqI] at zp
  have zd:=z.2.1
  have zk:(szD r.nx).2.ok (r.p+3):=⟨zd.1,by omega⟩
  refine WantM.intro z.2.2.2 ?_
  simp -implicitDefEqProofs only [go_sem]
  repeat' first | (refine Want.intro (by first | exact zh _ 115 (by decide) | exact zh _ 102 (by decide) | exact zh _ 110 (by decide) | exact zh _ 114 (by decide) | exact zh _ 99 (by decide) | exact zh _ 112 (by decide) | exact zh _ 108 (by decide)) ?_;try simp -implicitDefEqProofs only [go_sem,zb,za]) | (refine WantM.intro (by first | exact zh _ 115 (by decide) | exact zh _ 102 (by decide) | exact zh _ 110 (by decide) | exact zh _ 114 (by decide) | exact zh _ 99 (by decide) | exact zh _ 112 (by decide) | exact zh _ 108 (by decide)) ?_;try simp -implicitDefEqProofs only [go_sem,zb,za]) | (refine zm (fun h=>?_) (fun h=>?_)<;>try simp -implicitDefEqProofs only [go_sem,zb,za,h]) | (refine zi (fun h=>?_) (fun h=>?_)<;>try simp -implicitDefEqProofs only [go_sem,zb,za,h])
  have y:=ja (szD r.nx).2 (zk.le (by omega))
  have yd:=y.2.1
  have yp:=y.2.2.1
  have yk:(szD (szD r.nx).2).2.ok (r.p+5):=⟨yd.1,by omega⟩
  refine WantM.intro y.2.2.2 ?_
  simp -implicitDefEqProofs only [go_sem]
  repeat' first | (refine Want.intro (by first | exact zh _ 115 (by decide) | exact zh _ 102 (by decide) | exact zh _ 110 (by decide) | exact zh _ 114 (by decide) | exact zh _ 99 (by decide) | exact zh _ 112 (by decide) | exact zh _ 108 (by decide)) ?_;try simp -implicitDefEqProofs only [go_sem,zb,za]) | (refine WantM.intro (by first | exact zh _ 115 (by decide) | exact zh _ 102 (by decide) | exact zh _ 110 (by decide) | exact zh _ 114 (by decide) | exact zh _ 99 (by decide) | exact zh _ 112 (by decide) | exact zh _ 108 (by decide)) ?_;try simp -implicitDefEqProofs only [go_sem,zb,za]) | (refine zm (fun h=>?_) (fun h=>?_)<;>try simp -implicitDefEqProofs only [go_sem,zb,za,h]) | (refine zi (fun h=>?_) (fun h=>?_)<;>try simp -implicitDefEqProofs only [go_sem,zb,za,h])
  refine RetAt.intro (MMsg.avM ⟨4,0,(szD r.nx).1,(szD (szD r.nx).2).1,dig0,0,[],[]⟩) (MMsg.outD ⟨4,0,(szD r.nx).1,(szD (szD r.nx).2).1,dig0,0,[],[]⟩ (szD (szD r.nx).2).2) ⟨⟨4,0,(szD r.nx).1,(szD (szD r.nx).2).1,dig0,0,[],[]⟩,(szD (szD r.nx).2).2,⟨rfl,rfl⟩,zoc z.1 y.1,yy,by simp,yk.le (by omega)⟩ ?_
  simp -implicitDefEqProofs only [go_sem]
  first | done | rfl | exact ⟨rfl,rfl⟩
 ·have z:=ja r.nx (h1.nx.le (by omega))
  have zp:=z.2.2.1
  rw [zqI] at zp
  have zd:=z.2.1
  have zk:(szD r.nx).2.ok (r.p+3):=⟨zd.1,by omega⟩
  refine WantM.intro z.2.2.2 ?_
  simp -implicitDefEqProofs only [go_sem]
  repeat' first | (refine Want.intro (by first | exact zh _ 115 (by decide) | exact zh _ 102 (by decide) | exact zh _ 110 (by decide) | exact zh _ 114 (by decide) | exact zh _ 99 (by decide) | exact zh _ 112 (by decide) | exact zh _ 108 (by decide)) ?_;try simp -implicitDefEqProofs only [go_sem,zb,za]) | (refine WantM.intro (by first | exact zh _ 115 (by decide) | exact zh _ 102 (by decide) | exact zh _ 110 (by decide) | exact zh _ 114 (by decide) | exact zh _ 99 (by decide) | exact zh _ 112 (by decide) | exact zh _ 108 (by decide)) ?_;try simp -implicitDefEqProofs only [go_sem,zb,za]) | (refine zm (fun h=>?_) (fun h=>?_)<;>try simp -implicitDefEqProofs only [go_sem,zb,za,h]) | (refine zi (fun h=>?_) (fun h=>?_)<;>try simp -implicitDefEqProofs only [go_sem,zb,za,h])
  have y:=ja (szD r.nx).2 (zk.le (by omega))
  have yd:=y.2.1
  have yp:=y.2.2.1
  have yk:(szD (szD r.nx).2).2.ok (r.p+5):=⟨yd.1,by omega⟩
  refine WantM.intro y.2.2.2 ?_
  simp -implicitDefEqProofs only [go_sem]
  repeat' first | (refine Want.intro (by first | exact zh _ 115 (by decide) | exact zh _ 102 (by decide) | exact zh _ 110 (by decide) | exact zh _ 114 (by decide) | exact zh _ 99 (by decide) | exact zh _ 112 (by decide) | exact zh _ 108 (by decide)) ?_;try simp -implicitDefEqProofs only [go_sem,zb,za]) | (refine WantM.intro (by first | exact zh _ 115 (by decide) | exact zh _ 102 (by decide) | exact zh _ 110 (by decide) | exact zh _ 114 (by decide) | exact zh _ 99 (by decide) | exact zh _ 112 (by decide) | exact zh _ 108 (by decide)) ?_;try simp -implicitDefEqProofs only [go_sem,zb,za]) | (refine zm (fun h=>?_) (fun h=>?_)<;>try simp -implicitDefEqProofs only [go_sem,zb,za,h]) | (refine zi (fun h=>?_) (fun h=>?_)<;>try simp -implicitDefEqProofs only [go_sem,zb,za,h])
  generalize (szD (szD r.nx).2).2=R at *
  generalize (szD (szD r.nx).2).1=ZZ at *
  generalize (szD r.nx).1=FF at *
  have hq:=zM (yk.le (b:=1000000000) (by omega)) (n:=5) (by omega)
  refine WantM.intro (yc 5 (yk.le (by omega))) ?_
  simp -implicitDefEqProofs only [go_sem]
  obtain ⟨K,hK⟩:∃K:Nat,pk R 5=K:=⟨(pk R 5).toNat,by omega⟩
  have hK4:K≤4:=by omega
  rw [hK]
  refine qv [(10003,4)] (fun m s=>∃(i:Nat) (l:List MDig) (Q:Dr),i≤K∧m=K - i∧l.length=i∧(∀d∈l,d.ok)∧Q.ok (r.p+6+36 * i)∧s=⟨105,[(0,vD),(2,.ptr 2 0 [] 11 0 0),(3,.ptr 3 0 [] 11 0 0),(4,vS ⟨#[102,110,112]⟩),(5,vI ((K - i:Nat):Int))],[(1000000,0,one ⟨2,[Q.cs],0,false⟩),(2,0,one ⟨11,[zqm],0,false⟩),(3,0,one ⟨11,[[vI 5,vI 0,vI FF,vI ZZ,vU 0,vU 0,vU 0,vU 0,vI 0,.blk 10003 0 [] 4 0 l.length,.nilS]],0,false⟩),(10003,0,one ⟨4,l.map MDig.cs,2,false⟩)],1⟩) K ?_ ?_
  ·simp -implicitDefEqProofs only [go_sem]
   exact ⟨0,[],R.nx,by omega,rfl,rfl,by simp,yk.nx,rfl⟩
  ·rintro m s ⟨i,l,Q,hi,rfl,hl,hd,hQ,rfl⟩
   rcases Nat.lt_or_ge i K with hlt | hge
   ·have hlt':((K - i:Nat):Int)>0:=by omega
    have w4:IntKind.i64.wrap (((K - i:Nat):Int) - 1)=((K - (i+1):Nat):Int):=by rw [wrS (by omega)];omega
    have ha:∀x,_:=fun x=>zK (E:=MDig.cs) (l:=l) (xs:=[x]) (b:=32) (n:=100) (by simp;omega) (by omega) (by omega)
    simp -implicitDefEqProofs only [go_sem,hlt']
    refine WantM.intro (zcx Q (hQ.le (by omega))) ?_
    simp -implicitDefEqProofs only [go_sem,ha,w4]
    refine ⟨_,by omega,i+1,l++[(dgR Q).1],(dgR Q).2,hlt,rfl,by simp [hl],?_,((jV Q hQ).1.le (by omega)),?_⟩
    ·intro d hdm
     rcases List.mem_append.1 hdm with hdm | hdm
     ·exact hd d hdm
     ·rw [List.mem_singleton.1 hdm]
      exact qj Q (hQ.le (by omega))
    ·simp [MDig.cs,Dr.cs]
   ·have hiK:i=K:=by omega
    subst hiK
    have hlt':¬(((i - i:Nat):Int)>0):=by omega
    have hq2:=zM (hQ.le (b:=1000000000) (by omega)) (n:=12) (by omega)
    simp -implicitDefEqProofs only [go_sem,hlt']
    refine WantM.intro (yc 12 (hQ.le (by omega))) ?_
    simp -implicitDefEqProofs only [go_sem]
    refine zi (fun h=>?_) (fun h=>?_)
    ·simp -implicitDefEqProofs only [go_sem,h]
     clear hK hq
     refine zX (fun m s=>∃(n:Nat) (l:List MDig),l.length=n∧n≤16∧m=16 - n∧(∀d∈l,d.ok)∧s=⟨105,[(0,vD),(2,.ptr 2 0 [] 11 0 0),(3,.ptr 3 0 [] 11 0 0),(4,vS ⟨#[102,110,112]⟩)],[(1000000,0,one ⟨2,[Q.nx.cs],0,false⟩),(2,0,one ⟨11,[zqm],0,false⟩),(3,0,one ⟨11,[[vI 5,vI 0,vI FF,vI ZZ,vU 0,vU 0,vU 0,vU 0,vI 0,.blk 10003 0 [] 4 0 l.length,.nilS]],0,false⟩),(10003,0,one ⟨4,l.map MDig.cs,2,false⟩)],1⟩) (16 - l.length) ?_ ?_
     ·simp -implicitDefEqProofs only [go_sem]
      exact ⟨l.length,l,rfl,by omega,rfl,hd,rfl⟩
     ·rintro m s ⟨n,l,rfl,hn,rfl,hd,rfl⟩
      rcases Nat.lt_or_ge l.length 16 with hlt | hge
      ·have hlt':(l.length:Int)<16:=by omega
       have ha:∀x,_:=fun x=>zK (E:=MDig.cs) (l:=l) (xs:=[x]) (b:=32) (n:=100) (by simp;omega) (by omega) (by omega)
       simp -implicitDefEqProofs only [go_sem,hlt',ha]
       refine ⟨_,?_,(l++[dig0]).length,l++[dig0],rfl,by simp;omega,rfl,?_,?_⟩
       ·simp;omega
       ·intro d hdm
        rcases List.mem_append.1 hdm with hdm | hdm
        ·exact hd d hdm
        ·rw [List.mem_singleton.1 hdm]
         exact yy
       ·simp [MDig.cs,dig0]
        rfl
      ·have hlt':¬(l.length:Int)<16:=by omega
       simp -implicitDefEqProofs only [go_sem,hlt']
       repeat' first | (refine Want.intro (by first | exact zh _ 115 (by decide) | exact zh _ 102 (by decide) | exact zh _ 110 (by decide) | exact zh _ 114 (by decide) | exact zh _ 99 (by decide) | exact zh _ 112 (by decide) | exact zh _ 108 (by decide)) ?_;try simp -implicitDefEqProofs only [go_sem,zb,za]) | (refine WantM.intro (by first | exact zh _ 115 (by decide) | exact zh _ 102 (by decide) | exact zh _ 110 (by decide) | exact zh _ 114 (by decide) | exact zh _ 99 (by decide) | exact zh _ 112 (by decide) | exact zh _ 108 (by decide)) ?_;try simp -implicitDefEqProofs only [go_sem,zb,za]) | (refine zm (fun h=>?_) (fun h=>?_)<;>try simp -implicitDefEqProofs only [go_sem,zb,za,h]) | (refine zi (fun h=>?_) (fun h=>?_)<;>try simp -implicitDefEqProofs only [go_sem,zb,za,h])
       refine RetAt.intro (MMsg.avM ⟨5,0,FF,ZZ,dig0,0,l,[]⟩) (MMsg.outD ⟨5,0,FF,ZZ,dig0,0,l,[]⟩ Q.nx) ⟨⟨5,0,FF,ZZ,dig0,0,l,[]⟩,Q.nx,⟨rfl,rfl⟩,zjQ z.1 y.1 hn,yy,hd,hQ.nx.le (by omega)⟩ ?_
       simp -implicitDefEqProofs only [go_sem]
       first | done | rfl | exact ⟨rfl,rfl⟩
    ·simp -implicitDefEqProofs only [go_sem,h]
     repeat' first | (refine Want.intro (by first | exact zh _ 115 (by decide) | exact zh _ 102 (by decide) | exact zh _ 110 (by decide) | exact zh _ 114 (by decide) | exact zh _ 99 (by decide) | exact zh _ 112 (by decide) | exact zh _ 108 (by decide)) ?_;try simp -implicitDefEqProofs only [go_sem,zb,za]) | (refine WantM.intro (by first | exact zh _ 115 (by decide) | exact zh _ 102 (by decide) | exact zh _ 110 (by decide) | exact zh _ 114 (by decide) | exact zh _ 99 (by decide) | exact zh _ 112 (by decide) | exact zh _ 108 (by decide)) ?_;try simp -implicitDefEqProofs only [go_sem,zb,za]) | (refine zm (fun h=>?_) (fun h=>?_)<;>try simp -implicitDefEqProofs only [go_sem,zb,za,h]) | (refine zi (fun h=>?_) (fun h=>?_)<;>try simp -implicitDefEqProofs only [go_sem,zb,za,h])
     refine RetAt.intro (MMsg.avM ⟨5,0,FF,ZZ,dig0,0,l,[]⟩) (MMsg.outD ⟨5,0,FF,ZZ,dig0,0,l,[]⟩ Q.nx) ⟨⟨5,0,FF,ZZ,dig0,0,l,[]⟩,Q.nx,⟨rfl,rfl⟩,zjQ z.1 y.1 (by omega),yy,hd,hQ.nx.le (by omega)⟩ ?_
     simp -implicitDefEqProofs only [go_sem]
     first | done | rfl | exact ⟨rfl,rfl⟩
 ·have z:=ja r.nx (h1.nx.le (by omega))
  have zp:=z.2.2.1
  rw [zqI] at zp
  have zd:=z.2.1
  have zk:(szD r.nx).2.ok (r.p+3):=⟨zd.1,by omega⟩
  refine WantM.intro z.2.2.2 ?_
  simp -implicitDefEqProofs only [go_sem]
  repeat' first | (refine Want.intro (by first | exact zh _ 115 (by decide) | exact zh _ 102 (by decide) | exact zh _ 110 (by decide) | exact zh _ 114 (by decide) | exact zh _ 99 (by decide) | exact zh _ 112 (by decide) | exact zh _ 108 (by decide)) ?_;try simp -implicitDefEqProofs only [go_sem,zb,za]) | (refine WantM.intro (by first | exact zh _ 115 (by decide) | exact zh _ 102 (by decide) | exact zh _ 110 (by decide) | exact zh _ 114 (by decide) | exact zh _ 99 (by decide) | exact zh _ 112 (by decide) | exact zh _ 108 (by decide)) ?_;try simp -implicitDefEqProofs only [go_sem,zb,za]) | (refine zm (fun h=>?_) (fun h=>?_)<;>try simp -implicitDefEqProofs only [go_sem,zb,za,h]) | (refine zi (fun h=>?_) (fun h=>?_)<;>try simp -implicitDefEqProofs only [go_sem,zb,za,h])
  have q8:=zM (zk.le (b:=1000000000) (by omega)) (n:=8) (by omega)
  have w8:IntKind.i64.wrap (1+pk (szD r.nx).2 8)=1+pk (szD r.nx).2 8:=wrS (by omega)
  refine WantM.intro (yc 8 (zk.le (by omega))) ?_
  simp -implicitDefEqProofs only [go_sem,w8]
  repeat' first | (refine Want.intro (by first | exact zh _ 115 (by decide) | exact zh _ 102 (by decide) | exact zh _ 110 (by decide) | exact zh _ 114 (by decide) | exact zh _ 99 (by decide) | exact zh _ 112 (by decide) | exact zh _ 108 (by decide)) ?_;try simp -implicitDefEqProofs only [go_sem,zb,za]) | (refine WantM.intro (by first | exact zh _ 115 (by decide) | exact zh _ 102 (by decide) | exact zh _ 110 (by decide) | exact zh _ 114 (by decide) | exact zh _ 99 (by decide) | exact zh _ 112 (by decide) | exact zh _ 108 (by decide)) ?_;try simp -implicitDefEqProofs only [go_sem,zb,za]) | (refine zm (fun h=>?_) (fun h=>?_)<;>try simp -implicitDefEqProofs only [go_sem,zb,za,h]) | (refine zi (fun h=>?_) (fun h=>?_)<;>try simp -implicitDefEqProofs only [go_sem,zb,za,h])
  refine RetAt.intro (MMsg.avM ⟨7,0,(szD r.nx).1,0,dig0,1+pk (szD r.nx).2 8,[],[]⟩) (MMsg.outD ⟨7,0,(szD r.nx).1,0,dig0,1+pk (szD r.nx).2 8,[],[]⟩ (szD r.nx).2.nx) ⟨⟨7,0,(szD r.nx).1,0,dig0,1+pk (szD r.nx).2 8,[],[]⟩,(szD r.nx).2.nx,⟨rfl,rfl⟩,zqH z.1 (by omega),yy,by simp,zk.nx.le (by omega)⟩ ?_
  simp -implicitDefEqProofs only [go_sem]
  first | done | rfl | exact ⟨rfl,rfl⟩
 ·have z:=ja r.nx (h1.nx.le (by omega))
  have zp:=z.2.2.1
  rw [zqI] at zp
  have zd:=z.2.1
  have zk:(szD r.nx).2.ok (r.p+3):=⟨zd.1,by omega⟩
  refine WantM.intro z.2.2.2 ?_
  simp -implicitDefEqProofs only [go_sem]
  repeat' first | (refine Want.intro (by first | exact zh _ 115 (by decide) | exact zh _ 102 (by decide) | exact zh _ 110 (by decide) | exact zh _ 114 (by decide) | exact zh _ 99 (by decide) | exact zh _ 112 (by decide) | exact zh _ 108 (by decide)) ?_;try simp -implicitDefEqProofs only [go_sem,zb,za]) | (refine WantM.intro (by first | exact zh _ 115 (by decide) | exact zh _ 102 (by decide) | exact zh _ 110 (by decide) | exact zh _ 114 (by decide) | exact zh _ 99 (by decide) | exact zh _ 112 (by decide) | exact zh _ 108 (by decide)) ?_;try simp -implicitDefEqProofs only [go_sem,zb,za]) | (refine zm (fun h=>?_) (fun h=>?_)<;>try simp -implicitDefEqProofs only [go_sem,zb,za,h]) | (refine zi (fun h=>?_) (fun h=>?_)<;>try simp -implicitDefEqProofs only [go_sem,zb,za,h])
  generalize (szD r.nx).2=R at *
  generalize (szD r.nx).1=FF at *
  have hq:=zM (zk.le (b:=1000000000) (by omega)) (n:=9) (by omega)
  refine WantM.intro (yc 9 (zk.le (by omega))) ?_
  simp -implicitDefEqProofs only [go_sem]
  obtain ⟨K,hK⟩:∃K:Nat,pk R 9=K:=⟨(pk R 9).toNat,by omega⟩
  have hK8:K≤8:=by omega
  rw [hK]
  refine qv [(11003,1)] (fun m s=>∃(i:Nat) (l:List ByteArray) (Q:Dr),i≤K∧m=K - i∧l.length=i∧zt l=true∧Q.ok (r.p+4+10 * i)∧s=⟨105,[(0,vD),(2,.ptr 2 0 [] 11 0 0),(3,.ptr 3 0 [] 11 0 0),(6,vI ((K - i:Nat):Int))],[(1000000,0,one ⟨2,[Q.cs],0,false⟩),(2,0,one ⟨11,[zqm],0,false⟩),(3,0,one ⟨11,[[vI 8,vI 0,vI FF,vI 0,vU 0,vU 0,vU 0,vU 0,vI 0,.nilS,.blk 10003 0 [] 1 0 l.length]],0,false⟩),(10003,0,one ⟨1,l.map zw,2,false⟩)],1⟩) K ?_ ?_
  ·simp -implicitDefEqProofs only [go_sem]
   exact ⟨0,[],R.nx,by omega,rfl,rfl,rfl,zk.nx,rfl⟩
  ·rintro m s ⟨i,l,Q,hi,rfl,hl,hd,hQ,rfl⟩
   rcases Nat.lt_or_ge i K with hlt | hge
   ·have hlt':((K - i:Nat):Int)>0:=by omega
    have w4:IntKind.i64.wrap (((K - i:Nat):Int) - 1)=((K - (i+1):Nat):Int):=by rw [wrS (by omega)];omega
    have ha:∀x,_:=fun x=>zK (E:=zw) (l:=l) (xs:=[x]) (b:=16) (n:=100) (by simp;omega) (by omega) (by omega)
    have ht:=zlC Q 4 hQ (by omega) (by omega)
    simp -implicitDefEqProofs only [go_sem,hlt']
    refine WantM.intro (zo5 Q 4 (hQ.le (by omega)) (by omega)) ?_
    simp -implicitDefEqProofs only [go_sem,ha,w4]
    refine ⟨_,by omega,i+1,l++[(tx Q 4).1],(tx Q 4).2,hlt,rfl,by simp [hl],?_,ht.1.le (by omega),?_⟩
    ·have h4:=ht.2
     simp only [zt,List.all_append,List.all_cons,List.all_nil,Bool.and_true,Bool.and_eq_true,decide_eq_true_eq] at hd ⊢
     exact ⟨hd,by omega⟩
    ·simp [zw,Dr.cs]
   ·have hiK:i=K:=by omega
    subst hiK
    have hlt':¬(((i - i:Nat):Int)>0):=by omega
    have hq2:=zM (hQ.le (b:=1000000000) (by omega)) (n:=8) (by omega)
    simp -implicitDefEqProofs only [go_sem,hlt']
    refine WantM.intro (yc 8 (hQ.le (by omega))) ?_
    simp -implicitDefEqProofs only [go_sem]
    refine zm (fun h=>?_) (fun h=>?_)
    ·simp -implicitDefEqProofs only [go_sem,h]
     refine zi (fun h=>?_) (fun h=>?_)
     ·have hpos:0<l.length:=by have:=of_decide_eq_true h;omega
      have hpos':(0:Int)<(l.length:Int):=by omega
      have hg:l[0]?=some l[0]:=List.getElem?_eq_getElem hpos
      simp -implicitDefEqProofs only [go_sem,h]
      refine Want.intro zqT ?_
      simp -implicitDefEqProofs only [go_sem,hpos',hg]
      refine RetAt.intro (MMsg.avM ⟨8,0,FF,0,dig0,0,[],l.set 0 (bA (rep [107] 40))⟩) (MMsg.outD ⟨8,0,FF,0,dig0,0,[],l.set 0 (bA (rep [107] 40))⟩ Q.nx) ⟨⟨8,0,FF,0,dig0,0,[],l.set 0 (bA (rep [107] 40))⟩,Q.nx,⟨rfl,rfl⟩,zlX z.1 (by simp;omega) (ze7 hd 0 (by rw [zU,zf3];decide)),yy,by simp,hQ.nx.le (by omega)⟩ ?_
      simp -implicitDefEqProofs only [go_sem,List.map_set]
      first | done | rfl | exact ⟨rfl,rfl⟩ | trace_state
     ·simp -implicitDefEqProofs only [go_sem,h]
      refine RetAt.intro (MMsg.avM ⟨8,0,FF,0,dig0,0,[],l⟩) (MMsg.outD ⟨8,0,FF,0,dig0,0,[],l⟩ Q.nx) ⟨⟨8,0,FF,0,dig0,0,[],l⟩,Q.nx,⟨rfl,rfl⟩,zlX z.1 (by omega) hd,yy,by simp,hQ.nx.le (by omega)⟩ ?_
      simp -implicitDefEqProofs only [go_sem]
      first | done | rfl | exact ⟨rfl,rfl⟩
    ·simp -implicitDefEqProofs only [go_sem,h,za]
     refine RetAt.intro (MMsg.avM ⟨8,0,FF,0,dig0,0,[],l⟩) (MMsg.outD ⟨8,0,FF,0,dig0,0,[],l⟩ Q.nx) ⟨⟨8,0,FF,0,dig0,0,[],l⟩,Q.nx,⟨rfl,rfl⟩,zlX z.1 (by omega) hd,yy,by simp,hQ.nx.le (by omega)⟩ ?_
     simp -implicitDefEqProofs only [go_sem]
     first | done | rfl | exact ⟨rfl,rfl⟩
end Go.Proofs.YtpjpkmhaffmbmaaGreat.E
end
section
namespace Go.Proofs.YtpjpkmhaffmbmaaGreat.E
open Go Go.RowKit
set_option maxHeartbeats 4000000
set_option maxRecDepth 10000
set_option linter.unusedSimpArgs false
set_option linter.unusedVariables false
set_option linter.unusedSectionVars false
def MMsg.avK (m:MMsg) (a b:Nat):AV:=.agg [vI m.kind,vI m.session,vI m.from_,vI m.size,vU m.root.a,vU m.root.b,vU m.root.c,vU m.root.d,vI m.count,.blk a 0 [] 4 0 m.proof.length,.blk b 0 [] 1 0 m.leaves.length]
def MMsg.pr (m:MMsg):Row:=⟨4,m.proof.map MDig.cs,2,false⟩
def MMsg.lr (m:MMsg):Row:=⟨1,m.leaves.map zw,2,false⟩
def Dr.rr (r:Dr):Nat × (Nat × jQ):=(1000000,0,one ⟨2,[r.cs],0,false⟩)
attribute [go_sem] MMsg.avK MMsg.pr MMsg.lr Dr.rr
structure DMsg (m:MMsg):Prop where
 r:m.root.ok
 d:∀d∈m.proof,d.ok
 p:m.proof.length≤100
 l:m.leaves.length≤100
 s:∀s∈m.leaves,s.size≤100
inductive SpForm (m:MMsg) (r:Dr):AV→Sig→Prop
 | a:SpForm m r (m.avK 1000001 1000002) [r.rr,(1000001,0,one m.pr),(1000002,0,one m.lr)]
 | b:SpForm m r (m.avK 0 1000002) [r.rr,(1000002,0,one m.lr),(0,0,one m.pr)]
 | c:SpForm m r (m.avK 1000001 0) [r.rr,(1000001,0,one m.pr),(0,0,one m.lr)]
def PostSp (r:Dr) (res:AV) (σ:Sig):Prop:=∃(m:MMsg) (r':Dr),SpForm m r' res σ∧DMsg m∧r'.ok (r.p+100)
theorem DMsg.with {m m':MMsg} (h:DMsg m) (hr:m'.root.ok) (hp:m'.proof=m.proof) (hl:m'.leaves=m.leaves):DMsg m':=⟨hr,by rw [hp];exact h.d,by rw [hp];exact h.p,by rw [hl];exact h.l,by rw [hl];exact h.s⟩
theorem get4 (a b c d:Int) {v:Nat} (h:v<4):∃x,([[vI a],[vI b],[vI c],[vI d]]:List (List AV))[v]?=some [vI x]:=by
 have:v=0∨v=1∨v=2∨v=3:=by omega
 rcases this with rfl | rfl | rfl | rfl
 ·exact ⟨a,rfl⟩
 ·exact ⟨b,rfl⟩
 ·exact ⟨c,rfl⟩
 ·exact ⟨d,rfl⟩
theorem get3 (a b c:Int) {v:Nat} (h:v<3):∃x,([[vI a],[vI b],[vI c]]:List (List AV))[v]?=some [vI x]:=by
 have:v=0∨v=1∨v=2:=by omega
 rcases this with rfl | rfl | rfl
 ·exact ⟨a,rfl⟩
 ·exact ⟨b,rfl⟩
 ·exact ⟨c,rfl⟩
end Go.Proofs.YtpjpkmhaffmbmaaGreat.E
end
