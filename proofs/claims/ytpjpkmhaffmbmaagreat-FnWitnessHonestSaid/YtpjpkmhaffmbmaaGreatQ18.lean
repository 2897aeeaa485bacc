/- Contracts: bent proofs; drawn disks. -/
import Derived.Test.YtpjpkmhaffmbmaaGreatQ14
import Derived.Test.YtpjpkmhaffmbmaaGreatQ17
namespace Go.Proofs.YtpjpkmhaffmbmaaGreat.E
open Go Go.RowKit
set_option maxHeartbeats 4000000
set_option maxRecDepth 10000
set_option linter.unusedSimpArgs false
set_option linter.unusedVariables false
set_option linter.unusedSectionVars false
def dcX2:Dec:=⟨[(39,.cm [true,false]),(93,.cm [true])],[9,10,11],[22,30,37,38,39,40,49,56,76,80,87,141,143,159,237,250,259],false⟩
def zlj (L:Nat) (r:Dr) (res:AV) (σ:Sig):Prop:=∃(Q:List MDig) (n:Nat) (r':Dr),(res=.blk 0 0 [] 4 0 n∧σ=r'.r3++[(0,0,one ⟨4,Q.map MDig.cs,2,false⟩)])∧(n≤Q.length∧Q.length≤L+1)∧(∀d∈Q,d.ok)∧r'.ok (r.p+100)
theorem c98_c (r:Dr) (P:List MDig) (h:r.ok 500000000) (hP:P.length≤600) (hd:∀d∈P,d.ok):∃res σ,zlj P.length r res σ∧zW Tryz.prog 98 r.r3 [vL,.ro 4 (P.map MDig.cs)] res σ:=by
 refine zl dcX2 true Tryz.f98 ?_
 conv=>enter [1];reduce
 refine jvX Tryz.f98 71 [.tmp 4] (zlj P.length r) (by kernel_rfl) (by decide +kernel) (by kernel_rfl) rfl ?_
 have hp:=h.2
 have hb:=h.1
 have ok:∀i,i≤1000→(r.adv i).ok 1000000000:=fun i hi=>(h.adv i).le (by omega)
 have hdi:=zmA P [] (by omega) (by simp)
 rw [List.append_nil] at hdi
 have hdg:=fun i=>jV (r.adv i) (n:=r.p+i) ⟨hb,Nat.le_refl _⟩
 have hdo:=fun i (hi:i≤1000)=>qj (r.adv i) ((h.adv i).le (by omega))
 simp -implicitDefEqProofs only [go_sem]
 refine Want.intro hdi ?_
 simp -implicitDefEqProofs only [go_sem]
 refine WantM.intro (yc 12 (ok 0 (by omega))) ?_
 generalize pk r 12=k
 simp -implicitDefEqProofs only [go_sem]
 refine zi (fun g=>?_) (fun g=>?_)
 ·simp -implicitDefEqProofs only [go_sem,g]
  refine WantM.intro (zcx (r.adv 1) ((h.adv 1).le (by omega))) ?_
  have q1:=hdg 1
  have q2:=hdo 1 (by omega)
  generalize dgR (r.adv 1)=q at *
  obtain ⟨x,R⟩:=q
  simp only at q1 q2
  simp -implicitDefEqProofs only [go_sem,znj P (by omega)]
  refine RetAt.intro (.blk 0 0 [] 4 0 (P.length+1)) (R.r3++[(0,0,one ⟨4,(P++[x]).map MDig.cs,2,false⟩)]) ⟨P++[x],P.length+1,R,⟨rfl,rfl⟩,by simp,?_,q1.1.le (by omega)⟩ ?_
  ·intro d hd'
   rcases List.mem_append.1 hd' with hd' | hd'
   ·exact hd d hd'
   ·rw [List.mem_singleton.1 hd'];exact q2
  simp -implicitDefEqProofs only [go_sem]
  exact ⟨by rw [List.map_append];rfl,by rw [List.length_append,List.length_map];rfl⟩
 ·have hfin:∀(Q:List MDig) (R:Dr),Q.length=P.length→(∀d∈Q,d.ok)→R.ok (r.p+100)→zlj P.length r (.blk 0 0 [] 4 0 P.length) (R.r3++[(0,0,one ⟨4,Q.map MDig.cs,2,false⟩)]):=fun Q R e hq hR=>⟨Q,P.length,R,⟨rfl,rfl⟩,⟨by omega,by omega⟩,hq,hR⟩
  by_cases h0:(P.length:Int)>0
  ·have wd:IntKind.i64.wrap ((P.length:Int) - 1)=((P.length - 1:Nat):Int):=by rw [wrS (by omega)];omega
   have l1:((P.length - 1:Nat):Int)≤(P.length:Int):=by omega
   have l2:P.length - 1≤P.length:=by omega
   cases g1:(k==1) with
   | true=>
    simp -implicitDefEqProofs only [go_sem,g,g1,h0,wd,l1,l2,zc,zb]
    refine RetAt.intro (.blk 0 0 [] 4 0 (P.length - 1)) ((r.adv 1).r3++[(0,0,one ⟨4,P.map MDig.cs,2,false⟩)]) ⟨P,P.length - 1,r.adv 1,⟨rfl,rfl⟩,⟨by omega,by omega⟩,hd,hb,by show r.p+1≤_;omega⟩ ?_
    simp -implicitDefEqProofs only [go_sem]
    first | done | rfl | exact ⟨rfl,rfl⟩ | trace_state
   | false=>
    simp -implicitDefEqProofs only [go_sem,g,g1,h0,ze,za]
    refine zR [5] [] (fun s=>∃(Q:List MDig) (R:Dr),Q.length=P.length∧(∀d∈Q,d.ok)∧R.ok (r.p+100)∧s=⟨71,[(5,.blk 5 0 [] 4 0 P.length)],[(1000000,0,one ⟨1,[[.ptr 1000001 0 [] 1 0 0]],0,false⟩),(1000001,0,one ⟨1,[[.ptr 1000002 0 [] 2 0 0]],0,false⟩),(1000002,0,one ⟨2,[R.cs],0,false⟩),(5,0,one ⟨4,Q.map MDig.cs,2,false⟩)],1⟩) ?_ ?_
    ·by_cases g2:k<4
     ·have q:=zM (n:=(P.length:Int)) (ok 1 (by omega)) (by omega)
      obtain ⟨u,hu⟩:∃u:Nat,pk (r.adv 1) P.length=u:=⟨(pk (r.adv 1) P.length).toNat,by omega⟩
      have hu1:(u:Int)<(P.length:Int):=by omega
      have hu2:u<P.length:=by omega
      have hgu:P[u]?=some P[u]:=List.getElem?_eq_getElem hu2
      simp -implicitDefEqProofs only [go_sem,g2,h0,zc,zb]
      refine WantM.intro (yc _ (ok 1 (by omega))) ?_
      rw [hu]
      simp -implicitDefEqProofs only [go_sem]
      refine WantM.intro (zcx (r.adv 2) ((h.adv 2).le (by omega))) ?_
      have q1:=hdg 2
      have q2:=hdo 2 (by omega)
      generalize dgR (r.adv 2)=q at *
      obtain ⟨x,R⟩:=q
      simp only at q1 q2
      simp -implicitDefEqProofs only [go_sem,hu1,hu2,hgu]
      refine ⟨P.set u x,R,by rw [List.length_set],?_,q1.1.le (by omega),?_⟩
      ·intro d hd'
       rcases List.mem_or_eq_of_mem_set hd' with hd' | rfl
       ·exact hd d hd'
       ·exact q2
      ·rw [List.map_set]
       rfl
     ·simp -implicitDefEqProofs only [go_sem,g2,ze,za]
      exact ⟨P,r.adv 1,rfl,hd,⟨hb,by show r.p+1≤_;omega⟩,rfl⟩
    ·rintro s ⟨Q,R,hQ,hq,hR,rfl⟩
     simp -implicitDefEqProofs only [go_sem]
     refine RetAt.intro _ _ (hfin Q R hQ hq hR) ?_
     simp -implicitDefEqProofs only [go_sem]
     first | done | rfl | exact ⟨rfl,rfl⟩ | trace_state
  ·have hP0:P=[]:=List.length_eq_zero_iff.1 (by omega)
   subst hP0
   have h1:¬((([]:List MDig).length:Int)>0):=by decide
   have e0:¬(((0:Nat):Int)>0):=by decide
   have g1:=k==1
   cases g1:(k==1)<;>by_cases g2:k<4
   all_goals
    simp -implicitDefEqProofs only [go_sem,g,g1,e0,zc,ze,za,List.length_nil,List.map_nil]
    try refine zR [5] [] (fun s=>s=⟨71,[(5,.blk 5 0 [] 4 0 0)],[(1000000,0,one ⟨1,[[.ptr 1000001 0 [] 1 0 0]],0,false⟩),(1000001,0,one ⟨1,[[.ptr 1000002 0 [] 2 0 0]],0,false⟩),(1000002,0,one ⟨2,[(r.adv 1).cs],0,false⟩),(5,0,one ⟨4,[],2,false⟩)],1⟩) ?_ ?_
    ·simp -implicitDefEqProofs only [go_sem,g2,e0,zc,ze,za]
     first | done | rfl | trace_state
    ·rintro s rfl
     simp -implicitDefEqProofs only [go_sem]
     refine RetAt.intro _ _ (hfin [] (r.adv 1) rfl (by simp) ⟨hb,by show r.p+1≤_;omega⟩) ?_
     simp -implicitDefEqProofs only [go_sem]
     first | done | rfl | exact ⟨rfl,rfl⟩ | trace_state
theorem zdB (d:MDisk) (size:Int) (root:MDig):(yT d size root).length≤8:=by
 rw [xq]
 split
 ·exact Nat.le_refl 8
 ·exact Nat.zero_le _
def dk (l:List ByteArray) (d:MDisk) (k:Nat):MDisk:=zF d (yT d (tPt (l.take k)).size (tPt (l.take k)).root)
def zaY (l:List ByteArray) (m:Nat) (tw:Bool):MDisk:=if (tw&&decide (m>1))=true then dk l zdisk (m - 1) else zdisk
def ze4 (l:List ByteArray) (m:Nat) (tw:Bool):MDisk:=if m>0 then dk l (zaY l m tw) m else zaY l m tw
theorem zrC {l:List ByteArray} {d:MDisk} {k:Nat} (h:d.ok):(dk l d k).ok:=zko h (zbD _).1
theorem zca (l:List ByteArray) (m:Nat) (tw:Bool):(zaY l m tw).ok:=by
 unfold zaY
 split
 ·exact zrC wC
 ·exact wC
theorem zj9 (l:List ByteArray) (m:Nat) (tw:Bool):(ze4 l m tw).ok:=by
 unfold ze4
 split
 ·exact zrC (zca _ _ _)
 ·exact zca _ _ _
theorem c92_c (l:List ByteArray) (m:Nat) (tw:Bool) (hl:l.length≤1000) (hm:m≤l.length):CallR Tryz.prog 92 [.ro 1 (l.map zw),vI m,vB tw] (.agg (ze4 l m tw).cs) []:=by
 refine zl dcX2 true Tryz.f92 ?_
 conv=>enter [1];reduce
 refine jvR Tryz.f92 44 [.cell 6 29] (by kernel_rfl) (by decide +kernel) rfl ?_
 have hTP:=fun k=>zgY (l.take k) (by rw [List.length_take];unfold maxLen;omega)
 have hTk:=fun k=>zbD (l.take k)
 have hd8:=zca l m tw
 simp -implicitDefEqProofs only [go_sem]
 refine zR [0,1,6,7] [] (fun s=>s=⟨44,[(0,.ro 1 (l.map zw)),(1,vI m),(6,.ptr 6 0 [] 14 0 0),(7,.ptr 7 0 [] 14 0 0)],[(6,0,one ⟨14,[zdisk.cs],0,false⟩),(7,0,one ⟨14,[(zaY l m tw).cs],0,false⟩)],1⟩) ?_ ?_
 ·have hd1:zaY l m tw=if (tw&&decide ((m:Int)>1))=true then dk l zdisk (m - 1) else zdisk:=by
   unfold zaY
   have:decide (m>1)=decide ((m:Int)>1):=by simp only [decide_eq_decide];omega
   rw [this]
  rw [hd1]
  cases tw with
  | false=>
   simp -implicitDefEqProofs only [go_sem,ze,za,Bool.false_and,Bool.false_eq_true,if_false]
   first | done | rfl | trace_state
  | true=>
   by_cases h1:(m:Int)>1
   ·have wm:IntKind.i64.wrap ((m:Int) - 1)=((m - 1:Nat):Int):=by rw [wrS (by omega)];omega
    have l1:m - 1≤l.length:=by omega
    have l1i:((m - 1:Nat):Int)≤(l.length:Int):=by omega
    have hT:=hTP (m - 1)
    have hk:=hTk (m - 1)
    simp -implicitDefEqProofs only [go_sem,h1,wm,l1,l1i,zc,zb,Bool.true_and,decide_true,if_true,Nat.sub_zero]
    refine Want.intro hT ?_
    unfold dk
    generalize tPt (l.take (m - 1))=T at *
    have hrw:=zkX zdisk T.size T.root wC hk.1
    have hwl:=zdB zdisk T.size T.root
    have hdw:=zmG zdisk (yT zdisk T.size T.root) (by unfold maxLen;omega)
    generalize yT zdisk T.size T.root=R at *
    simp -implicitDefEqProofs only [go_sem]
    refine Want.intro hrw ?_
    simp -implicitDefEqProofs only [go_sem]
    refine Want.intro hdw ?_
    simp -implicitDefEqProofs only [go_sem]
    first | done | rfl | trace_state
   ·simp -implicitDefEqProofs only [go_sem,h1,zc,za,Bool.true_and,decide_false,Bool.false_eq_true,if_false]
    first | done | rfl | trace_state
 ·rintro s rfl
  generalize hE:zaY l m tw=E at *
  unfold ze4
  rw [hE]
  refine zR [6,7] [] (fun s=>s=⟨44,[(6,.ptr 6 0 [] 14 0 0),(7,.ptr 7 0 [] 14 0 0)],[(6,0,one ⟨14,[zdisk.cs],0,false⟩),(7,0,one ⟨14,[(if m>0 then dk l E m else E).cs],0,false⟩)],1⟩) ?_ ?_
  ·by_cases h1:(m:Int)>0
   ·have h1':m>0:=by omega
    have l1i:((m:Nat):Int)≤(l.length:Int):=by omega
    have hT:=hTP m
    have hk:=hTk m
    simp -implicitDefEqProofs only [go_sem,h1,hm,l1i,zb,Nat.sub_zero]
    refine Want.intro hT ?_
    rw [if_pos h1']
    unfold dk
    generalize tPt (l.take m)=T at *
    have hrw:=zkX E T.size T.root hd8 hk.1
    have hwl:=zdB E T.size T.root
    have hdw:=zmG E (yT E T.size T.root) (by unfold maxLen;omega)
    generalize yT E T.size T.root=R at *
    simp -implicitDefEqProofs only [go_sem]
    refine Want.intro hrw ?_
    simp -implicitDefEqProofs only [go_sem]
    refine Want.intro hdw ?_
    simp -implicitDefEqProofs only [go_sem]
    first | done | rfl | trace_state
   ·have h1':¬m>0:=by omega
    rw [if_neg h1']
    simp -implicitDefEqProofs only [go_sem,h1,za]
    first | done | rfl | trace_state
  ·rintro s rfl
   simp -implicitDefEqProofs only [go_sem]
   first | done | rfl | exact ⟨rfl,rfl⟩ | trace_state
end Go.Proofs.YtpjpkmhaffmbmaaGreat.E
