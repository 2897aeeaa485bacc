/- Contracts: the raw writes that keep a point; Plain law: what a disk says behind the raw writes that keep a point -/
import Derived.Test.YtpjpkmhaffmbmaaGreatQ15
section
namespace Go.Proofs.YtpjpkmhaffmbmaaGreat.E
open Go Go.RowKit
set_option maxHeartbeats 4000000
set_option maxRecDepth 10000
set_option linter.unusedSimpArgs false
set_option linter.unusedVariables false
set_option linter.unusedSectionVars false
def dcW3:Dec:=⟨[(70,.cm [true])],[9,10,11],[22,30,37,38,39,40,49,56,76,80,87,141,143,159,237,250,259],false⟩
def zdP (d:MDisk):Int:=if (zL d).2=1 then 2 else 1
def zat (d:MDisk) (size:Int) (root:MDig):MSlot:=⟨0,((zL d).1.seq+1).toNat,size.toNat,root⟩
def qe (to:Int) (s:MSlot) (S:Nat):List MRaw:=[⟨to,0,0⟩,⟨to,1,s.seq⟩,⟨to,2,s.size⟩,⟨to,3,s.root.a⟩,⟨to,4,s.root.b⟩,⟨to,5,s.root.c⟩,⟨to,6,s.root.d⟩,⟨to,0,S⟩]
theorem xq (d:MDisk) (size:Int) (root:MDig):yT d size root=if mIn size 1 256=true∧(zL d).1.seq≠1000000000 then qe (zdP d) (zat d size root) (zbc (zat d size root)) else []:=rfl
theorem zjC {d:MDisk} {size:Int} {root:MDig} (hr:root.ok) (hs:mIn size 1 256=true):(zat d size root).ok:=by
 have:=wJ d
 have:=mIn_iff.1 hs
 exact ⟨by show 0<_;omega,by show ((zL d).1.seq+1).toNat<_;omega,by show size.toNat<_;omega,hr⟩
theorem MRaw.wide (l:List MRaw):qc 3 (l.map MRaw.cs)=true:=by
 induction l with
 | nil=>rfl
 | cons a l ih=>simp only [List.map_cons,qc,ih,MRaw.cs];rfl
theorem MRaw.flat (l:List MRaw):flL (l.map MRaw.cs)=2:=by
 induction l with
 | nil=>rfl
 | cons a l ih=>simp only [List.map_cons,flL,ih,MRaw.cs];rfl
attribute [go_sem] MRaw.wide MRaw.flat
theorem zkX (d:MDisk) (size:Int) (root:MDig) (h:d.ok) (hr:root.ok):CallR Tryz.prog 113 [.agg d.cs,vI size,.agg root.cs] (.blk 0 0 [] 3 0 (yT d size root).length) [([],⟨3,(yT d size root).map MRaw.cs,2,false⟩)]:=by
 refine zl dcW3 false Tryz.f113 ?_
 conv=>enter [1];reduce
 refine jvR Tryz.f113 66 [.tmp 6] (by kernel_rfl) (by decide +kernel) rfl ?_
 have hrd:=zrY d h
 have hin:=zaK size 1 256
 have hok:=fun hs=>zo6 (zat d size root) (zjC (d:=d) hr hs)
 have hbd:=wJ d
 rw [xq]
 generalize hS:zbc (zat d size root)=S at *
 unfold zat zdP at *
 generalize zL d=R at *
 obtain ⟨r,a⟩:=R
 simp only at hbd hok ⊢
 simp -implicitDefEqProofs only [go_sem]
 refine Want.intro hrd ?_
 simp -implicitDefEqProofs only [go_sem]
 refine Want.intro hin ?_
 cases hi:mIn size 1 256 with
 | false=>
  simp -implicitDefEqProofs only [go_sem,Bool.not_false,ze,zf,zg,zc,zb,za,Bool.false_eq_true,false_and,if_false]
 | true=>
  have ki:=mIn_iff.1 hi
  have hok:=hok hi
  by_cases q:r.seq=1000000000
  ·have q':r.seq≥1000000000:=by omega
   simp -implicitDefEqProofs only [go_sem,q,q',Bool.not_true,ze,zf,zg,zc,zb,za,ne_eq,not_true_eq_false,and_false,if_false]
  ·have q':¬r.seq≥1000000000:=by omega
   have w1:IntKind.i64.wrap (r.seq+1)=r.seq+1:=wrS (by omega)
   have w2:IntKind.u64.wrap (r.seq+1)=((r.seq+1).toNat:Int):=by rw [wU];omega
   have w3:IntKind.u64.wrap size=(size.toNat:Int):=by rw [wU];omega
   by_cases e:a=1
   ·subst e
    simp -implicitDefEqProofs only [go_sem,q,q',w1,w2,w3,Bool.not_true,ze,zf,zg,zc,zb,za,ne_eq,not_false_eq_true,and_true,if_true,beq_self_eq_true]
    refine Want.intro hok ?_
    simp -implicitDefEqProofs only [go_sem,qe]
    rfl
   ·have e':(a==1)=false:=beq_eq_false_iff_ne.2 e
    simp -implicitDefEqProofs only [go_sem,q,q',e,e',w1,w2,w3,Bool.not_true,ze,zf,zg,zc,zb,za,ne_eq,not_false_eq_true,and_true,if_true,beq_self_eq_true]
    refine Want.intro hok ?_
    simp -implicitDefEqProofs only [go_sem,qe]
    rfl
theorem zpa (l:List MRaw) (hl:l.length * 24≤140737488355328):CallR Tryz.prog 71 [.ro 3 (l.map MRaw.cs)] (.blk 0 0 [] 3 0 l.length) [([],⟨3,l.map MRaw.cs,2,false⟩)]:=by
 refine zl dcW3 false Tryz.f71 ?_
 conv=>enter [1];reduce
 refine jvR Tryz.f71 14 [.tmp 2] (by kernel_rfl) (by decide +kernel) rfl ?_
 simp -implicitDefEqProofs only [go_sem]
 refine zi (fun h=>?_) (fun h=>?_)
 ·have:l=[]:=by simpa using h
  subst this
  simp -implicitDefEqProofs only [go_sem]
 ·have hm:=zbS hl (by omega)
  have hmk:((24:Nat):Int) * (l.length:Int)≤281474976710656∧(l.length:Int)≤9223372036854775807:=by unfold maxLen at hm;omega
  simp -implicitDefEqProofs only [go_sem,h,hmk,List.length_replicate]
theorem zsr (d:MDisk) (size:Int) (root:MDig) (h:d.ok):CallR Tryz.prog 110 [.agg d.cs,vI size,.agg root.cs] (.blk 0 0 [] 3 0 (yT d size root).length) [([],⟨3,(yT d size root).map MRaw.cs,2,false⟩)]:=by
 refine zl dcW3 false Tryz.f110 ?_
 conv=>enter [1];reduce
 refine jvR Tryz.f110 68 [.tmp 6] (by kernel_rfl) (by decide +kernel) rfl ?_
 have hrd:=zrX d h
 have hin:=qy size 1 256
 have hok:=znw (zat d size root)
 have hbd:=wJ d
 rw [xq]
 generalize hS:zbc (zat d size root)=S at *
 unfold zat zdP at *
 generalize zL d=R at *
 obtain ⟨r,a⟩:=R
 simp only at hbd hok ⊢
 simp -implicitDefEqProofs only [go_sem]
 refine Want.intro hrd ?_
 simp -implicitDefEqProofs only [go_sem]
 refine Want.intro hin ?_
 cases hi:mIn size 1 256 with
 | false=>
  simp -implicitDefEqProofs only [go_sem,Bool.not_false,ze,zf,zg,zc,zb,za,Bool.false_eq_true,false_and,if_false]
 | true=>
  have ki:=mIn_iff.1 hi
  by_cases q:r.seq=1000000000
  ·have q':(r.seq==1000000000)=true:=by rw [q];rfl
   simp -implicitDefEqProofs only [go_sem,q,q',Bool.not_true,ze,zf,zg,zc,zb,za,ne_eq,not_true_eq_false,and_false,if_false]
  ·have q':(r.seq==1000000000)=false:=beq_eq_false_iff_ne.2 q
   have w1:IntKind.i64.wrap (r.seq+1)=r.seq+1:=wrS (by omega)
   have w2:IntKind.u64.wrap (r.seq+1)=((r.seq+1).toNat:Int):=by rw [wU];omega
   have w3:IntKind.u64.wrap size=(size.toNat:Int):=by rw [wU];omega
   by_cases e:a=1
   ·subst e
    simp -implicitDefEqProofs only [go_sem,q,q',w1,w2,w3,Bool.not_true,ze,zf,zg,zc,zb,za,ne_eq,not_false_eq_true,and_true,if_true,beq_self_eq_true]
    refine Want.intro hok ?_
    simp -implicitDefEqProofs only [go_sem]
    refine WantM.intro (ziT ⟨S,(r.seq+1).toNat,size.toNat,root⟩) ?_
    simp -implicitDefEqProofs only [go_sem]
    refine zX (fun m z=>∃i:Nat,(1≤i∧i≤7)∧m=7 - i∧z=⟨68,[(9,vI 2),(10,.ptr 10 0 [] 7 0 0),(11,.blk 11 0 [] 3 0 ((qe 2 ⟨0,(r.seq+1).toNat,size.toNat,root⟩ S).take i).length),(12,.blk 12 0 [] 1 0 7),(13,vI i)],[(10,0,one ⟨7,[MSlot.cs ⟨S,(r.seq+1).toNat,size.toNat,root⟩],0,false⟩),(11,0,one ⟨3,((qe 2 ⟨0,(r.seq+1).toNat,size.toNat,root⟩ S).take i).map MRaw.cs,2,false⟩),(12,0,one ⟨1,zlU 7 10 0,0,false⟩)],1⟩) 6 ?_ ?_
    ·simp -implicitDefEqProofs only [go_sem]
     exact ⟨1,by omega,rfl,rfl⟩
    ·rintro m z ⟨i,hi,rfl,rfl⟩
     have hi':i=1∨i=2∨i=3∨i=4∨i=5∨i=6∨i=7:=by omega
     rcases hi' with rfl | rfl | rfl | rfl | rfl | rfl | rfl
     ·have h1:((1:Nat):Int)≤6:=by decide
      have h2:((1:Nat):Int)<((7:Nat):Int):=by decide
      have w4:IntKind.i64.wrap (((1:Nat):Int)+1)=((2:Nat):Int):=by decide
      have ha:∀x,_:=fun x=>zK (E:=MRaw.cs) (l:=(qe 2 ⟨0,(r.seq+1).toNat,size.toNat,root⟩ S).take 1) (xs:=[x]) (b:=24) (n:=100) (by simp [qe]) (by omega) (by omega)
      simp -implicitDefEqProofs only [go_sem,h1,h2,w4,ha]
      exact ⟨6 - 1,by omega,2,by omega,rfl,rfl⟩
     ·have h1:((2:Nat):Int)≤6:=by decide
      have h2:((2:Nat):Int)<((7:Nat):Int):=by decide
      have w4:IntKind.i64.wrap (((2:Nat):Int)+1)=((3:Nat):Int):=by decide
      have ha:∀x,_:=fun x=>zK (E:=MRaw.cs) (l:=(qe 2 ⟨0,(r.seq+1).toNat,size.toNat,root⟩ S).take 2) (xs:=[x]) (b:=24) (n:=100) (by simp [qe]) (by omega) (by omega)
      simp -implicitDefEqProofs only [go_sem,h1,h2,w4,ha]
      exact ⟨6 - 2,by omega,3,by omega,rfl,rfl⟩
     ·have h1:((3:Nat):Int)≤6:=by decide
      have h2:((3:Nat):Int)<((7:Nat):Int):=by decide
      have w4:IntKind.i64.wrap (((3:Nat):Int)+1)=((4:Nat):Int):=by decide
      have ha:∀x,_:=fun x=>zK (E:=MRaw.cs) (l:=(qe 2 ⟨0,(r.seq+1).toNat,size.toNat,root⟩ S).take 3) (xs:=[x]) (b:=24) (n:=100) (by simp [qe]) (by omega) (by omega)
      simp -implicitDefEqProofs only [go_sem,h1,h2,w4,ha]
      exact ⟨6 - 3,by omega,4,by omega,rfl,rfl⟩
     ·have h1:((4:Nat):Int)≤6:=by decide
      have h2:((4:Nat):Int)<((7:Nat):Int):=by decide
      have w4:IntKind.i64.wrap (((4:Nat):Int)+1)=((5:Nat):Int):=by decide
      have ha:∀x,_:=fun x=>zK (E:=MRaw.cs) (l:=(qe 2 ⟨0,(r.seq+1).toNat,size.toNat,root⟩ S).take 4) (xs:=[x]) (b:=24) (n:=100) (by simp [qe]) (by omega) (by omega)
      simp -implicitDefEqProofs only [go_sem,h1,h2,w4,ha]
      exact ⟨6 - 4,by omega,5,by omega,rfl,rfl⟩
     ·have h1:((5:Nat):Int)≤6:=by decide
      have h2:((5:Nat):Int)<((7:Nat):Int):=by decide
      have w4:IntKind.i64.wrap (((5:Nat):Int)+1)=((6:Nat):Int):=by decide
      have ha:∀x,_:=fun x=>zK (E:=MRaw.cs) (l:=(qe 2 ⟨0,(r.seq+1).toNat,size.toNat,root⟩ S).take 5) (xs:=[x]) (b:=24) (n:=100) (by simp [qe]) (by omega) (by omega)
      simp -implicitDefEqProofs only [go_sem,h1,h2,w4,ha]
      exact ⟨6 - 5,by omega,6,by omega,rfl,rfl⟩
     ·have h1:((6:Nat):Int)≤6:=by decide
      have h2:((6:Nat):Int)<((7:Nat):Int):=by decide
      have w4:IntKind.i64.wrap (((6:Nat):Int)+1)=((7:Nat):Int):=by decide
      have ha:∀x,_:=fun x=>zK (E:=MRaw.cs) (l:=(qe 2 ⟨0,(r.seq+1).toNat,size.toNat,root⟩ S).take 6) (xs:=[x]) (b:=24) (n:=100) (by simp [qe]) (by omega) (by omega)
      simp -implicitDefEqProofs only [go_sem,h1,h2,w4,ha]
      exact ⟨6 - 6,by omega,7,by omega,rfl,rfl⟩
     ·have h1:¬(((7:Nat):Int)≤6):=by decide
      have ha:∀x,_:=fun x=>zK (E:=MRaw.cs) (l:=(qe 2 ⟨0,(r.seq+1).toNat,size.toNat,root⟩ S).take 7) (xs:=[x]) (b:=24) (n:=100) (by simp [qe]) (by omega) (by omega)
      simp -implicitDefEqProofs only [go_sem,h1,ha]
      refine Want.intro (zpa (qe 2 ⟨0,(r.seq+1).toNat,size.toNat,root⟩ S) (by show 8 * 24≤_;decide)) ?_
      simp -implicitDefEqProofs only [go_sem]
   ·have e':(a==1)=false:=beq_eq_false_iff_ne.2 e
    simp -implicitDefEqProofs only [go_sem,q,q',e,e',w1,w2,w3,Bool.not_true,ze,zf,zg,zc,zb,za,ne_eq,not_false_eq_true,and_true,if_true,beq_self_eq_true]
    refine Want.intro hok ?_
    simp -implicitDefEqProofs only [go_sem]
    refine WantM.intro (ziT ⟨S,(r.seq+1).toNat,size.toNat,root⟩) ?_
    simp -implicitDefEqProofs only [go_sem]
    refine zX (fun m z=>∃i:Nat,(1≤i∧i≤7)∧m=7 - i∧z=⟨68,[(9,vI 1),(10,.ptr 10 0 [] 7 0 0),(11,.blk 11 0 [] 3 0 ((qe 1 ⟨0,(r.seq+1).toNat,size.toNat,root⟩ S).take i).length),(12,.blk 12 0 [] 1 0 7),(13,vI i)],[(10,0,one ⟨7,[MSlot.cs ⟨S,(r.seq+1).toNat,size.toNat,root⟩],0,false⟩),(11,0,one ⟨3,((qe 1 ⟨0,(r.seq+1).toNat,size.toNat,root⟩ S).take i).map MRaw.cs,2,false⟩),(12,0,one ⟨1,zlU 7 10 0,0,false⟩)],1⟩) 6 ?_ ?_
    ·simp -implicitDefEqProofs only [go_sem]
     exact ⟨1,by omega,rfl,rfl⟩
    ·rintro m z ⟨i,hi,rfl,rfl⟩
     have hi':i=1∨i=2∨i=3∨i=4∨i=5∨i=6∨i=7:=by omega
     rcases hi' with rfl | rfl | rfl | rfl | rfl | rfl | rfl
     ·have h1:((1:Nat):Int)≤6:=by decide
      have h2:((1:Nat):Int)<((7:Nat):Int):=by decide
      have w4:IntKind.i64.wrap (((1:Nat):Int)+1)=((2:Nat):Int):=by decide
      have ha:∀x,_:=fun x=>zK (E:=MRaw.cs) (l:=(qe 1 ⟨0,(r.seq+1).toNat,size.toNat,root⟩ S).take 1) (xs:=[x]) (b:=24) (n:=100) (by simp [qe]) (by omega) (by omega)
      simp -implicitDefEqProofs only [go_sem,h1,h2,w4,ha]
      exact ⟨6 - 1,by omega,2,by omega,rfl,rfl⟩
     ·have h1:((2:Nat):Int)≤6:=by decide
      have h2:((2:Nat):Int)<((7:Nat):Int):=by decide
      have w4:IntKind.i64.wrap (((2:Nat):Int)+1)=((3:Nat):Int):=by decide
      have ha:∀x,_:=fun x=>zK (E:=MRaw.cs) (l:=(qe 1 ⟨0,(r.seq+1).toNat,size.toNat,root⟩ S).take 2) (xs:=[x]) (b:=24) (n:=100) (by simp [qe]) (by omega) (by omega)
      simp -implicitDefEqProofs only [go_sem,h1,h2,w4,ha]
      exact ⟨6 - 2,by omega,3,by omega,rfl,rfl⟩
     ·have h1:((3:Nat):Int)≤6:=by decide
      have h2:((3:Nat):Int)<((7:Nat):Int):=by decide
      have w4:IntKind.i64.wrap (((3:Nat):Int)+1)=((4:Nat):Int):=by decide
      have ha:∀x,_:=fun x=>zK (E:=MRaw.cs) (l:=(qe 1 ⟨0,(r.seq+1).toNat,size.toNat,root⟩ S).take 3) (xs:=[x]) (b:=24) (n:=100) (by simp [qe]) (by omega) (by omega)
      simp -implicitDefEqProofs only [go_sem,h1,h2,w4,ha]
      exact ⟨6 - 3,by omega,4,by omega,rfl,rfl⟩
     ·have h1:((4:Nat):Int)≤6:=by decide
      have h2:((4:Nat):Int)<((7:Nat):Int):=by decide
      have w4:IntKind.i64.wrap (((4:Nat):Int)+1)=((5:Nat):Int):=by decide
      have ha:∀x,_:=fun x=>zK (E:=MRaw.cs) (l:=(qe 1 ⟨0,(r.seq+1).toNat,size.toNat,root⟩ S).take 4) (xs:=[x]) (b:=24) (n:=100) (by simp [qe]) (by omega) (by omega)
      simp -implicitDefEqProofs only [go_sem,h1,h2,w4,ha]
      exact ⟨6 - 4,by omega,5,by omega,rfl,rfl⟩
     ·have h1:((5:Nat):Int)≤6:=by decide
      have h2:((5:Nat):Int)<((7:Nat):Int):=by decide
      have w4:IntKind.i64.wrap (((5:Nat):Int)+1)=((6:Nat):Int):=by decide
      have ha:∀x,_:=fun x=>zK (E:=MRaw.cs) (l:=(qe 1 ⟨0,(r.seq+1).toNat,size.toNat,root⟩ S).take 5) (xs:=[x]) (b:=24) (n:=100) (by simp [qe]) (by omega) (by omega)
      simp -implicitDefEqProofs only [go_sem,h1,h2,w4,ha]
      exact ⟨6 - 5,by omega,6,by omega,rfl,rfl⟩
     ·have h1:((6:Nat):Int)≤6:=by decide
      have h2:((6:Nat):Int)<((7:Nat):Int):=by decide
      have w4:IntKind.i64.wrap (((6:Nat):Int)+1)=((7:Nat):Int):=by decide
      have ha:∀x,_:=fun x=>zK (E:=MRaw.cs) (l:=(qe 1 ⟨0,(r.seq+1).toNat,size.toNat,root⟩ S).take 6) (xs:=[x]) (b:=24) (n:=100) (by simp [qe]) (by omega) (by omega)
      simp -implicitDefEqProofs only [go_sem,h1,h2,w4,ha]
      exact ⟨6 - 6,by omega,7,by omega,rfl,rfl⟩
     ·have h1:¬(((7:Nat):Int)≤6):=by decide
      have ha:∀x,_:=fun x=>zK (E:=MRaw.cs) (l:=(qe 1 ⟨0,(r.seq+1).toNat,size.toNat,root⟩ S).take 7) (xs:=[x]) (b:=24) (n:=100) (by simp [qe]) (by omega) (by omega)
      simp -implicitDefEqProofs only [go_sem,h1,ha]
      refine Want.intro (zpa (qe 1 ⟨0,(r.seq+1).toNat,size.toNat,root⟩ S) (by show 8 * 24≤_;decide)) ?_
      simp -implicitDefEqProofs only [go_sem]
end Go.Proofs.YtpjpkmhaffmbmaaGreat.E
end
section
namespace Go.Proofs.YtpjpkmhaffmbmaaGreat.E
open Go Go.RowKit
set_option linter.unusedVariables false
set_option linter.unusedSimpArgs false
theorem mSum_sum (s:MSlot) (v:Nat):zbc {s with sum:=v}=zbc s:=rfl
theorem put_all (s:MSlot) (to:Int) (S q z:Nat) (r:MDig):
  zdk (zdk (zdk (zdk (zdk (zdk (zdk (zdk s 0 0) 1 q) 2 z) 3 r.a) 4 r.b) 5 r.c) 6 r.d) 0 S=⟨S,q,z,r⟩:=rfl
theorem zbs (d:MDisk) (s:MSlot) (S:Nat):zF d (qe 1 s S)={d with one:=⟨S,s.seq,s.size,s.root⟩}:=rfl
theorem zes (d:MDisk) (s:MSlot) (S:Nat):zF d (qe 2 s S)={d with two:=⟨S,s.seq,s.size,s.root⟩}:=rfl
theorem zqN {d:MDisk} {size:Int} {root:MDig} (h:mIn size 1 256=true) (hq:(zL d).1.seq≠1000000000):
  zD ⟨zbc (zat d size root),(zat d size root).seq,(zat d size root).size,(zat d size root).root⟩=true:=by
 have hb:=wJ d
 have hi:=mIn_iff.1 h
 have e:zbc ⟨zbc (zat d size root),(zat d size root).seq,(zat d size root).size,(zat d size root).root⟩=zbc (zat d size root):=rfl
 have e1:(zat d size root).seq=((zL d).1.seq+1).toNat:=rfl
 have e2:(zat d size root).size=size.toNat:=rfl
 simp only [zD,e,e1,e2,Bool.and_eq_true,beq_self_eq_true,decide_eq_true_eq,true_and]
 refine ⟨beq_self_eq_true _,by omega⟩
theorem zjv {d:MDisk} {size:Int} {root:MDig} (h:mIn size 1 256=true) (hq:(zL d).1.seq≠1000000000):
  zL (zF d (yT d size root))=(⟨(zL d).1.seq+1,size,root⟩,zdP d):=by
 have hb:=wJ d
 have hi:=mIn_iff.1 h
 have ho:=zqN (root:=root) h hq
 rw [xq,if_pos ⟨h,hq⟩]
 have e1:(zat d size root).seq=((zL d).1.seq+1).toNat:=rfl
 have e2:(zat d size root).size=size.toNat:=rfl
 have e3:(zat d size root).root=root:=rfl
 generalize zbc (zat d size root)=S at *
 generalize zat d size root=s at *
 obtain ⟨s0,sq,sz,sr⟩:=s
 simp only at e1 e2 e3 ho
 subst e1 e2 e3
 unfold zdP
 cases h1:zD d.one<;>cases h2:zD d.two
 ·have r:zL d=(⟨0,0,dig0⟩,0):=by unfold zL;rw [h1,h2]
  rw [r] at ho ⊢
  rw [if_neg (by decide),zbs]
  unfold zL
  simp only [h2,ho,MSlot.rec_]
  refine Prod.ext ?_ rfl
  simp only [MSlot.rec_,MRec.mk.injEq]
  exact ⟨rfl,by omega,trivial⟩
 ·have r:zL d=(d.two.rec_,2):=by unfold zL;rw [h1,h2]
  rw [r] at ho hb hq ⊢
  simp only [MSlot.rec_] at ho hb hq ⊢
  rw [if_neg (by simp),zbs]
  unfold zL
  simp only [h2,ho]
  rw [if_neg (by omega)]
  refine Prod.ext ?_ rfl
  simp only [MSlot.rec_,MRec.mk.injEq]
  first | omega | exact ⟨by omega,by omega,trivial⟩ | exact ⟨by omega,by omega,rfl⟩ | (constructor<;>omega) | trace_state
 ·have r:zL d=(d.one.rec_,1):=by unfold zL;rw [h1,h2]
  rw [r] at ho hb hq ⊢
  simp only [MSlot.rec_] at ho hb hq ⊢
  simp only [if_true]
  rw [zes]
  unfold zL
  simp only [h1,ho]
  rw [if_pos (by omega)]
  refine Prod.ext ?_ rfl
  simp only [MSlot.rec_,MRec.mk.injEq]
  first | omega | exact ⟨by omega,by omega,trivial⟩ | exact ⟨by omega,by omega,rfl⟩ | (constructor<;>omega) | trace_state
 ·by_cases q:d.two.seq>d.one.seq
  ·have r:zL d=(d.two.rec_,2):=by unfold zL;rw [h1,h2];simp only;rw [if_pos q]
   rw [r] at ho hb hq ⊢
   simp only [MSlot.rec_] at ho hb hq ⊢
   rw [if_neg (by simp),zbs]
   unfold zL
   simp only [h2,ho]
   rw [if_neg (by omega)]
   refine Prod.ext ?_ rfl
   simp only [MSlot.rec_,MRec.mk.injEq]
   first | omega | exact ⟨by omega,by omega,trivial⟩ | exact ⟨by omega,by omega,rfl⟩ | (constructor<;>omega) | trace_state
  ·have r:zL d=(d.one.rec_,1):=by unfold zL;rw [h1,h2];simp only;rw [if_neg q]
   rw [r] at ho hb hq ⊢
   simp only [MSlot.rec_] at ho hb hq ⊢
   simp only [if_true]
   rw [zes]
   unfold zL
   simp only [h1,ho]
   rw [if_pos (by omega)]
   refine Prod.ext ?_ rfl
   simp only [MSlot.rec_,MRec.mk.injEq]
   first | omega | exact ⟨by omega,by omega,trivial⟩ | exact ⟨by omega,by omega,rfl⟩ | (constructor<;>omega) | trace_state
theorem wV {d:MDisk} {size:Int} {root:MDig} (h:yT d size root≠[]):zx (zF d (yT d size root))=⟨size,root⟩:=by
 have hc:mIn size 1 256=true∧(zL d).1.seq≠1000000000:=by
  apply Classical.byContradiction
  intro hn
  exact h (by rw [xq,if_neg hn])
 unfold zx
 rw [zjv hc.1 hc.2]
 have:zdP d≠0:=by unfold zdP;split<;>decide
 rw [if_neg this]
end Go.Proofs.YtpjpkmhaffmbmaaGreat.E
end
