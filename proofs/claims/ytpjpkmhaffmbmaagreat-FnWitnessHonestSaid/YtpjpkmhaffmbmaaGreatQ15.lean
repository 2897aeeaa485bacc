/- Contracts: sums of slots, records, what a disk holds; Contracts: raw writes; the raw writes that keep a point -/
import Derived.Test.YtpjpkmhaffmbmaaGreatQ12
import Derived.Test.YtpjpkmhaffmbmaaGreatQ7
section
namespace Go.Proofs.YtpjpkmhaffmbmaaGreat.E
open Go Go.RowKit
set_option maxHeartbeats 4000000
set_option maxRecDepth 10000
set_option linter.unusedSimpArgs false
set_option linter.unusedVariables false
set_option linter.unusedSectionVars false
def zkK:Dec:=⟨[(70,.cm [true]),(120,.cm [false,true,false])],[9,10,11],[22,30,37,38,39,40,49,56,76,80,87,141,143,159,237,250,259],false⟩
attribute [-go_sem] ju
@[go_sem] theorem zp9:ju Tryz.prog 25 0=some 23:=by kernel_rfl
def zlU (n a:Nat):Nat→List (List AV)
 | 0=>[[.ptr a 0 [] n 0 0],[.ptr a 0 [] n 0 1],[.ptr a 0 [] n 0 2],[.ptr a 0 [] n 0 3],[.ptr a 0 [] n 0 4],[.ptr a 0 [] n 0 5],[.ptr a 0 [] n 0 6]]
 | _=>[[.ptr a 0 [] n 0 7],[.ptr a 0 [] n 0 8],[.ptr a 0 [] n 0 9],[.ptr a 0 [] n 0 10],[.ptr a 0 [] n 0 11],[.ptr a 0 [] n 0 12],[.ptr a 0 [] n 0 13]]
attribute [go_sem] zlU
theorem ziT (s:MSlot):zW Tryz.prog 70 [(1000000,0,one ⟨7,[s.cs],0,false⟩)] [.ptr 1000000 0 [] 7 0 0] (.blk 0 0 [] 1 0 7) [(1000000,0,one ⟨7,[s.cs],0,false⟩),(0,0,one ⟨1,zlU 7 1000000 0,0,false⟩)]:=by
 refine zl zkK false Tryz.f70 ?_
 conv=>enter [1];reduce
 refine jvM Tryz.f70 29 [.tmp 2] (by kernel_rfl) (by decide +kernel) rfl ?_
 simp -implicitDefEqProofs only [go_sem]
theorem wds_1 (s:MDisk):zW Tryz.prog 70 [(1000000,0,one ⟨14,[s.cs],0,false⟩)] [.ptr 1000000 0 [] 14 0 0] (.blk 0 0 [] 1 0 7) [(1000000,0,one ⟨14,[s.cs],0,false⟩),(0,0,one ⟨1,zlU 14 1000000 0,0,false⟩)]:=by
 refine zl zkK false Tryz.f70 ?_
 conv=>enter [1];reduce
 refine jvM Tryz.f70 29 [.tmp 2] (by kernel_rfl) (by decide +kernel) rfl ?_
 simp -implicitDefEqProofs only [go_sem]
theorem wds_2 (s:MDisk):zW Tryz.prog 70 [(1000000,0,one ⟨14,[s.cs],0,false⟩)] [.ptr 1000000 0 [] 14 0 7] (.blk 0 0 [] 1 0 7) [(1000000,0,one ⟨14,[s.cs],0,false⟩),(0,0,one ⟨1,zlU 14 1000000 7,0,false⟩)]:=by
 refine zl zkK false Tryz.f70 ?_
 conv=>enter [1];reduce
 refine jvM Tryz.f70 29 [.tmp 2] (by kernel_rfl) (by decide +kernel) rfl ?_
 simp -implicitDefEqProofs only [go_sem]
theorem zo6 (s:MSlot) (h:s.ok):CallR Tryz.prog 94 [.agg s.cs] (vU (zbc s)) []:=by
 refine zl zkK false Tryz.f94 ?_
 conv=>enter [1];reduce
 refine jvR Tryz.f94 17 [.tmp 2] (by kernel_rfl) (by decide +kernel) rfl ?_
 have hs:∀v,(jl v 8).size=8:=fun v=>zbU v 8
 have hb:s.root.bytes.size=32:=by unfold MDig.bytes;simp [hs]
 have z1:¬((((jl s.seq 8).size+(jl s.size 8).size:Nat):Int)>9223372036854775807):=by rw [hs,hs];decide
 have z2:¬((((jl s.seq 8++jl s.size 8).size+s.root.bytes.size:Nat):Int)>9223372036854775807):=by rw [hb];simp [hs]
 have hh:=zfp (jl s.seq 8++jl s.size 8++s.root.bytes) (by rw [zbJ];show (yj s 6).length≤_;rw [zbI s (by omega)];omega)
 have eT:(jl s.seq 8++jl s.size 8++s.root.bytes).data.toList=yj s 6:=by rw [zbJ]
 rw [eT] at hh
 have ho:=zf8 ((zJ (yj s 6)).a.toNat:Int)
 have hm:(orI .u64 ((zJ (yj s 6)).a.toNat:Int) 1).toNat=zbc s:=rfl
 rw [hm] at ho
 generalize zJ (yj s 6)=H at *
 simp -implicitDefEqProofs only [go_sem]
 refine Want.intro (jx _ h.q) ?_
 simp -implicitDefEqProofs only [go_sem]
 refine Want.intro (jx _ h.z) ?_
 simp -implicitDefEqProofs only [go_sem,z1]
 refine Want.intro (zrS _ h.r) ?_
 simp -implicitDefEqProofs only [go_sem,z2]
 refine Want.intro hh ?_
 simp -implicitDefEqProofs only [go_sem,ho]
theorem znw (s:MSlot):CallR Tryz.prog 128 [.agg s.cs] (vU (zbc s)) []:=by
 refine zl zkK false Tryz.f128 ?_
 conv=>enter [1];reduce
 refine jvR Tryz.f128 25 [.tmp 2] (by kernel_rfl) (by decide +kernel) rfl ?_
 have hh:=ziu ⟨(yj s 6).toArray⟩ (by show (yj s 6).length≤_;rw [zbI s (by omega)];omega)
 have eT:(⟨(yj s 6).toArray⟩:ByteArray).data.toList=yj s 6:=rfl
 rw [eT] at hh
 have ho:=zf8 ((zJ (yj s 6)).a.toNat:Int)
 have hm:(orI .u64 ((zJ (yj s 6)).a.toNat:Int) 1).toNat=zbc s:=rfl
 rw [hm] at ho
 generalize zJ (yj s 6)=H at *
 simp -implicitDefEqProofs only [go_sem]
 refine WantM.intro (ziT s) ?_
 have h17:(1:Int)≤((7:Nat):Int):=by decide
 simp -implicitDefEqProofs only [go_sem,h17]
 refine qv [(3,1)] (fun m z=>∃i,i≤6∧m=6 - i∧z=⟨25,[(3,.blk 3 0 [] 1 0 (yj s i).length),(7,.blk 7 0 [] 1 1 6),(8,vI ((6:Nat):Int)),(9,vI i)],[(3,0,one ⟨1,(yj s i).map zy,2,false⟩),(7,0,one ⟨1,zlU 7 10007 0,0,false⟩),(10007,0,one ⟨7,[s.cs],0,false⟩)],1⟩) 6 ?_ ?_
 ·simp -implicitDefEqProofs only [go_sem]
  exact ⟨0,by omega,rfl,rfl⟩
 ·rintro m z ⟨i,hi,rfl,rfl⟩
  have hlen:=zbI s hi
  have hi':i=0∨i=1∨i=2∨i=3∨i=4∨i=5∨i=6:=by omega
  rcases hi' with rfl | rfl | rfl | rfl | rfl | rfl | rfl
  ·have hlt':((0:Nat):Int)<((6:Nat):Int):=by decide
   have w4:IntKind.i64.wrap (((0:Nat):Int)+1)=((1:Nat):Int):=by decide
   have e:yj s 1=yj s 0++low s.seq 8:=by simp [yj]
   simp -implicitDefEqProofs only [go_sem,hlt',w4]
   refine WantM.intro (za5 (yj s 0) s.seq (by omega)) ?_
   simp -implicitDefEqProofs only [go_sem,w4]
   exact ⟨5 - 0,by omega,1,by omega,rfl,by rw [e]⟩
  ·have hlt':((1:Nat):Int)<((6:Nat):Int):=by decide
   have w4:IntKind.i64.wrap (((1:Nat):Int)+1)=((2:Nat):Int):=by decide
   have e:yj s 2=yj s 1++low s.size 8:=by simp [yj]
   simp -implicitDefEqProofs only [go_sem,hlt',w4]
   refine WantM.intro (za5 (yj s 1) s.size (by omega)) ?_
   simp -implicitDefEqProofs only [go_sem,w4]
   exact ⟨5 - 1,by omega,2,by omega,rfl,by rw [e]⟩
  ·have hlt':((2:Nat):Int)<((6:Nat):Int):=by decide
   have w4:IntKind.i64.wrap (((2:Nat):Int)+1)=((3:Nat):Int):=by decide
   have e:yj s 3=yj s 2++low s.root.a 8:=by simp [yj]
   simp -implicitDefEqProofs only [go_sem,hlt',w4]
   refine WantM.intro (za5 (yj s 2) s.root.a (by omega)) ?_
   simp -implicitDefEqProofs only [go_sem,w4]
   exact ⟨5 - 2,by omega,3,by omega,rfl,by rw [e]⟩
  ·have hlt':((3:Nat):Int)<((6:Nat):Int):=by decide
   have w4:IntKind.i64.wrap (((3:Nat):Int)+1)=((4:Nat):Int):=by decide
   have e:yj s 4=yj s 3++low s.root.b 8:=by simp [yj]
   simp -implicitDefEqProofs only [go_sem,hlt',w4]
   refine WantM.intro (za5 (yj s 3) s.root.b (by omega)) ?_
   simp -implicitDefEqProofs only [go_sem,w4]
   exact ⟨5 - 3,by omega,4,by omega,rfl,by rw [e]⟩
  ·have hlt':((4:Nat):Int)<((6:Nat):Int):=by decide
   have w4:IntKind.i64.wrap (((4:Nat):Int)+1)=((5:Nat):Int):=by decide
   have e:yj s 5=yj s 4++low s.root.c 8:=by simp [yj]
   simp -implicitDefEqProofs only [go_sem,hlt',w4]
   refine WantM.intro (za5 (yj s 4) s.root.c (by omega)) ?_
   simp -implicitDefEqProofs only [go_sem,w4]
   exact ⟨5 - 4,by omega,5,by omega,rfl,by rw [e]⟩
  ·have hlt':((5:Nat):Int)<((6:Nat):Int):=by decide
   have w4:IntKind.i64.wrap (((5:Nat):Int)+1)=((6:Nat):Int):=by decide
   have e:yj s 6=yj s 5++low s.root.d 8:=by simp [yj]
   simp -implicitDefEqProofs only [go_sem,hlt',w4]
   refine WantM.intro (za5 (yj s 5) s.root.d (by omega)) ?_
   simp -implicitDefEqProofs only [go_sem,w4]
   exact ⟨5 - 5,by omega,6,by omega,rfl,by rw [e]⟩
  ·have hlt':¬(((6:Nat):Int)<((6:Nat):Int)):=by decide
   simp -implicitDefEqProofs only [go_sem,hlt',xp]
   refine Want.intro hh ?_
   simp -implicitDefEqProofs only [go_sem,ho]
theorem zmC (s:MSlot) (h:s.ok):CallR Tryz.prog 69 [.agg s.cs] (vB (zD s)) []:=by
 refine zl zkK false Tryz.f69 ?_
 conv=>enter [1];reduce
 refine jvR Tryz.f69 28 [.tmp 2] (by kernel_rfl) (by decide +kernel) rfl ?_
 unfold zD
 have hs:=znw s
 generalize zbc s=S at *
 simp -implicitDefEqProofs only [go_sem]
 refine Want.intro hs ?_
 cases e1:((s.sum:Int)==(S:Int)) with
 | false=>simp -implicitDefEqProofs only [go_sem,e1,ze,zf,zg,zc,Bool.false_and]
 | true=>
  by_cases e2:(s.seq:Int)≥1
  ·by_cases e3:(s.seq:Int)≤1000000000
   ·by_cases e4:(s.size:Int)≥1
    ·by_cases e5:(s.size:Int)≤256<;>simp -implicitDefEqProofs only [go_sem,e1,e2,e3,e4,e5,ze,zf,zg,zc,Bool.true_and]
    ·simp -implicitDefEqProofs only [go_sem,e1,e2,e3,e4,ze,zf,zg,zc,Bool.true_and,Bool.false_and]
   ·simp -implicitDefEqProofs only [go_sem,e1,e2,e3,ze,zf,zg,zc,Bool.true_and,Bool.false_and]
  ·simp -implicitDefEqProofs only [go_sem,e1,e2,ze,zf,zg,zc,Bool.true_and,Bool.false_and]
theorem znz (s:MSlot) (h:s.ok):CallR Tryz.prog 114 [.agg s.cs] (vB (zD s)) []:=by
 refine zl zkK false Tryz.f114 ?_
 conv=>enter [1];reduce
 refine jvR Tryz.f114 28 [.tmp 2] (by kernel_rfl) (by decide +kernel) rfl ?_
 unfold zD
 have hs:=zo6 s h
 generalize zbc s=S at *
 simp -implicitDefEqProofs only [go_sem]
 refine Want.intro hs ?_
 cases e1:((s.sum:Int)==(S:Int)) with
 | false=>simp -implicitDefEqProofs only [go_sem,e1,ze,zf,zg,zc,Bool.false_and]
 | true=>
  by_cases e2:(s.seq:Int)≥1
  ·by_cases e3:(s.seq:Int)≤1000000000
   ·by_cases e4:(s.size:Int)≥1
    ·by_cases e5:(s.size:Int)≤256<;>simp -implicitDefEqProofs only [go_sem,e1,e2,e3,e4,e5,ze,zf,zg,zc,Bool.true_and]
    ·simp -implicitDefEqProofs only [go_sem,e1,e2,e3,e4,ze,zf,zg,zc,Bool.true_and,Bool.false_and]
   ·simp -implicitDefEqProofs only [go_sem,e1,e2,e3,ze,zf,zg,zc,Bool.true_and,Bool.false_and]
  ·simp -implicitDefEqProofs only [go_sem,e1,e2,ze,zf,zg,zc,Bool.true_and,Bool.false_and]
theorem zrX (d:MDisk) (h:d.ok):CallR Tryz.prog 54 [.agg d.cs] (.tup [.agg (zL d).1.cs,vI (zL d).2]) []:=by
 refine zl zkK false Tryz.f54 ?_
 conv=>enter [1];reduce
 refine jvR Tryz.f54 39 [.cell 2 122,.tmp 3] (by kernel_rfl) (by decide +kernel) rfl ?_
 have o1:=zmC d.one h.a
 have o2:=zmC d.two h.b
 unfold zL
 simp -implicitDefEqProofs only [go_sem]
 refine Want.intro o1 ?_
 cases h1:zD d.one with
 | false=>
  simp -implicitDefEqProofs only [go_sem,h1,zb,za]
  refine Want.intro o2 ?_
  cases h2:zD d.two with
  | false=>
   simp -implicitDefEqProofs only [go_sem,h2,ze,zf,zg,zc,zb,za]
   rfl
  | true=>
   have b2:=yb h2
   have w1:IntKind.i64.wrap (d.two.seq:Int)=d.two.seq:=wrS (by omega)
   have w2:IntKind.i64.wrap (d.two.size:Int)=d.two.size:=wrS (by omega)
   simp -implicitDefEqProofs only [go_sem,h2,ze,zf,zg,zc,zb,za,w1,w2]
   rfl
 | true=>
  have b1:=yb h1
  have w3:IntKind.i64.wrap (d.one.seq:Int)=d.one.seq:=wrS (by omega)
  have w4:IntKind.i64.wrap (d.one.size:Int)=d.one.size:=wrS (by omega)
  simp -implicitDefEqProofs only [go_sem,h1,zb,za]
  refine Want.intro o2 ?_
  cases h2:zD d.two with
  | false=>
   simp -implicitDefEqProofs only [go_sem,h2,ze,zf,zg,zc,zb,za,w3,w4]
   rfl
  | true=>
   have b2:=yb h2
   have w1:IntKind.i64.wrap (d.two.seq:Int)=d.two.seq:=wrS (by omega)
   have w2:IntKind.i64.wrap (d.two.size:Int)=d.two.size:=wrS (by omega)
   by_cases q:d.two.seq>d.one.seq
   ·have q':(d.two.seq:Int)>(d.one.seq:Int):=by omega
    simp -implicitDefEqProofs only [go_sem,h2,q,q',ze,zf,zg,zc,zb,za,w1,w2]
    rfl
   ·have q':¬((d.two.seq:Int)>(d.one.seq:Int)):=by omega
    simp -implicitDefEqProofs only [go_sem,h2,q,q',ze,zf,zg,zc,zb,za,w3,w4]
    rfl
theorem zrY (d:MDisk) (h:d.ok):CallR Tryz.prog 52 [.agg d.cs] (.tup [.agg (zL d).1.cs,vI (zL d).2]) []:=by
 refine zl zkK false Tryz.f52 ?_
 conv=>enter [1];reduce
 refine jvR Tryz.f52 52 [.cell 2 122,.tmp 3] (by kernel_rfl) (by decide +kernel) rfl ?_
 have o1:=znz d.one h.a
 have o2:=znz d.two h.b
 unfold zL
 simp -implicitDefEqProofs only [go_sem]
 refine Want.intro o1 ?_
 simp -implicitDefEqProofs only [go_sem]
 refine Want.intro o2 ?_
 cases h1:zD d.one with
 | false=>
  cases h2:zD d.two with
  | false=>
   simp -implicitDefEqProofs only [go_sem,h1,h2,Bool.not_true,Bool.not_false,ze,zf,zg,zc,zb,za]
   rfl
  | true=>
   have b2:=yb h2
   have w1:IntKind.i64.wrap (d.two.seq:Int)=d.two.seq:=wrS (by omega)
   have w2:IntKind.i64.wrap (d.two.size:Int)=d.two.size:=wrS (by omega)
   simp -implicitDefEqProofs only [go_sem,h1,h2,Bool.not_true,Bool.not_false,ze,zf,zg,zc,zb,za,w1,w2]
   rfl
 | true=>
  have b1:=yb h1
  have w3:IntKind.i64.wrap (d.one.seq:Int)=d.one.seq:=wrS (by omega)
  have w4:IntKind.i64.wrap (d.one.size:Int)=d.one.size:=wrS (by omega)
  cases h2:zD d.two with
  | false=>
   simp -implicitDefEqProofs only [go_sem,h1,h2,Bool.not_true,Bool.not_false,ze,zf,zg,zc,zb,za,w3,w4]
   rfl
  | true=>
   have b2:=yb h2
   have w1:IntKind.i64.wrap (d.two.seq:Int)=d.two.seq:=wrS (by omega)
   have w2:IntKind.i64.wrap (d.two.size:Int)=d.two.size:=wrS (by omega)
   by_cases q:d.two.seq>d.one.seq
   ·have q':¬((d.one.seq:Int)≥(d.two.seq:Int)):=by omega
    simp -implicitDefEqProofs only [go_sem,h1,h2,q,q',Bool.not_true,Bool.not_false,ze,zf,zg,zc,zb,za,w1,w2]
    rfl
   ·have q':((d.one.seq:Int)≥(d.two.seq:Int)):=by omega
    simp -implicitDefEqProofs only [go_sem,h1,h2,q,q',Bool.not_true,Bool.not_false,ze,zf,zg,zc,zb,za,w3,w4]
    rfl
theorem ziw (d:MDisk) (h:d.ok):CallR Tryz.prog 13 [.agg d.cs] (.agg (zx d).cs) []:=by
 refine zl zkK false Tryz.f13 ?_
 conv=>enter [1];reduce
 refine jvR Tryz.f13 19 [.cell 2 47] (by kernel_rfl) (by decide +kernel) rfl ?_
 have hr:=zrX d h
 have hHO:=ziu ⟨#[]⟩ (by decide)
 have eHO:zJ (⟨#[]⟩:ByteArray).data.toList=zJ []:=rfl
 rw [eHO] at hHO
 unfold zx
 generalize zJ []=H at *
 generalize zL d=R at *
 obtain ⟨r,a⟩:=R
 simp -implicitDefEqProofs only [go_sem]
 refine Want.intro hr ?_
 by_cases e:a=0
 ·subst e
  simp -implicitDefEqProofs only [go_sem,beq_self_eq_true,zb,za]
  refine Want.intro hHO ?_
  simp -implicitDefEqProofs only [go_sem]
  rfl
 ·have e':(a==0)=false:=beq_eq_false_iff_ne.2 e
  simp -implicitDefEqProofs only [go_sem,e,e',zb,za]
theorem zix (d:MDisk) (h:d.ok):CallR Tryz.prog 12 [.agg d.cs] (.agg (zx d).cs) []:=by
 refine zl zkK false Tryz.f12 ?_
 conv=>enter [1];reduce
 refine jvR Tryz.f12 19 [.cell 2 47] (by kernel_rfl) (by decide +kernel) rfl ?_
 have hr:=zrY d h
 have hHO:=zfp ⟨#[]⟩ (by decide)
 have eHO:zJ (⟨#[]⟩:ByteArray).data.toList=zJ []:=rfl
 rw [eHO] at hHO
 unfold zx
 generalize zJ []=H at *
 generalize zL d=R at *
 obtain ⟨r,a⟩:=R
 simp -implicitDefEqProofs only [go_sem]
 refine Want.intro hr ?_
 by_cases e:a=0
 ·subst e
  simp -implicitDefEqProofs only [go_sem,beq_self_eq_true,zb,za]
  refine Want.intro hHO ?_
  simp -implicitDefEqProofs only [go_sem]
  rfl
 ·have e':(a==0)=false:=beq_eq_false_iff_ne.2 e
  simp -implicitDefEqProofs only [go_sem,e,e',zb,za]
end Go.Proofs.YtpjpkmhaffmbmaaGreat.E
end
section
namespace Go.Proofs.YtpjpkmhaffmbmaaGreat.E
open Go Go.RowKit
set_option maxHeartbeats 4000000
set_option maxRecDepth 10000
set_option linter.unusedSimpArgs false
set_option linter.unusedVariables false
set_option linter.unusedSectionVars false
def dcW2:Dec:=⟨[(70,.cm [true])],[9,10,11],[22,30,37,38,39,40,49,56,76,80,87,141,143,159,237,250,259],false⟩
attribute [-go_sem] ju
@[go_sem] theorem zoY:ju Tryz.prog 131 1=some 3:=by kernel_rfl
theorem zrV (s:MSlot) (w:Int) (v:Nat):CallR Tryz.prog 61 [.agg s.cs,vI w,vU v] (.agg (zdk s w v).cs) []:=by
 refine zl dcW2 false Tryz.f61 ?_
 conv=>enter [1];reduce
 refine jvR Tryz.f61 40 [.cell 6 27] (by kernel_rfl) (by decide +kernel) rfl ?_
 unfold zdk
 by_cases e0:w=0
 ·subst e0;simp -implicitDefEqProofs only [go_sem,zb,za,beq_self_eq_true]
 ·have f0:(w==0)=false:=beq_eq_false_iff_ne.2 e0
  by_cases e1:w=1
  ·subst e1;simp -implicitDefEqProofs only [go_sem,zb,za,beq_self_eq_true]
  ·have f1:(w==1)=false:=beq_eq_false_iff_ne.2 e1
   by_cases e2:w=2
   ·subst e2;simp -implicitDefEqProofs only [go_sem,zb,za,beq_self_eq_true]
   ·have f2:(w==2)=false:=beq_eq_false_iff_ne.2 e2
    by_cases e3:w=3
    ·subst e3;simp -implicitDefEqProofs only [go_sem,zb,za,beq_self_eq_true]
    ·have f3:(w==3)=false:=beq_eq_false_iff_ne.2 e3
     by_cases e4:w=4
     ·subst e4;simp -implicitDefEqProofs only [go_sem,zb,za,beq_self_eq_true]
     ·have f4:(w==4)=false:=beq_eq_false_iff_ne.2 e4
      by_cases e5:w=5
      ·subst e5;simp -implicitDefEqProofs only [go_sem,zb,za,beq_self_eq_true]
      ·have f5:(w==5)=false:=beq_eq_false_iff_ne.2 e5
       by_cases e6:w=6
       ·subst e6;simp -implicitDefEqProofs only [go_sem,zb,za,beq_self_eq_true]
       ·have f6:(w==6)=false:=beq_eq_false_iff_ne.2 e6
        simp -implicitDefEqProofs only [go_sem,f0,f1,f2,f3,f4,f5,f6,e0,e1,e2,e3,e4,e5,e6,zb,za]
theorem zb4 {d:MDisk} {l:List MRaw} {i:Nat} (h:i<l.length):zF d (l.take (i+1))=xl (zF d (l.take i)) l[i]:=by
 unfold zF
 rw [List.take_succ_eq_append_getElem h,List.foldl_append]
 rfl
def zdisk:MDisk:=⟨⟨0,0,0,dig0⟩,⟨0,0,0,dig0⟩⟩
theorem zmG (d:MDisk) (l:List MRaw) (hl:l.length≤maxLen):CallR Tryz.prog 15 [.agg d.cs,.ro 3 (l.map MRaw.cs)] (.agg (zF d l).cs) []:=by
 refine zl dcW2 false Tryz.f15 ?_
 conv=>enter [1];reduce
 refine jvR Tryz.f15 40 [.cell 4 29] (by kernel_rfl) (by decide +kernel) rfl ?_
 simp -implicitDefEqProofs only [go_sem]
 refine zX (fun m z=>∃i,i≤l.length∧m=l.length - i∧z=⟨40,[(1,.ro 3 (l.map MRaw.cs)),(2,.ptr 2 0 [] 14 0 0),(4,.ptr 4 0 [] 14 0 0),(5,vI i)],[(2,0,one ⟨14,[(zF d (l.take i)).cs],0,false⟩),(4,0,one ⟨14,[zdisk.cs],0,false⟩)],1⟩) l.length ?_ ?_
 ·simp -implicitDefEqProofs only [go_sem]
  exact ⟨0,Nat.zero_le _,rfl,rfl⟩
 ·rintro m z ⟨i,hi,rfl,rfl⟩
  rcases Nat.lt_or_ge i l.length with hlt | hge
  ·have hlt':(i:Int)<(l.length:Int):=by omega
   have hg:l[i]?=some l[i]:=List.getElem?_eq_getElem hlt
   have hw:=zG hlt hl
   have hst:=zb4 (d:=d) hlt
   generalize l[i]=r at *
   generalize zF d (l.take i)=D at *
   have hp1:=zrV D.one r.word r.value
   have hp2:=zrV D.two r.word r.value
   unfold xl at hst
   by_cases e1:r.slot=1
   ·have f1:(r.slot==1)=true:=by rw [e1];rfl
    have f2:(r.slot==2)=false:=by rw [e1];rfl
    rw [if_pos e1] at hst
    simp -implicitDefEqProofs only [go_sem,hlt',hg,hw,f1,f2,zb,za]
    refine Want.intro hp1 ?_
    simp -implicitDefEqProofs only [go_sem,hlt',hg,hw,f1,f2,zb,za]
    exact ⟨_,by omega,i+1,hlt,rfl,by rw [hst]⟩
   ·have f1:(r.slot==1)=false:=beq_eq_false_iff_ne.2 e1
    rw [if_neg e1] at hst
    by_cases e2:r.slot=2
    ·have f2:(r.slot==2)=true:=by rw [e2];rfl
     rw [if_pos e2] at hst
     simp -implicitDefEqProofs only [go_sem,hlt',hg,hw,f1,f2,zb,za]
     refine Want.intro hp2 ?_
     simp -implicitDefEqProofs only [go_sem,hlt',hg,hw,f1,f2,zb,za]
     exact ⟨_,by omega,i+1,hlt,rfl,by rw [hst]⟩
    ·have f2:(r.slot==2)=false:=beq_eq_false_iff_ne.2 e2
     rw [if_neg e2] at hst
     simp -implicitDefEqProofs only [go_sem,hlt',hg,hw,f1,f2,zb,za]
     exact ⟨_,by omega,i+1,hlt,rfl,by rw [hst]⟩
  ·have hi:i=l.length:=by omega
   subst hi
   have hlt':¬((l.length:Int)<(l.length:Int)):=by omega
   simp -implicitDefEqProofs only [go_sem,hlt',List.take_length]
theorem zrU (d:MDisk) (l:List MRaw) (hl:l.length≤maxLen):CallR Tryz.prog 68 [.agg d.cs,.ro 3 (l.map MRaw.cs)] (.agg (zF d l).cs) []:=by
 refine zl dcW2 false Tryz.f68 ?_
 conv=>enter [1];reduce
 refine jvR Tryz.f68 43 [.cell 4 29] (by kernel_rfl) (by decide +kernel) rfl ?_
 have x0:(0:Int)<((7:Nat):Int):=by decide
 have x1:(1:Int)<((7:Nat):Int):=by decide
 have x2:(2:Int)<((7:Nat):Int):=by decide
 have x3:(3:Int)<((7:Nat):Int):=by decide
 have x4:(4:Int)<((7:Nat):Int):=by decide
 have x5:(5:Int)<((7:Nat):Int):=by decide
 have x6:(6:Int)<((7:Nat):Int):=by decide
 simp -implicitDefEqProofs only [go_sem]
 refine zX (fun m z=>∃i,i≤l.length∧m=l.length - i∧z=⟨43,[(2,.ptr 2 0 [] 14 0 0),(4,.ptr 4 0 [] 14 0 0),(7,.ro 3 (l.map MRaw.cs)),(8,vI l.length),(9,vI i)],[(2,0,one ⟨14,[(zF d (l.take i)).cs],0,false⟩),(4,0,one ⟨14,[zdisk.cs],0,false⟩)],1⟩) l.length ?_ ?_
 ·simp -implicitDefEqProofs only [go_sem]
  exact ⟨0,Nat.zero_le _,rfl,rfl⟩
 ·rintro m z ⟨i,hi,rfl,rfl⟩
  rcases Nat.lt_or_ge i l.length with hlt | hge
  ·have hlt':(i:Int)<(l.length:Int):=by omega
   have hg:l[i]?=some l[i]:=List.getElem?_eq_getElem hlt
   have hw:=zG hlt hl
   have hst:=zb4 (d:=d) hlt
   generalize l[i]=r at *
   generalize zF d (l.take i)=D at *
   obtain ⟨sl,wd,v⟩:=r
   simp only [xl] at hst
   have hin:=qy wd 0 6
   simp -implicitDefEqProofs only [go_sem,hlt',hg,hw,zb,za]
   refine Want.intro hin ?_
   cases hi6:mIn wd 0 6 with
   | false=>
    have hk:¬(0≤wd∧wd≤6):=fun h=>by rw [mIn_iff.2 h] at hi6;cases hi6
    have hp:∀s:MSlot,zdk s wd v=s:=fun s=>by unfold zdk;repeat' (rw [if_neg (by omega)])
    simp only [hp,ite_self] at hst
    simp -implicitDefEqProofs only [go_sem,hi6,hw,Bool.not_false,zb,za]
    exact ⟨_,by omega,i+1,hlt,rfl,by rw [hst]⟩
   | true=>
    simp -implicitDefEqProofs only [go_sem,hi6,hw,Bool.not_true,zb,za]
    have k6:=mIn_iff.1 hi6
    have hwd:wd=0∨wd=1∨wd=2∨wd=3∨wd=4∨wd=5∨wd=6:=by omega
    by_cases e1:sl=1
    ·subst e1
     rw [if_pos rfl] at hst
     simp -implicitDefEqProofs only [go_sem,hw,beq_self_eq_true,zb,za]
     refine WantM.intro (wds_1 D) ?_
     rcases hwd with rfl | rfl | rfl | rfl | rfl | rfl | rfl
     all_goals
      simp -implicitDefEqProofs only [go_sem,hw,x0,x1,x2,x3,x4,x5,x6]
      exact ⟨_,by omega,i+1,hlt,rfl,by rw [hst];rfl⟩
    ·have f1:(sl==1)=false:=beq_eq_false_iff_ne.2 e1
     rw [if_neg e1] at hst
     by_cases e2:sl=2
     ·subst e2
      rw [if_pos rfl] at hst
      simp -implicitDefEqProofs only [go_sem,hw,f1,beq_self_eq_true,zb,za]
      refine WantM.intro (wds_2 D) ?_
      rcases hwd with rfl | rfl | rfl | rfl | rfl | rfl | rfl
      all_goals
       simp -implicitDefEqProofs only [go_sem,hw,x0,x1,x2,x3,x4,x5,x6]
       exact ⟨_,by omega,i+1,hlt,rfl,by rw [hst];rfl⟩
     ·have f2:(sl==2)=false:=beq_eq_false_iff_ne.2 e2
      rw [if_neg e2] at hst
      simp -implicitDefEqProofs only [go_sem,hw,f1,f2,zb,za]
      exact ⟨_,by omega,i+1,hlt,rfl,by rw [hst]⟩
  ·have hi:i=l.length:=by omega
   subst hi
   have hlt':¬((l.length:Int)<(l.length:Int)):=by omega
   simp -implicitDefEqProofs only [go_sem,hlt',List.take_length]
end Go.Proofs.YtpjpkmhaffmbmaaGreat.E
end
