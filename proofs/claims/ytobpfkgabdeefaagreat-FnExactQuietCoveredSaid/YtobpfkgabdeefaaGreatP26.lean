/- Contracts: GrowthCheck. -/
import Derived.Test.YtobpfkgabdeefaaGreatP25
import Derived.Test.YtobpfkgabdeefaaGreatP11
namespace Go.Proofs.YtobpfkgabdeefaaGreat.E
open Go Go.RowKit
set_option maxHeartbeats 4000000
set_option maxRecDepth 10000
set_option linter.unusedSimpArgs false
set_option linter.unusedVariables false
set_option linter.unusedSectionVars false
def Ug:bX:=⟨[(293,.cm [true,false]),(294,.cm [false,false,false])],[9,10,11],[24,26,30,44,47,50,51,52,57,58,59,62,76,88,138,185,186,187,253,254,297,311],false⟩
def fB (a b:aW):Bool:=((a.a:Int)==b.a)&&(((a.b:Int)==b.b)&&(((a.c:Int)==b.c)&&((a.d:Int)==b.d)))
theorem vw (a b:aW):fB a b=fB b a:=by
 unfold fB;rw[BEq.comm (a:=(a.a:Int)),BEq.comm (a:=(a.b:Int)),BEq.comm (a:=(a.c:Int)),BEq.comm (a:=(a.d:Int))]
def lC (o p:bh) (P:List BD):Int:=
 if m6 o.size p.size then
  (if (P.length:Int)=lB o.size p.size then
   (if o.size=0 then(if fB o.root (fY []).c9 then(if p.size=0 then(if fB o.root p.root then 0 else 4) else 0) else 3)
    else if o.size=p.size then(if fB o.root p.root then 0 else 4)
    else(if fB (nE (P.take (fT 9 o.size.toNat))).c9 o.root then(if fB (nF (mD P o.size.toNat p.size.toNat) o.size.toNat p.size.toNat 0 p.size.toNat).c9 p.root then 0 else 4) else 3))
   else 2)
 else 1
theorem Qd {M:Nat}(h:M≤256):fT 9 M≤8:=by
 have:∀x:Fin 257,fT 9 x.1≤8:=by decide +kernel
 exact this ⟨M,by omega⟩
theorem RA {M N:Nat}(h:m6 M N=true) (h1:0<M) (h2:M<N):lB M N=((gA M N).length:Int):=by
 unfold lB gA;rw[if_pos h,if_neg (by omega),List.length_append];rfl
theorem af6 (o p:bh) (P:List BD):aR Tryz.prog 261 [.agg o.cs,.agg p.cs,.ro 4 (P.map BD.cs)] (vI (lC o p P)) []:=by
 refine aA Ug false Tryz.f261 ?_;conv=>enter[1];reduce
 refine bf Tryz.f261 81 [.tmp 6] (by kernel_rfl) (by decide +kernel) rfl ?_;unfold lC;have lH:=MU o.size p.size;try rw[FY]at lH
 cases h:m6 o.size p.size with
 | false=>
  rw[h]at lH;by_cases q1:o.size>0<;>by_cases q2:o.size<p.size<;>
  ·simp -implicitDefEqProofs only[go_sem,Bool.false_eq_true,eZ,q1,q2,beq_self_eq_true,bne_self_eq_false];refine aq.intro lH ?_;simp -implicitDefEqProofs only[go_sem,eZ,beq_self_eq_true,bne_self_eq_false]
 | true=>
  rw[h]at lH;obtain⟨hn,hm⟩:=xl h;obtain⟨s,root⟩:=o;obtain⟨t,wJ⟩:=p;simp only at h lH hn hm ⊢;obtain⟨N,rfl⟩:∃N:Nat,t=N:=⟨t.toNat,by omega⟩;have qm:=afT s (N:Int);by_cases g:(P.length:Int)=lB s N
  ·have g':((P.length:Int) != lB s N)=false:=by rw[bne_eq_false_iff_eq];exact g
   by_cases z:s=0
   ·subst z;generalize hG:lB 0 (N:Int)=G at *;have ri:=vN ⟨#[]⟩ (by decide);have yq:fY (⟨#[]⟩:ByteArray).data.toList=fY []:=rfl;rw[yq]at ri;generalize fY []=H at *;have q1:¬((0:Int)>0):=by decide
    simp -implicitDefEqProofs only[go_sem,eZ,q1,beq_self_eq_true,bne_self_eq_false];refine aq.intro lH ?_;simp -implicitDefEqProofs only[go_sem,eZ,beq_self_eq_true,bne_self_eq_false];refine aq.intro qm ?_;simp -implicitDefEqProofs only[go_sem,eZ,g,g',beq_self_eq_true,bne_self_eq_false];refine aq.intro ri ?_;cases e1:fB root H.c9 with
    | false=>
     have gi:=e1;unfold fB BD.c9 at gi;simp -implicitDefEqProofs only[go_sem,Bool.false_eq_true,eZ,gi,beq_self_eq_true,bne_self_eq_false]
    | true=>
     have gi:=e1;unfold fB BD.c9 at gi;rcases Nat.eq_zero_or_pos N with y|y
     ·subst y;cases e2:fB root wJ with
      | false=>
       have fR:=e2;have gB:=e2;rw[vw]at gB;unfold fB at fR gB;simp -implicitDefEqProofs only[go_sem,Bool.false_eq_true,eZ,z0,gi,fR,gB,beq_self_eq_true,bne_self_eq_false]
      | true=>
       have fR:=e2;have gB:=e2;rw[vw]at gB;unfold fB at fR gB;simp -implicitDefEqProofs only[go_sem,Bool.false_eq_true,eZ,z0,gi,fR,gB,beq_self_eq_true,bne_self_eq_false]
     have y1:((0:Int)==(N:Int))=false:=by rw[beq_eq_false_iff_ne];omega
     have y2:¬((N:Int)=0):=by omega
     simp -implicitDefEqProofs only[go_sem,gi,y1,y2,eZ,beq_self_eq_true,bne_self_eq_false,Bool.false_eq_true]
   obtain⟨M,rfl⟩:∃M:Nat,s=M:=⟨s.toNat,by omega⟩;have cc:=RA h;generalize hG:lB (M:Int) (N:Int)=G at *;have z':((M:Int)==0)=false:=by rw[beq_eq_false_iff_ne];omega
   have q1:(M:Int)>0:=by omega
   rcases Nat.eq_or_lt_of_le (show M≤N by omega) with e|e
   ·subst e;have q2:¬((M:Int)<M):=by omega
    simp -implicitDefEqProofs only[go_sem,eZ,q1,q2,z',beq_self_eq_true,bne_self_eq_false];refine aq.intro lH ?_;simp -implicitDefEqProofs only[go_sem,eZ,beq_self_eq_true,bne_self_eq_false];refine aq.intro qm ?_;cases e2:fB root wJ with
    | false=>
     have fR:=e2;have gB:=e2;rw[vw]at gB;unfold fB at fR gB;simp -implicitDefEqProofs only[go_sem,g,g',z,z',fR,gB,eZ,beq_self_eq_true,bne_self_eq_false,Bool.false_eq_true]
    | true=>
     have fR:=e2;have gB:=e2;rw[vw]at gB;unfold fB at fR gB;simp -implicitDefEqProofs only[go_sem,g,g',z,z',fR,gB,eZ,beq_self_eq_true,bne_self_eq_false,Bool.false_eq_true]
   have q2:(M:Int)<N:=by omega
   have q3:((M:Int)==N)=false:=by rw[beq_eq_false_iff_ne];omega
   have q4:¬((M:Int)=N):=by omega
   have ue:P.length=(gA M N).length:=by have:=cc (by omega) e;omega
   have hp8:=Qd (M:=M) (by omega);have g9:fT 9 M≤P.length:=by
    rw[ue,Fh (by omega) e (by omega)];unfold gA;rw[List.length_append];omega
   have xU:(fT 9 M:Int)≤(P.length:Int):=by omega
   simp -implicitDefEqProofs only[go_sem,eZ,q1,q2,z',beq_self_eq_true,bne_self_eq_false];refine aq.intro lH ?_;simp -implicitDefEqProofs only[go_sem,eZ,beq_self_eq_true,bne_self_eq_false];refine aq.intro qm ?_;simp -implicitDefEqProofs only[go_sem,g,g',z,z',q3,q4,eZ,beq_self_eq_true,bne_self_eq_false,Bool.false_eq_true];refine aq.intro (afS M (by omega)) ?_;simp -implicitDefEqProofs only[go_sem,g9,xU,Nat.sub_zero];refine aq.intro (U2 (P.take (fT 9 M)) (by rw[List.length_take];omega)) ?_;generalize nE (P.take (fT 9 M))=X;cases e4:fB X.c9 root with
   | false=>
    have rz:=e4;unfold fB BD.c9 at rz;simp -implicitDefEqProofs only[go_sem,Bool.false_eq_true,eZ,rz,beq_self_eq_true,bne_self_eq_false]
   | true=>
    have rz:=e4;unfold fB BD.c9 at rz;simp -implicitDefEqProofs only[go_sem,rz,q3,eZ,beq_self_eq_true,bne_self_eq_false,Bool.false_eq_true]
    first
     | (refine aD.intro (U0 M N P (by omega) (by omega) ue) ?_
        refine aw ?_;refine aD.intro (U1 P M N (by omega) e (by omega) ue) ?_)
     | refine aq.intro (UX P M N (by omega) e (by omega) ue) ?_
    generalize nF (mD P M N) M N 0 N=Y;cases e5:fB Y.c9 wJ with
    | false=>
     have ry:=e5;unfold fB BD.c9 at ry;simp -implicitDefEqProofs only[go_sem,Bool.false_eq_true,eZ,ry,beq_self_eq_true,bne_self_eq_false]
    | true=>
     have ry:=e5;unfold fB BD.c9 at ry;simp -implicitDefEqProofs only[go_sem,Bool.false_eq_true,eZ,ry,beq_self_eq_true,bne_self_eq_false]
  have g':((P.length:Int) != lB s N)=true:=by rw[bne_iff_ne];exact g
  rw[if_neg g];generalize hG:lB s (N:Int)=G at *;by_cases q1:s>0<;>by_cases q2:s<N<;>
  ·simp -implicitDefEqProofs only[go_sem,Bool.false_eq_true,eZ,q1,q2,beq_self_eq_true,bne_self_eq_false];refine aq.intro lH ?_;simp -implicitDefEqProofs only[go_sem,eZ,beq_self_eq_true,bne_self_eq_false];refine aq.intro qm ?_;simp -implicitDefEqProofs only[go_sem,g',eZ,beq_self_eq_true,bne_self_eq_false]
theorem af0 (o p:bh) (P:List BD):aR Tryz.prog 275 [.agg o.cs,.agg p.cs,.ro 4 (P.map BD.cs)] (vI (lC o p P)) []:=by
 refine aA Ug false Tryz.f275 ?_;conv=>enter[1];reduce
 refine bf Tryz.f275 57 [.tmp 6] (by kernel_rfl) (by decide +kernel) rfl ?_;unfold lC;have lH:=MP o.size p.size;try rw[FY]at lH
 cases h:m6 o.size p.size with
 | false=>
  rw[h]at lH;by_cases q1:o.size>0<;>by_cases q2:o.size<p.size<;>
  ·simp -implicitDefEqProofs only[go_sem,Bool.false_eq_true,eZ,q1,q2,beq_self_eq_true,bne_self_eq_false];refine aq.intro lH ?_;simp -implicitDefEqProofs only[go_sem,eZ,beq_self_eq_true,bne_self_eq_false]
 | true=>
  rw[h]at lH;obtain⟨hn,hm⟩:=xl h;obtain⟨s,root⟩:=o;obtain⟨t,wJ⟩:=p;simp only at h lH hn hm ⊢;obtain⟨N,rfl⟩:∃N:Nat,t=N:=⟨t.toNat,by omega⟩;have qm:=afP s (N:Int);by_cases g:(P.length:Int)=lB s N
  ·have g':((P.length:Int) != lB s N)=false:=by rw[bne_eq_false_iff_eq];exact g
   by_cases z:s=0
   ·subst z;generalize hG:lB 0 (N:Int)=G at *;have ri:=vO ⟨#[]⟩ (by decide);have yq:fY (⟨#[]⟩:ByteArray).data.toList=fY []:=rfl;rw[yq]at ri;generalize fY []=H at *;have q1:¬((0:Int)>0):=by decide
    simp -implicitDefEqProofs only[go_sem,eZ,q1,beq_self_eq_true,bne_self_eq_false];refine aq.intro lH ?_;simp -implicitDefEqProofs only[go_sem,eZ,beq_self_eq_true,bne_self_eq_false];refine aq.intro qm ?_;simp -implicitDefEqProofs only[go_sem,eZ,g,g',beq_self_eq_true,bne_self_eq_false];refine aq.intro ri ?_;cases e1:fB root H.c9 with
    | false=>
     have gi:=e1;unfold fB BD.c9 at gi;simp -implicitDefEqProofs only[go_sem,Bool.false_eq_true,eZ,gi,beq_self_eq_true,bne_self_eq_false]
    | true=>
     have gi:=e1;unfold fB BD.c9 at gi;rcases Nat.eq_zero_or_pos N with y|y
     ·subst y;cases e2:fB root wJ with
      | false=>
       have fR:=e2;have gB:=e2;rw[vw]at gB;unfold fB at fR gB;simp -implicitDefEqProofs only[go_sem,Bool.false_eq_true,eZ,z0,gi,fR,gB,beq_self_eq_true,bne_self_eq_false]
      | true=>
       have fR:=e2;have gB:=e2;rw[vw]at gB;unfold fB at fR gB;simp -implicitDefEqProofs only[go_sem,Bool.false_eq_true,eZ,z0,gi,fR,gB,beq_self_eq_true,bne_self_eq_false]
     have y1:((0:Int)==(N:Int))=false:=by rw[beq_eq_false_iff_ne];omega
     have y2:¬((N:Int)=0):=by omega
     simp -implicitDefEqProofs only[go_sem,gi,y1,y2,eZ,beq_self_eq_true,bne_self_eq_false,Bool.false_eq_true]
   obtain⟨M,rfl⟩:∃M:Nat,s=M:=⟨s.toNat,by omega⟩;have cc:=RA h;generalize hG:lB (M:Int) (N:Int)=G at *;have z':((M:Int)==0)=false:=by rw[beq_eq_false_iff_ne];omega
   have q1:(M:Int)>0:=by omega
   rcases Nat.eq_or_lt_of_le (show M≤N by omega) with e|e
   ·subst e;have q2:¬((M:Int)<M):=by omega
    simp -implicitDefEqProofs only[go_sem,eZ,q1,q2,z',beq_self_eq_true,bne_self_eq_false];refine aq.intro lH ?_;simp -implicitDefEqProofs only[go_sem,eZ,beq_self_eq_true,bne_self_eq_false];refine aq.intro qm ?_;cases e2:fB root wJ with
    | false=>
     have fR:=e2;have gB:=e2;rw[vw]at gB;unfold fB at fR gB;simp -implicitDefEqProofs only[go_sem,g,g',z,z',fR,gB,eZ,beq_self_eq_true,bne_self_eq_false,Bool.false_eq_true]
    | true=>
     have fR:=e2;have gB:=e2;rw[vw]at gB;unfold fB at fR gB;simp -implicitDefEqProofs only[go_sem,g,g',z,z',fR,gB,eZ,beq_self_eq_true,bne_self_eq_false,Bool.false_eq_true]
   have q2:(M:Int)<N:=by omega
   have q3:((M:Int)==N)=false:=by rw[beq_eq_false_iff_ne];omega
   have q4:¬((M:Int)=N):=by omega
   have ue:P.length=(gA M N).length:=by have:=cc (by omega) e;omega
   have hp8:=Qd (M:=M) (by omega);have g9:fT 9 M≤P.length:=by
    rw[ue,Fh (by omega) e (by omega)];unfold gA;rw[List.length_append];omega
   have xU:(fT 9 M:Int)≤(P.length:Int):=by omega
   simp -implicitDefEqProofs only[go_sem,eZ,q1,q2,z',beq_self_eq_true,bne_self_eq_false];refine aq.intro lH ?_;simp -implicitDefEqProofs only[go_sem,eZ,beq_self_eq_true,bne_self_eq_false];refine aq.intro qm ?_;simp -implicitDefEqProofs only[go_sem,g,g',z,z',q3,q4,eZ,beq_self_eq_true,bne_self_eq_false,Bool.false_eq_true];refine aq.intro (MN M (by omega)) ?_;simp -implicitDefEqProofs only[go_sem,g9,xU,Nat.sub_zero];refine aq.intro (afO (P.take (fT 9 M)) (by rw[List.length_take];omega)) ?_;generalize nE (P.take (fT 9 M))=X;cases e4:fB X.c9 root with
   | false=>
    have rz:=e4;unfold fB BD.c9 at rz;simp -implicitDefEqProofs only[go_sem,Bool.false_eq_true,eZ,rz,beq_self_eq_true,bne_self_eq_false]
   | true=>
    have rz:=e4;unfold fB BD.c9 at rz;simp -implicitDefEqProofs only[go_sem,rz,q3,eZ,beq_self_eq_true,bne_self_eq_false,Bool.false_eq_true]
    first
     | (refine aD.intro (U0 M N P (by omega) (by omega) ue) ?_
        refine aw ?_;refine aD.intro (U1 P M N (by omega) e (by omega) ue) ?_)
     | refine aq.intro (UX P M N (by omega) e (by omega) ue) ?_
    generalize nF (mD P M N) M N 0 N=Y;cases e5:fB Y.c9 wJ with
    | false=>
     have ry:=e5;unfold fB BD.c9 at ry;simp -implicitDefEqProofs only[go_sem,Bool.false_eq_true,eZ,ry,beq_self_eq_true,bne_self_eq_false]
    | true=>
     have ry:=e5;unfold fB BD.c9 at ry;simp -implicitDefEqProofs only[go_sem,Bool.false_eq_true,eZ,ry,beq_self_eq_true,bne_self_eq_false]
  have g':((P.length:Int) != lB s N)=true:=by rw[bne_iff_ne];exact g
  rw[if_neg g];generalize hG:lB s (N:Int)=G at *;by_cases q1:s>0<;>by_cases q2:s<N<;>
  ·simp -implicitDefEqProofs only[go_sem,Bool.false_eq_true,eZ,q1,q2,beq_self_eq_true,bne_self_eq_false];refine aq.intro lH ?_;simp -implicitDefEqProofs only[go_sem,eZ,beq_self_eq_true,bne_self_eq_false];refine aq.intro qm ?_;simp -implicitDefEqProofs only[go_sem,g',eZ,beq_self_eq_true,bne_self_eq_false]
end Go.Proofs.YtobpfkgabdeefaaGreat.E
