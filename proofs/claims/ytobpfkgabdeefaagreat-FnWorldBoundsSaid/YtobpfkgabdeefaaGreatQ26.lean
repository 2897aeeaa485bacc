/- Contracts: GrowthCheck. -/
import Derived.Test.YtobpfkgabdeefaaGreatQ25
namespace Go.Proofs.YtobpfkgabdeefaaGreat.E
open Go Go.RowKit
set_option maxHeartbeats 4000000
set_option maxRecDepth 10000
set_option linter.unusedSimpArgs false
set_option linter.unusedVariables false
set_option linter.unusedSectionVars false
def Uo:cc:=⟨[(293,.cm [true,false]),(294,.cm [false,false,false])],cw,cz,false⟩
def fM (a b:aX):Bool:=((a.a:Int)==b.a)&&(((a.b:Int)==b.b)&&(((a.c:Int)==b.c)&&((a.d:Int)==b.d)))
theorem vO (a b:aX):fM a b=fM b a:=by
 unfold fM;rw[BEq.comm (a:=(a.a:Int)),BEq.comm (a:=(a.b:Int)),BEq.comm (a:=(a.c:Int)),BEq.comm (a:=(a.d:Int))]
def lO (o p:cg) (P:List BD):Int:=
 if nz o.size p.size then
  (if (P.length:Int)=lN o.size p.size then
   (if o.size=0 then(if fM o.root (gu []).dg then(if p.size=0 then(if fM o.root p.root then 0 else 4) else 0) else 3)
    else if o.size=p.size then(if fM o.root p.root then 0 else 4)
    else(if fM (nV (P.take (gm 9 o.size.toNat))).dg o.root then(if fM (nW (mD P o.size.toNat p.size.toNat) o.size.toNat p.size.toNat 0 p.size.toNat).dg p.root then 0 else 4) else 3))
   else 2)
 else 1
theorem Qj {M:Nat}(h:M<=256):gm 9 M<=8:=by
 have:∀x:Fin 257,gm 9 x.1<=8:=by decide +kernel
 exact this ⟨M,by omega⟩
theorem RB {M N:Nat}(h:nz M N=true) (h1:0<M) (h2:M<N):lN M N=((gA M N).length:Int):=by
 unfold lN gA;rw[if_pos h,if_neg (by omega),List.length_append];rfl
theorem age (o p:cg) (P:List BD):ba Tryz.prog 261 [.agg o.cs,.agg p.cs,.ro 4 (P.map BD.cs)] (vI (lO o p P)) []:=by
 refine aF Uo false Tryz.f261 ?_;conv=>enter[1];reduce
 refine bu Tryz.f261 81 [.tmp 6] (by kernel_rfl) (by decide +kernel) rfl ?_;unfold lO;have lS:=MG o.size p.size;try rw[FY]at lS
 cases h:nz o.size p.size with
 | false=>
  rw[h]at lS;by_cases q1:o.size>0<;>by_cases q2:o.size<p.size<;>
  ·refine Er q1 q2 ?_;refine aq.intro lS ?_;simp -implicitDefEqProofs only[go_sem,d7,beq_self_eq_true,bne_self_eq_false]
 | true=>
  rw[h]at lS;obtain⟨hn,hm⟩:=vg h;obtain⟨s,root⟩:=o;obtain⟨t,xd⟩:=p;simp only at h lS hn hm ⊢;obtain⟨N,rfl⟩:∃N:Nat,t=N:=⟨t.toNat,by omega⟩;have qB:=af4 s (N:Int);by_cases g:(P.length:Int)=lN s N
  ·have g':((P.length:Int) != lN s N)=false:=by rw[bne_eq_false_iff_eq];exact g
   by_cases z:s=0
   ·subst z;generalize hG:lN 0 (N:Int)=G at *;have rJ:=v8 ⟨#[]⟩ (by decide);have ym:gu (⟨#[]⟩:ByteArray).data.toList=gu []:=rfl;rw[ym]at rJ;generalize gu []=H at *;have q1:¬((0:Int)>0):=by decide
    simp -implicitDefEqProofs only[go_sem,q1,d7,beq_self_eq_true,bne_self_eq_false];refine uL lS ?_;refine aq.intro qB ?_;simp -implicitDefEqProofs only[go_sem,g,g',d7,beq_self_eq_true,bne_self_eq_false];refine aq.intro rJ ?_;cases e1:fM root H.dg with
    | false=>
     have gH:=e1;unfold fM BD.dg at gH;exact uK gH
    | true=>
     have gH:=e1;unfold fM BD.dg at gH;rcases Nat.eq_zero_or_pos N with y|y
     ·subst y;cases e2:fM root xd with
      | false=>
       have gb:=e2;have gV:=e2;rw[vO]at gV;unfold fM at gb gV;exact Ep gH gb gV
      | true=>
       have gb:=e2;have gV:=e2;rw[vO]at gV;unfold fM at gb gV;exact Ep gH gb gV
     have y1:((0:Int)==(N:Int))=false:=by rw[beq_eq_false_iff_ne];omega
     have y2:¬((N:Int)=0):=by omega
     simp -implicitDefEqProofs only[go_sem,gH,y1,y2,d7,beq_self_eq_true,bne_self_eq_false,Bool.false_eq_true]
   obtain⟨M,rfl⟩:∃M:Nat,s=M:=⟨s.toNat,by omega⟩;have cq:=RB h;generalize hG:lN (M:Int) (N:Int)=G at *;have z':((M:Int)==0)=false:=by rw[beq_eq_false_iff_ne];omega
   have q1:(M:Int)>0:=by omega
   rcases Nat.eq_or_lt_of_le (show M<=N by omega) with e|e
   ·subst e;have q2:¬((M:Int)<M):=by omega
    refine Eo q1 q2 z' ?_;refine uL lS ?_;refine aq.intro qB ?_;cases e2:fM root xd with
    | false=>
     have gb:=e2;have gV:=e2;rw[vO]at gV;unfold fM at gb gV;exact En g g' z z' gb gV
    | true=>
     have gb:=e2;have gV:=e2;rw[vO]at gV;unfold fM at gb gV;exact En g g' z z' gb gV
   have q2:(M:Int)<N:=by omega
   have q3:((M:Int)==N)=false:=by rw[beq_eq_false_iff_ne];omega
   have q4:¬((M:Int)=N):=by omega
   have um:P.length=(gA M N).length:=by have:=cq (by omega) e;omega
   have hp8:=Qj (M:=M) (by omega);have gU:gm 9 M<=P.length:=by
    rw[um,Fl (by omega) e (by omega)];unfold gA;rw[List.length_append];omega
   have xR:(gm 9 M:Int)<=(P.length:Int):=by omega
   refine Eo q1 q2 z' ?_;refine uL lS ?_;refine aq.intro qB ?_;simp -implicitDefEqProofs only[go_sem,g,g',z,z',q3,q4,d7,beq_self_eq_true,bne_self_eq_false,Bool.false_eq_true];refine aq.intro (af3 M (by omega)) ?_;simp -implicitDefEqProofs only[go_sem,gU,xR,Nat.sub_zero];refine aq.intro (U4 (P.take (gm 9 M)) (by rw[List.length_take];omega)) ?_;generalize nV (P.take (gm 9 M))=X;cases e4:fM X.dg root with
   | false=>
    have rQ:=e4;unfold fM BD.dg at rQ;exact uK rQ
   | true=>
    have rQ:=e4;unfold fM BD.dg at rQ;simp -implicitDefEqProofs only[go_sem,rQ,q3,d7,beq_self_eq_true,bne_self_eq_false,Bool.false_eq_true]
    first
     | (refine aE.intro (U2 M N P (by omega) (by omega) um) ?_
        refine au ?_;refine aE.intro (U3 P M N (by omega) e (by omega) um) ?_)
     | refine aq.intro (U0 P M N (by omega) e (by omega) um) ?_
    generalize nW (mD P M N) M N 0 N=Y;cases e5:fM Y.dg xd with
    | false=>
     have rP:=e5;unfold fM BD.dg at rP;exact uK rP
    | true=>
     have rP:=e5;unfold fM BD.dg at rP;exact uK rP
  have g':((P.length:Int) != lN s N)=true:=by rw[bne_iff_ne];exact g
  rw[if_neg g];generalize hG:lN s (N:Int)=G at *;by_cases q1:s>0<;>by_cases q2:s<N<;>
  ·refine Er q1 q2 ?_;refine uL lS ?_;refine aq.intro qB ?_;simp -implicitDefEqProofs only[go_sem,g',d7,beq_self_eq_true,bne_self_eq_false]
theorem af9 (o p:cg) (P:List BD):ba Tryz.prog 275 [.agg o.cs,.agg p.cs,.ro 4 (P.map BD.cs)] (vI (lO o p P)) []:=by
 refine aF Uo false Tryz.f275 ?_;conv=>enter[1];reduce
 refine bu Tryz.f275 57 [.tmp 6] (by kernel_rfl) (by decide +kernel) rfl ?_;unfold lO;have lS:=MA o.size p.size;try rw[FY]at lS
 cases h:nz o.size p.size with
 | false=>
  rw[h]at lS;by_cases q1:o.size>0<;>by_cases q2:o.size<p.size<;>
  ·refine Er q1 q2 ?_;refine aq.intro lS ?_;simp -implicitDefEqProofs only[go_sem,d7,beq_self_eq_true,bne_self_eq_false]
 | true=>
  rw[h]at lS;obtain⟨hn,hm⟩:=vg h;obtain⟨s,root⟩:=o;obtain⟨t,xd⟩:=p;simp only at h lS hn hm ⊢;obtain⟨N,rfl⟩:∃N:Nat,t=N:=⟨t.toNat,by omega⟩;have qB:=af0 s (N:Int);by_cases g:(P.length:Int)=lN s N
  ·have g':((P.length:Int) != lN s N)=false:=by rw[bne_eq_false_iff_eq];exact g
   by_cases z:s=0
   ·subst z;generalize hG:lN 0 (N:Int)=G at *;have rJ:=v9 ⟨#[]⟩ (by decide);have ym:gu (⟨#[]⟩:ByteArray).data.toList=gu []:=rfl;rw[ym]at rJ;generalize gu []=H at *;have q1:¬((0:Int)>0):=by decide
    simp -implicitDefEqProofs only[go_sem,q1,d7,beq_self_eq_true,bne_self_eq_false];refine uL lS ?_;refine aq.intro qB ?_;simp -implicitDefEqProofs only[go_sem,g,g',d7,beq_self_eq_true,bne_self_eq_false];refine aq.intro rJ ?_;cases e1:fM root H.dg with
    | false=>
     have gH:=e1;unfold fM BD.dg at gH;exact uK gH
    | true=>
     have gH:=e1;unfold fM BD.dg at gH;rcases Nat.eq_zero_or_pos N with y|y
     ·subst y;cases e2:fM root xd with
      | false=>
       have gb:=e2;have gV:=e2;rw[vO]at gV;unfold fM at gb gV;exact Ep gH gb gV
      | true=>
       have gb:=e2;have gV:=e2;rw[vO]at gV;unfold fM at gb gV;exact Ep gH gb gV
     have y1:((0:Int)==(N:Int))=false:=by rw[beq_eq_false_iff_ne];omega
     have y2:¬((N:Int)=0):=by omega
     simp -implicitDefEqProofs only[go_sem,gH,y1,y2,d7,beq_self_eq_true,bne_self_eq_false,Bool.false_eq_true]
   obtain⟨M,rfl⟩:∃M:Nat,s=M:=⟨s.toNat,by omega⟩;have cq:=RB h;generalize hG:lN (M:Int) (N:Int)=G at *;have z':((M:Int)==0)=false:=by rw[beq_eq_false_iff_ne];omega
   have q1:(M:Int)>0:=by omega
   rcases Nat.eq_or_lt_of_le (show M<=N by omega) with e|e
   ·subst e;have q2:¬((M:Int)<M):=by omega
    refine Eo q1 q2 z' ?_;refine uL lS ?_;refine aq.intro qB ?_;cases e2:fM root xd with
    | false=>
     have gb:=e2;have gV:=e2;rw[vO]at gV;unfold fM at gb gV;exact En g g' z z' gb gV
    | true=>
     have gb:=e2;have gV:=e2;rw[vO]at gV;unfold fM at gb gV;exact En g g' z z' gb gV
   have q2:(M:Int)<N:=by omega
   have q3:((M:Int)==N)=false:=by rw[beq_eq_false_iff_ne];omega
   have q4:¬((M:Int)=N):=by omega
   have um:P.length=(gA M N).length:=by have:=cq (by omega) e;omega
   have hp8:=Qj (M:=M) (by omega);have gU:gm 9 M<=P.length:=by
    rw[um,Fl (by omega) e (by omega)];unfold gA;rw[List.length_append];omega
   have xR:(gm 9 M:Int)<=(P.length:Int):=by omega
   refine Eo q1 q2 z' ?_;refine uL lS ?_;refine aq.intro qB ?_;simp -implicitDefEqProofs only[go_sem,g,g',z,z',q3,q4,d7,beq_self_eq_true,bne_self_eq_false,Bool.false_eq_true];refine aq.intro (My M (by omega)) ?_;simp -implicitDefEqProofs only[go_sem,gU,xR,Nat.sub_zero];refine aq.intro (afZ (P.take (gm 9 M)) (by rw[List.length_take];omega)) ?_;generalize nV (P.take (gm 9 M))=X;cases e4:fM X.dg root with
   | false=>
    have rQ:=e4;unfold fM BD.dg at rQ;exact uK rQ
   | true=>
    have rQ:=e4;unfold fM BD.dg at rQ;simp -implicitDefEqProofs only[go_sem,rQ,q3,d7,beq_self_eq_true,bne_self_eq_false,Bool.false_eq_true]
    first
     | (refine aE.intro (U2 M N P (by omega) (by omega) um) ?_
        refine au ?_;refine aE.intro (U3 P M N (by omega) e (by omega) um) ?_)
     | refine aq.intro (U0 P M N (by omega) e (by omega) um) ?_
    generalize nW (mD P M N) M N 0 N=Y;cases e5:fM Y.dg xd with
    | false=>
     have rP:=e5;unfold fM BD.dg at rP;exact uK rP
    | true=>
     have rP:=e5;unfold fM BD.dg at rP;exact uK rP
  have g':((P.length:Int) != lN s N)=true:=by rw[bne_iff_ne];exact g
  rw[if_neg g];generalize hG:lN s (N:Int)=G at *;by_cases q1:s>0<;>by_cases q2:s<N<;>
  ·refine Er q1 q2 ?_;refine uL lS ?_;refine aq.intro qB ?_;simp -implicitDefEqProofs only[go_sem,g',d7,beq_self_eq_true,bne_self_eq_false]
end Go.Proofs.YtobpfkgabdeefaaGreat.E
