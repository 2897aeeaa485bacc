/- Contracts: GrowthCheck. -/
import Derived.Test.YtpjpkmhaffmbmaaGreatQ23
import Derived.Test.YtpjpkmhaffmbmaaGreatQ9
namespace Go.Proofs.YtpjpkmhaffmbmaaGreat.E
open Go Go.RowKit
set_option maxHeartbeats 4000000
set_option maxRecDepth 10000
set_option linter.unusedSimpArgs false
set_option linter.unusedVariables false
set_option linter.unusedSectionVars false
def dcKC:Dec:=⟨[(158,.cm [true,false]),(159,.cm [false,false,false])],[9,10,11],[22,30,37,38,39,40,49,56,76,80,87,141,143,159,237,250,259],false⟩
def eqD (a b:MDig):Bool:=((a.a:Int)==b.a)&&(((a.b:Int)==b.b)&&(((a.c:Int)==b.c)&&((a.d:Int)==b.d)))
theorem xW (a b:MDig):eqD a b=eqD b a:=by
 unfold eqD
 rw [BEq.comm (a:=(a.a:Int)),BEq.comm (a:=(a.b:Int)),BEq.comm (a:=(a.c:Int)),BEq.comm (a:=(a.d:Int))]
def mGC (o p:MPt) (P:List BD):Int:=
 if jq o.size p.size then
  (if (P.length:Int)=xF o.size p.size then
   (if o.size=0 then (if eqD o.root (zJ []).dig then (if p.size=0 then (if eqD o.root p.root then 0 else 4) else 0) else 3)
    else if o.size=p.size then (if eqD o.root p.root then 0 else 4)
    else (if eqD (xA (P.take (jf 9 o.size.toNat))).dig o.root then (if eqD (jo (mD P o.size.toNat p.size.toNat) o.size.toNat p.size.toNat 0 p.size.toNat).dig p.root then 0 else 4) else 3))
   else 2)
 else 1
theorem zqE {M:Nat} (h:M≤256):jf 9 M≤8:=by
 have:∀x:Fin 257,jf 9 x.1≤8:=by decide +kernel
 exact this ⟨M,by omega⟩
theorem zd3 {M N:Nat} (h:jq M N=true) (h1:0<M) (h2:M<N):xF M N=((gA M N).length:Int):=by
 unfold xF gA
 rw [if_pos h,if_neg (by omega),List.length_append]
 rfl
theorem zst (o p:MPt) (P:List BD):CallR Tryz.prog 109 [.agg o.cs,.agg p.cs,.ro 4 (P.map BD.cs)] (vI (mGC o p P)) []:=by
 refine zl dcKC false Tryz.f109 ?_
 conv=>enter [1];reduce
 refine jvR Tryz.f109 81 [.tmp 6] (by kernel_rfl) (by decide +kernel) rfl ?_
 unfold mGC
 have hmg:=znt o.size p.size
 try rw [wP] at hmg
 cases h:jq o.size p.size with
 | false=>
  rw [h] at hmg
  by_cases q1:o.size>0<;>by_cases q2:o.size<p.size<;>
  ·simp -implicitDefEqProofs only [go_sem,q1,q2,ze,zf,zg,zc,zb,za,Bool.not_true,Bool.not_false,beq_self_eq_true,bne_self_eq_false,Bool.false_eq_true]
   refine Want.intro hmg ?_
   simp -implicitDefEqProofs only [go_sem,ze,zf,zg,zc,zb,za,Bool.not_true,Bool.not_false,beq_self_eq_true,bne_self_eq_false]
 | true=>
  rw [h] at hmg
  obtain ⟨hn,hm⟩:=xK h
  obtain ⟨s,root⟩:=o
  obtain ⟨t,root'⟩:=p
  simp only at h hmg hn hm ⊢
  obtain ⟨N,rfl⟩:∃N:Nat,t=N:=⟨t.toNat,by omega⟩
  have hgl:=zsc s (N:Int)
  by_cases g:(P.length:Int)=xF s N
  ·have g':((P.length:Int) != xF s N)=false:=by rw [bne_eq_false_iff_eq];exact g
   by_cases z:s=0
   ·subst z
    generalize hG:xF 0 (N:Int)=G at *
    have hHO:=ziu ⟨#[]⟩ (by decide)
    have eHO:zJ (⟨#[]⟩:ByteArray).data.toList=zJ []:=rfl
    rw [eHO] at hHO
    generalize zJ []=H at *
    have q1:¬((0:Int)>0):=by decide
    simp -implicitDefEqProofs only [go_sem,q1,ze,zf,zg,zc,zb,za,Bool.not_true,Bool.not_false,beq_self_eq_true,bne_self_eq_false]
    refine Want.intro hmg ?_
    simp -implicitDefEqProofs only [go_sem,ze,zf,zg,zc,zb,za,Bool.not_true,Bool.not_false,beq_self_eq_true,bne_self_eq_false]
    refine Want.intro hgl ?_
    simp -implicitDefEqProofs only [go_sem,g,g',ze,zf,zg,zc,zb,za,Bool.not_true,Bool.not_false,beq_self_eq_true,bne_self_eq_false]
    refine Want.intro hHO ?_
    cases e1:eqD root H.dig with
    | false=>
     have e1':=e1
     unfold eqD BD.dig at e1'
     simp -implicitDefEqProofs only [go_sem,e1',ze,zf,zg,zc,zb,za,Bool.not_true,Bool.not_false,beq_self_eq_true,bne_self_eq_false,Bool.false_eq_true]
    | true=>
     have e1':=e1
     unfold eqD BD.dig at e1'
     rcases Nat.eq_zero_or_pos N with y | y
     ·subst y
      cases e2:eqD root root' with
      | false=>
       have e2':=e2
       have e3':=e2
       rw [xW] at e3'
       unfold eqD at e2' e3'
       simp -implicitDefEqProofs only [go_sem,e1',e2',e3',z0,ze,zf,zg,zc,zb,za,Bool.not_true,Bool.not_false,beq_self_eq_true,bne_self_eq_false,Bool.false_eq_true]
      | true=>
       have e2':=e2
       have e3':=e2
       rw [xW] at e3'
       unfold eqD at e2' e3'
       simp -implicitDefEqProofs only [go_sem,e1',e2',e3',z0,ze,zf,zg,zc,zb,za,Bool.not_true,Bool.not_false,beq_self_eq_true,bne_self_eq_false,Bool.false_eq_true]
     ·have y1:((0:Int)==(N:Int))=false:=by rw [beq_eq_false_iff_ne];omega
      have y2:¬((N:Int)=0):=by omega
      simp -implicitDefEqProofs only [go_sem,e1',y1,y2,ze,zf,zg,zc,zb,za,Bool.not_true,Bool.not_false,beq_self_eq_true,bne_self_eq_false,Bool.false_eq_true]
   ·obtain ⟨M,rfl⟩:∃M:Nat,s=M:=⟨s.toNat,by omega⟩
    have hin:=zd3 h
    generalize hG:xF (M:Int) (N:Int)=G at *
    have z':((M:Int)==0)=false:=by rw [beq_eq_false_iff_ne];omega
    have q1:(M:Int)>0:=by omega
    rcases Nat.eq_or_lt_of_le (show M≤N by omega) with e | e
    ·subst e
     have q2:¬((M:Int)<M):=by omega
     simp -implicitDefEqProofs only [go_sem,q1,q2,z',ze,zf,zg,zc,zb,za,Bool.not_true,Bool.not_false,beq_self_eq_true,bne_self_eq_false]
     refine Want.intro hmg ?_
     simp -implicitDefEqProofs only [go_sem,ze,zf,zg,zc,zb,za,Bool.not_true,Bool.not_false,beq_self_eq_true,bne_self_eq_false]
     refine Want.intro hgl ?_
     cases e2:eqD root root' with
     | false=>
      have e2':=e2
      have e3':=e2
      rw [xW] at e3'
      unfold eqD at e2' e3'
      simp -implicitDefEqProofs only [go_sem,g,g',z,z',e2',e3',ze,zf,zg,zc,zb,za,Bool.not_true,Bool.not_false,beq_self_eq_true,bne_self_eq_false,Bool.false_eq_true]
     | true=>
      have e2':=e2
      have e3':=e2
      rw [xW] at e3'
      unfold eqD at e2' e3'
      simp -implicitDefEqProofs only [go_sem,g,g',z,z',e2',e3',ze,zf,zg,zc,zb,za,Bool.not_true,Bool.not_false,beq_self_eq_true,bne_self_eq_false,Bool.false_eq_true]
    ·have q2:(M:Int)<N:=by omega
     have q3:((M:Int)==N)=false:=by rw [beq_eq_false_iff_ne];omega
     have q4:¬((M:Int)=N):=by omega
     have hPg:P.length=(gA M N).length:=by have:=hin (by omega) e;omega
     have hp8:=zqE (M:=M) (by omega)
     have hpl:jf 9 M≤P.length:=by
      rw [hPg,zbi (by omega) e (by omega)]
      unfold gA
      rw [List.length_append]
      omega
     have hpl':(jf 9 M:Int)≤(P.length:Int):=by omega
     simp -implicitDefEqProofs only [go_sem,q1,q2,z',ze,zf,zg,zc,zb,za,Bool.not_true,Bool.not_false,beq_self_eq_true,bne_self_eq_false]
     refine Want.intro hmg ?_
     simp -implicitDefEqProofs only [go_sem,ze,zf,zg,zc,zb,za,Bool.not_true,Bool.not_false,beq_self_eq_true,bne_self_eq_false]
     refine Want.intro hgl ?_
     simp -implicitDefEqProofs only [go_sem,g,g',z,z',q3,q4,ze,zf,zg,zc,zb,za,Bool.not_true,Bool.not_false,beq_self_eq_true,bne_self_eq_false,Bool.false_eq_true]
     refine Want.intro (zsb M (by omega)) ?_
     simp -implicitDefEqProofs only [go_sem,hpl,hpl',Nat.sub_zero]
     refine Want.intro (zns (P.take (jf 9 M)) (by rw [List.length_take];omega)) ?_
     generalize xA (P.take (jf 9 M))=X
     cases e4:eqD X.dig root with
     | false=>
      have e4':=e4
      unfold eqD BD.dig at e4'
      simp -implicitDefEqProofs only [go_sem,e4',ze,zf,zg,zc,zb,za,Bool.not_true,Bool.not_false,beq_self_eq_true,bne_self_eq_false,Bool.false_eq_true]
     | true=>
      have e4':=e4
      unfold eqD BD.dig at e4'
      simp -implicitDefEqProofs only [go_sem,e4',q3,ze,zf,zg,zc,zb,za,Bool.not_true,Bool.not_false,beq_self_eq_true,bne_self_eq_false,Bool.false_eq_true]
      first
       | (refine WantM.intro (znq M N P (by omega) (by omega) hPg) ?_
          simp -implicitDefEqProofs only [go_sem]
          refine WantM.intro (znr P M N (by omega) e (by omega) hPg) ?_)
       | refine Want.intro (zrW P M N (by omega) e (by omega) hPg) ?_
      generalize jo (mD P M N) M N 0 N=Y
      cases e5:eqD Y.dig root' with
      | false=>
       have e5':=e5
       unfold eqD BD.dig at e5'
       simp -implicitDefEqProofs only [go_sem,e5',ze,zf,zg,zc,zb,za,Bool.not_true,Bool.not_false,beq_self_eq_true,bne_self_eq_false,Bool.false_eq_true]
      | true=>
       have e5':=e5
       unfold eqD BD.dig at e5'
       simp -implicitDefEqProofs only [go_sem,e5',ze,zf,zg,zc,zb,za,Bool.not_true,Bool.not_false,beq_self_eq_true,bne_self_eq_false,Bool.false_eq_true]
  ·have g':((P.length:Int) != xF s N)=true:=by rw [bne_iff_ne];exact g
   rw [if_neg g]
   generalize hG:xF s (N:Int)=G at *
   by_cases q1:s>0<;>by_cases q2:s<N<;>
   ·simp -implicitDefEqProofs only [go_sem,q1,q2,ze,zf,zg,zc,zb,za,Bool.not_true,Bool.not_false,beq_self_eq_true,bne_self_eq_false,Bool.false_eq_true]
    refine Want.intro hmg ?_
    simp -implicitDefEqProofs only [go_sem,ze,zf,zg,zc,zb,za,Bool.not_true,Bool.not_false,beq_self_eq_true,bne_self_eq_false]
    refine Want.intro hgl ?_
    simp -implicitDefEqProofs only [go_sem,g',ze,zf,zg,zc,zb,za,Bool.not_true,Bool.not_false,beq_self_eq_true,bne_self_eq_false]
theorem c14_c (o p:MPt) (P:List BD):CallR Tryz.prog 14 [.agg o.cs,.agg p.cs,.ro 4 (P.map BD.cs)] (vI (mGC o p P)) []:=by
 refine zl dcKC false Tryz.f14 ?_
 conv=>enter [1];reduce
 refine jvR Tryz.f14 57 [.tmp 6] (by kernel_rfl) (by decide +kernel) rfl ?_
 unfold mGC
 have hmg:=zpe o.size p.size
 try rw [wP] at hmg
 cases h:jq o.size p.size with
 | false=>
  rw [h] at hmg
  by_cases q1:o.size>0<;>by_cases q2:o.size<p.size<;>
  ·simp -implicitDefEqProofs only [go_sem,q1,q2,ze,zf,zg,zc,zb,za,Bool.not_true,Bool.not_false,beq_self_eq_true,bne_self_eq_false,Bool.false_eq_true]
   refine Want.intro hmg ?_
   simp -implicitDefEqProofs only [go_sem,ze,zf,zg,zc,zb,za,Bool.not_true,Bool.not_false,beq_self_eq_true,bne_self_eq_false]
 | true=>
  rw [h] at hmg
  obtain ⟨hn,hm⟩:=xK h
  obtain ⟨s,root⟩:=o
  obtain ⟨t,root'⟩:=p
  simp only at h hmg hn hm ⊢
  obtain ⟨N,rfl⟩:∃N:Nat,t=N:=⟨t.toNat,by omega⟩
  have hgl:=c57_c s (N:Int)
  by_cases g:(P.length:Int)=xF s N
  ·have g':((P.length:Int) != xF s N)=false:=by rw [bne_eq_false_iff_eq];exact g
   by_cases z:s=0
   ·subst z
    generalize hG:xF 0 (N:Int)=G at *
    have hHO:=zfp ⟨#[]⟩ (by decide)
    have eHO:zJ (⟨#[]⟩:ByteArray).data.toList=zJ []:=rfl
    rw [eHO] at hHO
    generalize zJ []=H at *
    have q1:¬((0:Int)>0):=by decide
    simp -implicitDefEqProofs only [go_sem,q1,ze,zf,zg,zc,zb,za,Bool.not_true,Bool.not_false,beq_self_eq_true,bne_self_eq_false]
    refine Want.intro hmg ?_
    simp -implicitDefEqProofs only [go_sem,ze,zf,zg,zc,zb,za,Bool.not_true,Bool.not_false,beq_self_eq_true,bne_self_eq_false]
    refine Want.intro hgl ?_
    simp -implicitDefEqProofs only [go_sem,g,g',ze,zf,zg,zc,zb,za,Bool.not_true,Bool.not_false,beq_self_eq_true,bne_self_eq_false]
    refine Want.intro hHO ?_
    cases e1:eqD root H.dig with
    | false=>
     have e1':=e1
     unfold eqD BD.dig at e1'
     simp -implicitDefEqProofs only [go_sem,e1',ze,zf,zg,zc,zb,za,Bool.not_true,Bool.not_false,beq_self_eq_true,bne_self_eq_false,Bool.false_eq_true]
    | true=>
     have e1':=e1
     unfold eqD BD.dig at e1'
     rcases Nat.eq_zero_or_pos N with y | y
     ·subst y
      cases e2:eqD root root' with
      | false=>
       have e2':=e2
       have e3':=e2
       rw [xW] at e3'
       unfold eqD at e2' e3'
       simp -implicitDefEqProofs only [go_sem,e1',e2',e3',z0,ze,zf,zg,zc,zb,za,Bool.not_true,Bool.not_false,beq_self_eq_true,bne_self_eq_false,Bool.false_eq_true]
      | true=>
       have e2':=e2
       have e3':=e2
       rw [xW] at e3'
       unfold eqD at e2' e3'
       simp -implicitDefEqProofs only [go_sem,e1',e2',e3',z0,ze,zf,zg,zc,zb,za,Bool.not_true,Bool.not_false,beq_self_eq_true,bne_self_eq_false,Bool.false_eq_true]
     ·have y1:((0:Int)==(N:Int))=false:=by rw [beq_eq_false_iff_ne];omega
      have y2:¬((N:Int)=0):=by omega
      simp -implicitDefEqProofs only [go_sem,e1',y1,y2,ze,zf,zg,zc,zb,za,Bool.not_true,Bool.not_false,beq_self_eq_true,bne_self_eq_false,Bool.false_eq_true]
   ·obtain ⟨M,rfl⟩:∃M:Nat,s=M:=⟨s.toNat,by omega⟩
    have hin:=zd3 h
    generalize hG:xF (M:Int) (N:Int)=G at *
    have z':((M:Int)==0)=false:=by rw [beq_eq_false_iff_ne];omega
    have q1:(M:Int)>0:=by omega
    rcases Nat.eq_or_lt_of_le (show M≤N by omega) with e | e
    ·subst e
     have q2:¬((M:Int)<M):=by omega
     simp -implicitDefEqProofs only [go_sem,q1,q2,z',ze,zf,zg,zc,zb,za,Bool.not_true,Bool.not_false,beq_self_eq_true,bne_self_eq_false]
     refine Want.intro hmg ?_
     simp -implicitDefEqProofs only [go_sem,ze,zf,zg,zc,zb,za,Bool.not_true,Bool.not_false,beq_self_eq_true,bne_self_eq_false]
     refine Want.intro hgl ?_
     cases e2:eqD root root' with
     | false=>
      have e2':=e2
      have e3':=e2
      rw [xW] at e3'
      unfold eqD at e2' e3'
      simp -implicitDefEqProofs only [go_sem,g,g',z,z',e2',e3',ze,zf,zg,zc,zb,za,Bool.not_true,Bool.not_false,beq_self_eq_true,bne_self_eq_false,Bool.false_eq_true]
     | true=>
      have e2':=e2
      have e3':=e2
      rw [xW] at e3'
      unfold eqD at e2' e3'
      simp -implicitDefEqProofs only [go_sem,g,g',z,z',e2',e3',ze,zf,zg,zc,zb,za,Bool.not_true,Bool.not_false,beq_self_eq_true,bne_self_eq_false,Bool.false_eq_true]
    ·have q2:(M:Int)<N:=by omega
     have q3:((M:Int)==N)=false:=by rw [beq_eq_false_iff_ne];omega
     have q4:¬((M:Int)=N):=by omega
     have hPg:P.length=(gA M N).length:=by have:=hin (by omega) e;omega
     have hp8:=zqE (M:=M) (by omega)
     have hpl:jf 9 M≤P.length:=by
      rw [hPg,zbi (by omega) e (by omega)]
      unfold gA
      rw [List.length_append]
      omega
     have hpl':(jf 9 M:Int)≤(P.length:Int):=by omega
     simp -implicitDefEqProofs only [go_sem,q1,q2,z',ze,zf,zg,zc,zb,za,Bool.not_true,Bool.not_false,beq_self_eq_true,bne_self_eq_false]
     refine Want.intro hmg ?_
     simp -implicitDefEqProofs only [go_sem,ze,zf,zg,zc,zb,za,Bool.not_true,Bool.not_false,beq_self_eq_true,bne_self_eq_false]
     refine Want.intro hgl ?_
     simp -implicitDefEqProofs only [go_sem,g,g',z,z',q3,q4,ze,zf,zg,zc,zb,za,Bool.not_true,Bool.not_false,beq_self_eq_true,bne_self_eq_false,Bool.false_eq_true]
     refine Want.intro (zpd M (by omega)) ?_
     simp -implicitDefEqProofs only [go_sem,hpl,hpl',Nat.sub_zero]
     refine Want.intro (c58_c (P.take (jf 9 M)) (by rw [List.length_take];omega)) ?_
     generalize xA (P.take (jf 9 M))=X
     cases e4:eqD X.dig root with
     | false=>
      have e4':=e4
      unfold eqD BD.dig at e4'
      simp -implicitDefEqProofs only [go_sem,e4',ze,zf,zg,zc,zb,za,Bool.not_true,Bool.not_false,beq_self_eq_true,bne_self_eq_false,Bool.false_eq_true]
     | true=>
      have e4':=e4
      unfold eqD BD.dig at e4'
      simp -implicitDefEqProofs only [go_sem,e4',q3,ze,zf,zg,zc,zb,za,Bool.not_true,Bool.not_false,beq_self_eq_true,bne_self_eq_false,Bool.false_eq_true]
      first
       | (refine WantM.intro (znq M N P (by omega) (by omega) hPg) ?_
          simp -implicitDefEqProofs only [go_sem]
          refine WantM.intro (znr P M N (by omega) e (by omega) hPg) ?_)
       | refine Want.intro (zrW P M N (by omega) e (by omega) hPg) ?_
      generalize jo (mD P M N) M N 0 N=Y
      cases e5:eqD Y.dig root' with
      | false=>
       have e5':=e5
       unfold eqD BD.dig at e5'
       simp -implicitDefEqProofs only [go_sem,e5',ze,zf,zg,zc,zb,za,Bool.not_true,Bool.not_false,beq_self_eq_true,bne_self_eq_false,Bool.false_eq_true]
      | true=>
       have e5':=e5
       unfold eqD BD.dig at e5'
       simp -implicitDefEqProofs only [go_sem,e5',ze,zf,zg,zc,zb,za,Bool.not_true,Bool.not_false,beq_self_eq_true,bne_self_eq_false,Bool.false_eq_true]
  ·have g':((P.length:Int) != xF s N)=true:=by rw [bne_iff_ne];exact g
   rw [if_neg g]
   generalize hG:xF s (N:Int)=G at *
   by_cases q1:s>0<;>by_cases q2:s<N<;>
   ·simp -implicitDefEqProofs only [go_sem,q1,q2,ze,zf,zg,zc,zb,za,Bool.not_true,Bool.not_false,beq_self_eq_true,bne_self_eq_false,Bool.false_eq_true]
    refine Want.intro hmg ?_
    simp -implicitDefEqProofs only [go_sem,ze,zf,zg,zc,zb,za,Bool.not_true,Bool.not_false,beq_self_eq_true,bne_self_eq_false]
    refine Want.intro hgl ?_
    simp -implicitDefEqProofs only [go_sem,g',ze,zf,zg,zc,zb,za,Bool.not_true,Bool.not_false,beq_self_eq_true,bne_self_eq_false]
end Go.Proofs.YtpjpkmhaffmbmaaGreat.E
