/- Contracts: clients that are ok, in the program. -/
import Derived.Test.YtobpfkgabdeefaaGreatQ11
namespace Go.Proofs.YtobpfkgabdeefaaGreat.E
open Go Go.RowKit
set_option maxHeartbeats 4000000
set_option maxRecDepth 10000
set_option linter.unusedSimpArgs false
set_option linter.unusedVariables false
set_option linter.unusedSectionVars false
def afe:cc:=⟨[],cw,cz,false⟩
theorem wi (c:bw) (hl:c.bj.length<=maxLen):ba Tryz.prog 157 [c.ro] (vB (dG c)) []:=by
 refine aF afe false Tryz.f157 ?_;conv=>enter[1];reduce
 refine bu Tryz.f157 120 [.tmp 2] (by kernel_rfl) (by decide +kernel) rfl ?_;by_cases hb:(aS c.many 1 7=true/\aS c.eH 1 c.many=true)
 ·obtain⟨h1,h2⟩:=hb;have k1:=cr.1 h1;have k2:=cr.1 h2;have w2:IntKind.i64.wrap (2 * c.eH)=2 * c.eH:=aN (by omega);have hAB:((c.aP.size==0)=false/\aS c.aP.size 1 256=true)\/(aS c.aP.size 1 256=false/\(c.aP.size==0)=true/\((c.aP.root.a:Int)==0)=true/\((c.aP.root.b:Int)==0)=true/\((c.aP.root.c:Int)==0)=true/\((c.aP.root.d:Int)==0)=true)\/lL c.aP=false:=by
   cases hp:lL c.aP with
   | false=>exact .inr (.inr rfl)
   | true=>
    cases hi:aS c.aP.size 1 256 with
    | true=>
     have:=cr.1 hi;exact .inl ⟨by rw[beq_eq_false_iff_ne];omega,rfl⟩
    | false=>
     simp only[lL,hi,Bool.false_or,eu,cg.zero,Bool.and_eq_true]at hp;exact .inr (.inl ⟨rfl,hp.1,hp.2.1,hp.2.2.1,hp.2.2.2.1,hp.2.2.2.2⟩)
  rcases hAB with ⟨f0,f1⟩|⟨f1,f0,f2,f3,f4,f5⟩|hp
  ·skip
   have hp:lL c.aP=true:=by simp[lL,f1]
   have wp:=(FV hp).1;by_cases fE:aS c.bU 0 1000000=true
   ·have es:(c.bU != 0)=decide (1<=c.bU):=by
     have:=cr.1 fE;rw[Bool.eq_iff_iff];simp only[bne_iff_ne,decide_eq_true_eq];omega
    have hs0:0<=c.bU:=(cr.1 fE).1;simp -implicitDefEqProofs only[go_sem]
    repeat' first|(refine aq.intro (by first|exact dQ _ _ _) ?_;try simp -implicitDefEqProofs only[go_sem,h1,h2,fE,es,wp,w2,f0,f1,bW,aV,aT,Bool.false_and,Bool.true_and])|(refine aE.intro (by first|exact dQ _ _ _) ?_;try simp -implicitDefEqProofs only[go_sem,h1,h2,fE,es,wp,w2,f0,f1,bW,aV,aT,Bool.false_and,Bool.true_and])|(refine fv (fun h=>?_) (fun h=>?_)<;>try simp -implicitDefEqProofs only[go_sem,h1,h2,fE,es,wp,w2,f0,f1,bW,aV,aT,Bool.false_and,Bool.true_and,h])|(refine bX (fun h=>?_) (fun h=>?_)<;>try simp -implicitDefEqProofs only[go_sem,h1,h2,fE,es,wp,w2,f0,f1,bW,aV,aT,Bool.false_and,Bool.true_and,h])
    all_goals try(show AV.sc _=_;simp_all[dG,eu,cg.zero];done)
    all_goals try(show AV.sc _=_;simp_all[dG,eu,cg.zero];omega)
    rename_i g1 g3 g4;have g5:=h;clear h;simp only[decide_eq_false_iff_not,beq_iff_eq]at g1 g5;have hE:=ok_two h1 h2 (by omega) fE hp g5;rw[hE];clear hE g1 g3 g4 g5 w2;refine dq (fun m s=>∃i:Nat,i<=c.bj.length/\m=c.bj.length - i/\(∀j,j<i->nQ c.many c.bj j=true)/\s=⟨120,[(1,.ptr 1 0 [] 15 0 0),(72,.ro 1 (c.bj.map dz)),(73,vI c.bj.length),(74,vI i)],[(1,0,one ⟨15,[c.cs (.ro 1 (c.bj.map dz))],0,false⟩)],1⟩) c.bj.length ?_ ?_
    ·refine au ?_;exact⟨0,aR _,rfl,fun j hj=>absurd hj (Nat.not_lt_zero _),rfl⟩
    rintro m s ⟨i,hi,rfl,gE,rfl⟩;rcases bp i c.bj.length with ab|bM
    ·have ah:(i:Int)<(c.bj.length:Int):=by omega
     have hg:c.bj[i]?=some c.bj[i]:=bm ab;have hw:=dx ab hl;have u5:nQ c.many c.bj i=true->∀j,j<i+1->nQ c.many c.bj j=true:=fun h j hj=>by
      rcases bp j i with iV|iV
      ·exact gE j iV
      rw[show j=i by omega];exact h
     cases i with
     | zero=>
      have e0:=DQ (many:=c.many) ab;have z0:¬(((0:Nat):Int)>0):=by omega
      simp -implicitDefEqProofs only[go_sem,ah,hg]
      repeat' first|(refine aq.intro (by first|exact dQ _ _ _) ?_;try simp -implicitDefEqProofs only[go_sem,ah,hg,hw,z0,aT,aV,bW])|(refine aE.intro (by first|exact dQ _ _ _) ?_;try simp -implicitDefEqProofs only[go_sem,ah,hg,hw,z0,aT,aV,bW])|(refine fv (fun h=>?_) (fun h=>?_)<;>try simp -implicitDefEqProofs only[go_sem,ah,hg,hw,z0,aT,aV,bW,h])|(refine bX (fun h=>?_) (fun h=>?_)<;>try simp -implicitDefEqProofs only[go_sem,ah,hg,hw,z0,aT,aV,bW,h])
      all_goals first
       | (rw[Ax ab (by rw[e0];simp_all;try omega)];simp;done)
       | exact⟨_,by omega,_,ab,rfl,u5 (by rw[e0];simp_all;try omega),rfl⟩
     | succ i=>
      have e0:=Az (many:=c.many) ab;have z0:((i+1:Nat):Int)>0:=by omega
      have jb:c.bj[i]?=some c.bj[i]:=bm (by omega);have w1:IntKind.i64.wrap (((i+1:Nat):Int) - 1)=(i:Int):=by unfold maxLen at hl;rw[aN (by omega)];omega
      have kH:(i:Int)<(c.bj.length:Int):=by omega
      simp -implicitDefEqProofs only[go_sem,ah,hg]
      repeat' first|(refine aq.intro (by first|exact dQ _ _ _) ?_;try simp -implicitDefEqProofs only[go_sem,ah,hg,jb,kH,hw,w1,z0,aT,aV,bW])|(refine aE.intro (by first|exact dQ _ _ _) ?_;try simp -implicitDefEqProofs only[go_sem,ah,hg,jb,kH,hw,w1,z0,aT,aV,bW])|(refine fv (fun h=>?_) (fun h=>?_)<;>try simp -implicitDefEqProofs only[go_sem,ah,hg,jb,kH,hw,w1,z0,aT,aV,bW,h])|(refine bX (fun h=>?_) (fun h=>?_)<;>try simp -implicitDefEqProofs only[go_sem,ah,hg,jb,kH,hw,w1,z0,aT,aV,bW,h])
      all_goals first
       | (rw[Ax ab (by rw[e0];simp_all;try omega)];simp;done)
       | exact⟨_,by omega,_,ab,rfl,u5 (by rw[e0];simp_all;try omega),rfl⟩
    have hi:i=c.bj.length:=by omega
    subst hi;have ah:¬((c.bj.length:Int)<(c.bj.length:Int)):=by omega
    have hA:=Ay.2 gE;simp -implicitDefEqProofs only[go_sem,ah]
    repeat' first|(refine aq.intro (by first|exact dQ _ _ _) ?_;try simp -implicitDefEqProofs only[go_sem,wp,aT,aV,bW])|(refine aE.intro (by first|exact dQ _ _ _) ?_;try simp -implicitDefEqProofs only[go_sem,wp,aT,aV,bW])|(refine fv (fun h=>?_) (fun h=>?_)<;>try simp -implicitDefEqProofs only[go_sem,wp,aT,aV,bW,h])|(refine bX (fun h=>?_) (fun h=>?_)<;>try simp -implicitDefEqProofs only[go_sem,wp,aT,aV,bW,h])
    all_goals simp_all
   have hz:dG c=false:=by
    cases h:dG c with
    | false=>rfl
    | true=>
     simp only[dG,Bool.and_eq_true]at h;exact absurd h.2.2.2.1 fE
   rw[hz];simp -implicitDefEqProofs only[go_sem]
   repeat' first|(refine aq.intro (by first|exact dQ _ _ _) ?_;try simp -implicitDefEqProofs only[go_sem,h1,h2,fE,w2,bW,aV,aT])|(refine aE.intro (by first|exact dQ _ _ _) ?_;try simp -implicitDefEqProofs only[go_sem,h1,h2,fE,w2,bW,aV,aT])|(refine fv (fun h=>?_) (fun h=>?_)<;>try simp -implicitDefEqProofs only[go_sem,h1,h2,fE,w2,bW,aV,aT,h])|(refine bX (fun h=>?_) (fun h=>?_)<;>try simp -implicitDefEqProofs only[go_sem,h1,h2,fE,w2,bW,aV,aT,h])
   all_goals simp_all
  ·skip
   have hp:lL c.aP=true:=by simp[lL,eu,cg.zero,f0,f2,f3,f4,f5]
   have wp:=(FV hp).1;by_cases fE:aS c.bU 0 1000000=true
   ·have es:(c.bU != 0)=decide (1<=c.bU):=by
     have:=cr.1 fE;rw[Bool.eq_iff_iff];simp only[bne_iff_ne,decide_eq_true_eq];omega
    have hs0:0<=c.bU:=(cr.1 fE).1;simp -implicitDefEqProofs only[go_sem]
    repeat' first|(refine aq.intro (by first|exact dQ _ _ _) ?_;try simp -implicitDefEqProofs only[go_sem,h1,h2,fE,es,wp,w2,f0,f1,f2,f3,f4,f5,bW,aV,aT,Bool.false_and,Bool.true_and])|(refine aE.intro (by first|exact dQ _ _ _) ?_;try simp -implicitDefEqProofs only[go_sem,h1,h2,fE,es,wp,w2,f0,f1,f2,f3,f4,f5,bW,aV,aT,Bool.false_and,Bool.true_and])|(refine fv (fun h=>?_) (fun h=>?_)<;>try simp -implicitDefEqProofs only[go_sem,h1,h2,fE,es,wp,w2,f0,f1,f2,f3,f4,f5,bW,aV,aT,Bool.false_and,Bool.true_and,h])|(refine bX (fun h=>?_) (fun h=>?_)<;>try simp -implicitDefEqProofs only[go_sem,h1,h2,fE,es,wp,w2,f0,f1,f2,f3,f4,f5,bW,aV,aT,Bool.false_and,Bool.true_and,h])
    all_goals try(show AV.sc _=_;simp_all[dG,eu,cg.zero];done)
    all_goals try(show AV.sc _=_;simp_all[dG,eu,cg.zero];omega)
    rename_i g1 g3 g4;have g5:=h;clear h;simp only[decide_eq_false_iff_not,beq_iff_eq]at g1 g5;have hE:=ok_two h1 h2 (by omega) fE hp g5;rw[hE];clear hE g1 g3 g4 g5 w2;refine dq (fun m s=>∃i:Nat,i<=c.bj.length/\m=c.bj.length - i/\(∀j,j<i->nQ c.many c.bj j=true)/\s=⟨120,[(1,.ptr 1 0 [] 15 0 0),(72,.ro 1 (c.bj.map dz)),(73,vI c.bj.length),(74,vI i)],[(1,0,one ⟨15,[c.cs (.ro 1 (c.bj.map dz))],0,false⟩)],1⟩) c.bj.length ?_ ?_
    ·refine au ?_;exact⟨0,aR _,rfl,fun j hj=>absurd hj (Nat.not_lt_zero _),rfl⟩
    rintro m s ⟨i,hi,rfl,gE,rfl⟩;rcases bp i c.bj.length with ab|bM
    ·have ah:(i:Int)<(c.bj.length:Int):=by omega
     have hg:c.bj[i]?=some c.bj[i]:=bm ab;have hw:=dx ab hl;have u5:nQ c.many c.bj i=true->∀j,j<i+1->nQ c.many c.bj j=true:=fun h j hj=>by
      rcases bp j i with iV|iV
      ·exact gE j iV
      rw[show j=i by omega];exact h
     cases i with
     | zero=>
      have e0:=DQ (many:=c.many) ab;have z0:¬(((0:Nat):Int)>0):=by omega
      simp -implicitDefEqProofs only[go_sem,ah,hg]
      repeat' first|(refine aq.intro (by first|exact dQ _ _ _) ?_;try simp -implicitDefEqProofs only[go_sem,ah,hg,hw,z0,aT,aV,bW])|(refine aE.intro (by first|exact dQ _ _ _) ?_;try simp -implicitDefEqProofs only[go_sem,ah,hg,hw,z0,aT,aV,bW])|(refine fv (fun h=>?_) (fun h=>?_)<;>try simp -implicitDefEqProofs only[go_sem,ah,hg,hw,z0,aT,aV,bW,h])|(refine bX (fun h=>?_) (fun h=>?_)<;>try simp -implicitDefEqProofs only[go_sem,ah,hg,hw,z0,aT,aV,bW,h])
      all_goals first
       | (rw[Ax ab (by rw[e0];simp_all;try omega)];simp;done)
       | exact⟨_,by omega,_,ab,rfl,u5 (by rw[e0];simp_all;try omega),rfl⟩
     | succ i=>
      have e0:=Az (many:=c.many) ab;have z0:((i+1:Nat):Int)>0:=by omega
      have jb:c.bj[i]?=some c.bj[i]:=bm (by omega);have w1:IntKind.i64.wrap (((i+1:Nat):Int) - 1)=(i:Int):=by unfold maxLen at hl;rw[aN (by omega)];omega
      have kH:(i:Int)<(c.bj.length:Int):=by omega
      simp -implicitDefEqProofs only[go_sem,ah,hg]
      repeat' first|(refine aq.intro (by first|exact dQ _ _ _) ?_;try simp -implicitDefEqProofs only[go_sem,ah,hg,jb,kH,hw,w1,z0,aT,aV,bW])|(refine aE.intro (by first|exact dQ _ _ _) ?_;try simp -implicitDefEqProofs only[go_sem,ah,hg,jb,kH,hw,w1,z0,aT,aV,bW])|(refine fv (fun h=>?_) (fun h=>?_)<;>try simp -implicitDefEqProofs only[go_sem,ah,hg,jb,kH,hw,w1,z0,aT,aV,bW,h])|(refine bX (fun h=>?_) (fun h=>?_)<;>try simp -implicitDefEqProofs only[go_sem,ah,hg,jb,kH,hw,w1,z0,aT,aV,bW,h])
      all_goals first
       | (rw[Ax ab (by rw[e0];simp_all;try omega)];simp;done)
       | exact⟨_,by omega,_,ab,rfl,u5 (by rw[e0];simp_all;try omega),rfl⟩
    have hi:i=c.bj.length:=by omega
    subst hi;have ah:¬((c.bj.length:Int)<(c.bj.length:Int)):=by omega
    have hA:=Ay.2 gE;simp -implicitDefEqProofs only[go_sem,ah]
    repeat' first|(refine aq.intro (by first|exact dQ _ _ _) ?_;try simp -implicitDefEqProofs only[go_sem,wp,aT,aV,bW])|(refine aE.intro (by first|exact dQ _ _ _) ?_;try simp -implicitDefEqProofs only[go_sem,wp,aT,aV,bW])|(refine fv (fun h=>?_) (fun h=>?_)<;>try simp -implicitDefEqProofs only[go_sem,wp,aT,aV,bW,h])|(refine bX (fun h=>?_) (fun h=>?_)<;>try simp -implicitDefEqProofs only[go_sem,wp,aT,aV,bW,h])
    all_goals simp_all
   have hz:dG c=false:=by
    cases h:dG c with
    | false=>rfl
    | true=>
     simp only[dG,Bool.and_eq_true]at h;exact absurd h.2.2.2.1 fE
   rw[hz];simp -implicitDefEqProofs only[go_sem]
   repeat' first|(refine aq.intro (by first|exact dQ _ _ _) ?_;try simp -implicitDefEqProofs only[go_sem,h1,h2,fE,w2,bW,aV,aT])|(refine aE.intro (by first|exact dQ _ _ _) ?_;try simp -implicitDefEqProofs only[go_sem,h1,h2,fE,w2,bW,aV,aT])|(refine fv (fun h=>?_) (fun h=>?_)<;>try simp -implicitDefEqProofs only[go_sem,h1,h2,fE,w2,bW,aV,aT,h])|(refine bX (fun h=>?_) (fun h=>?_)<;>try simp -implicitDefEqProofs only[go_sem,h1,h2,fE,w2,bW,aV,aT,h])
   all_goals simp_all
  rw[Ft (fun h=>by rw[hp]at h;cases h.2)];obtain⟨f1,f0⟩:=Bool.or_eq_false_iff.1 (show(aS c.aP.size 1 256||eu c.aP .zero)=false from hp);have f0:(c.aP.size==0&&(((c.aP.root.a:Int)==0)&&(((c.aP.root.b:Int)==0)&&(((c.aP.root.c:Int)==0)&&((c.aP.root.d:Int)==0)))))=false:=f0;simp -implicitDefEqProofs only[go_sem]
  repeat' first|(refine aq.intro (by first|exact dQ _ _ _) ?_;try simp -implicitDefEqProofs only[go_sem,h1,h2,w2,f0,f1,bW,eC,aV,aT])|(refine aE.intro (by first|exact dQ _ _ _) ?_;try simp -implicitDefEqProofs only[go_sem,h1,h2,w2,f0,f1,bW,eC,aV,aT])|(refine fv (fun h=>?_) (fun h=>?_)<;>try simp -implicitDefEqProofs only[go_sem,h1,h2,w2,f0,f1,bW,eC,aV,aT,h])|(refine bX (fun h=>?_) (fun h=>?_)<;>try simp -implicitDefEqProofs only[go_sem,h1,h2,w2,f0,f1,bW,eC,aV,aT,h])
  all_goals rfl
 rw[Ft (fun h=>hb h.1)];simp -implicitDefEqProofs only[go_sem]
 repeat' first|(refine aq.intro (by first|exact dQ _ _ _) ?_;try simp -implicitDefEqProofs only[go_sem,aT,aV])|(refine aE.intro (by first|exact dQ _ _ _) ?_;try simp -implicitDefEqProofs only[go_sem,aT,aV])|(refine fv (fun h=>?_) (fun h=>?_)<;>try simp -implicitDefEqProofs only[go_sem,aT,aV,h])|(refine bX (fun h=>?_) (fun h=>?_)<;>try simp -implicitDefEqProofs only[go_sem,aT,aV,h])
 all_goals simp_all
end Go.Proofs.YtobpfkgabdeefaaGreat.E
