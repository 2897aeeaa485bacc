/- Contracts: clients that are ok, in the program. -/
import Derived.Test.YtobpfkgabdeefaaGreatP11
namespace Go.Proofs.YtobpfkgabdeefaaGreat.E
open Go Go.RowKit
set_option maxHeartbeats 4000000
set_option maxRecDepth 10000
set_option linter.unusedSimpArgs false
set_option linter.unusedVariables false
set_option linter.unusedSectionVars false
def aeX:bX:=⟨[],[9,10,11],[24,26,30,44,47,50,51,52,57,58,59,62,76,88,138,185,186,187,253,254,297,311],false⟩
theorem vV (c:bu) (hl:c.bt.length≤maxLen):aR Tryz.prog 157 [c.ro] (vB (dC c)) []:=by
 refine aA aeX false Tryz.f157 ?_;conv=>enter[1];reduce
 refine bf Tryz.f157 120 [.tmp 2] (by kernel_rfl) (by decide +kernel) rfl ?_;by_cases hb:(aT c.many 1 7=true∧aT c.eK 1 c.many=true)
 ·obtain⟨h1,h2⟩:=hb;have k1:=cf.1 h1;have k2:=cf.1 h2;have w2:IntKind.i64.wrap (2 * c.eK)=2 * c.eK:=aV (by omega);have hAB:((c.aP.size==0)=false∧aT c.aP.size 1 256=true)∨(aT c.aP.size 1 256=false∧(c.aP.size==0)=true∧((c.aP.root.a:Int)==0)=true∧((c.aP.root.b:Int)==0)=true∧((c.aP.root.c:Int)==0)=true∧((c.aP.root.d:Int)==0)=true)∨lA c.aP=false:=by
   cases hp:lA c.aP with
   | false=>exact .inr (.inr rfl)
   | true=>
    cases hi:aT c.aP.size 1 256 with
    | true=>
     have:=cf.1 hi;exact .inl ⟨by rw[beq_eq_false_iff_ne];omega,rfl⟩
    | false=>
     simp only[lA,hi,Bool.false_or,ed,bh.zero,Bool.and_eq_true]at hp;exact .inr (.inl ⟨rfl,hp.1,hp.2.1,hp.2.2.1,hp.2.2.2.1,hp.2.2.2.2⟩)
  rcases hAB with ⟨f0,f1⟩|⟨f1,f0,f2,f3,f4,f5⟩|hp
  ·skip
   have hp:lA c.aP=true:=by simp[lA,f1]
   have wp:=(FW hp).1;by_cases fm:aT c.bR 0 1000000=true
   ·have es:(c.bR != 0)=decide (1≤c.bR):=by
     have:=cf.1 fm;rw[Bool.eq_iff_iff];simp only[bne_iff_ne,decide_eq_true_eq];omega
    have hs0:0≤c.bR:=(cf.1 fm).1;simp -implicitDefEqProofs only[go_sem]
    repeat' first|(refine aq.intro (by first|exact dG _ _ _) ?_;try simp -implicitDefEqProofs only[go_sem,h1,h2,fm,es,wp,w2,f0,f1,bU,aY,aZ,Bool.false_and,Bool.true_and])|(refine aD.intro (by first|exact dG _ _ _) ?_;try simp -implicitDefEqProofs only[go_sem,h1,h2,fm,es,wp,w2,f0,f1,bU,aY,aZ,Bool.false_and,Bool.true_and])|(refine ew (fun h=>?_) (fun h=>?_)<;>try simp -implicitDefEqProofs only[go_sem,h1,h2,fm,es,wp,w2,f0,f1,bU,aY,aZ,Bool.false_and,Bool.true_and,h])|(refine b8 (fun h=>?_) (fun h=>?_)<;>try simp -implicitDefEqProofs only[go_sem,h1,h2,fm,es,wp,w2,f0,f1,bU,aY,aZ,Bool.false_and,Bool.true_and,h])
    all_goals try(show AV.sc _=_;simp_all[dC,ed,bh.zero];done)
    all_goals try(show AV.sc _=_;simp_all[dC,ed,bh.zero];omega)
    rename_i g1 g3 g4;have g5:=h;clear h;simp only[decide_eq_false_iff_not,beq_iff_eq]at g1 g5;have hE:=ok_two h1 h2 (by omega) fm hp g5;rw[hE];clear hE g1 g3 g4 g5 w2;refine cR (fun m s=>∃i:Nat,i≤c.bt.length∧m=c.bt.length - i∧(∀j,j<i→nq c.many c.bt j=true)∧s=⟨120,[(1,.ptr 1 0 [] 15 0 0),(72,.ro 1 (c.bt.map dv)),(73,vI c.bt.length),(74,vI i)],[(1,0,one ⟨15,[c.cs (.ro 1 (c.bt.map dv))],0,false⟩)],1⟩) c.bt.length ?_ ?_
    ·refine aw ?_;exact⟨0,aQ _,rfl,fun j hj=>absurd hj (Nat.not_lt_zero _),rfl⟩
    rintro m s ⟨i,hi,rfl,gh,rfl⟩;rcases bm i c.bt.length with ab|bH
    ·have ae:(i:Int)<(c.bt.length:Int):=by omega
     have hg:c.bt[i]?=some c.bt[i]:=bz ab;have hw:=df ab hl;have uU:nq c.many c.bt i=true→∀j,j<i+1→nq c.many c.bt j=true:=fun h j hj=>by
      rcases bm j i with iH|iH
      ·exact gh j iH
      rw[show j=i by omega];exact h
     cases i with
     | zero=>
      have e0:=DV (many:=c.many) ab;have z0:¬(((0:Nat):Int)>0):=by omega
      simp -implicitDefEqProofs only[go_sem,ae,hg]
      repeat' first|(refine aq.intro (by first|exact dG _ _ _) ?_;try simp -implicitDefEqProofs only[go_sem,ae,hg,hw,z0,aZ,aY,bU])|(refine aD.intro (by first|exact dG _ _ _) ?_;try simp -implicitDefEqProofs only[go_sem,ae,hg,hw,z0,aZ,aY,bU])|(refine ew (fun h=>?_) (fun h=>?_)<;>try simp -implicitDefEqProofs only[go_sem,ae,hg,hw,z0,aZ,aY,bU,h])|(refine b8 (fun h=>?_) (fun h=>?_)<;>try simp -implicitDefEqProofs only[go_sem,ae,hg,hw,z0,aZ,aY,bU,h])
      all_goals first
       | (rw[AD ab (by rw[e0];simp_all;try omega)];simp;done)
       | exact⟨_,by omega,_,ab,rfl,uU (by rw[e0];simp_all;try omega),rfl⟩
       | trace_state
     | succ i=>
      have e0:=AF (many:=c.many) ab;have z0:((i+1:Nat):Int)>0:=by omega
      have iP:c.bt[i]?=some c.bt[i]:=bz (by omega);have w1:IntKind.i64.wrap (((i+1:Nat):Int) - 1)=(i:Int):=by unfold maxLen at hl;rw[aV (by omega)];omega
      have kv:(i:Int)<(c.bt.length:Int):=by omega
      simp -implicitDefEqProofs only[go_sem,ae,hg]
      repeat' first|(refine aq.intro (by first|exact dG _ _ _) ?_;try simp -implicitDefEqProofs only[go_sem,ae,hg,iP,kv,hw,w1,z0,aZ,aY,bU])|(refine aD.intro (by first|exact dG _ _ _) ?_;try simp -implicitDefEqProofs only[go_sem,ae,hg,iP,kv,hw,w1,z0,aZ,aY,bU])|(refine ew (fun h=>?_) (fun h=>?_)<;>try simp -implicitDefEqProofs only[go_sem,ae,hg,iP,kv,hw,w1,z0,aZ,aY,bU,h])|(refine b8 (fun h=>?_) (fun h=>?_)<;>try simp -implicitDefEqProofs only[go_sem,ae,hg,iP,kv,hw,w1,z0,aZ,aY,bU,h])
      all_goals first
       | (rw[AD ab (by rw[e0];simp_all;try omega)];simp;done)
       | exact⟨_,by omega,_,ab,rfl,uU (by rw[e0];simp_all;try omega),rfl⟩
       | trace_state
    have hi:i=c.bt.length:=by omega
    subst hi;have ae:¬((c.bt.length:Int)<(c.bt.length:Int)):=by omega
    have hA:=AE.2 gh;simp -implicitDefEqProofs only[go_sem,ae]
    repeat' first|(refine aq.intro (by first|exact dG _ _ _) ?_;try simp -implicitDefEqProofs only[go_sem,wp,aZ,aY,bU])|(refine aD.intro (by first|exact dG _ _ _) ?_;try simp -implicitDefEqProofs only[go_sem,wp,aZ,aY,bU])|(refine ew (fun h=>?_) (fun h=>?_)<;>try simp -implicitDefEqProofs only[go_sem,wp,aZ,aY,bU,h])|(refine b8 (fun h=>?_) (fun h=>?_)<;>try simp -implicitDefEqProofs only[go_sem,wp,aZ,aY,bU,h])
    all_goals simp_all
   have hz:dC c=false:=by
    cases h:dC c with
    | false=>rfl
    | true=>
     simp only[dC,Bool.and_eq_true]at h;exact absurd h.2.2.2.1 fm
   rw[hz];simp -implicitDefEqProofs only[go_sem]
   repeat' first|(refine aq.intro (by first|exact dG _ _ _) ?_;try simp -implicitDefEqProofs only[go_sem,h1,h2,fm,w2,bU,aY,aZ])|(refine aD.intro (by first|exact dG _ _ _) ?_;try simp -implicitDefEqProofs only[go_sem,h1,h2,fm,w2,bU,aY,aZ])|(refine ew (fun h=>?_) (fun h=>?_)<;>try simp -implicitDefEqProofs only[go_sem,h1,h2,fm,w2,bU,aY,aZ,h])|(refine b8 (fun h=>?_) (fun h=>?_)<;>try simp -implicitDefEqProofs only[go_sem,h1,h2,fm,w2,bU,aY,aZ,h])
   all_goals simp_all
  ·skip
   have hp:lA c.aP=true:=by simp[lA,ed,bh.zero,f0,f2,f3,f4,f5]
   have wp:=(FW hp).1;by_cases fm:aT c.bR 0 1000000=true
   ·have es:(c.bR != 0)=decide (1≤c.bR):=by
     have:=cf.1 fm;rw[Bool.eq_iff_iff];simp only[bne_iff_ne,decide_eq_true_eq];omega
    have hs0:0≤c.bR:=(cf.1 fm).1;simp -implicitDefEqProofs only[go_sem]
    repeat' first|(refine aq.intro (by first|exact dG _ _ _) ?_;try simp -implicitDefEqProofs only[go_sem,h1,h2,fm,es,wp,w2,f0,f1,f2,f3,f4,f5,bU,aY,aZ,Bool.false_and,Bool.true_and])|(refine aD.intro (by first|exact dG _ _ _) ?_;try simp -implicitDefEqProofs only[go_sem,h1,h2,fm,es,wp,w2,f0,f1,f2,f3,f4,f5,bU,aY,aZ,Bool.false_and,Bool.true_and])|(refine ew (fun h=>?_) (fun h=>?_)<;>try simp -implicitDefEqProofs only[go_sem,h1,h2,fm,es,wp,w2,f0,f1,f2,f3,f4,f5,bU,aY,aZ,Bool.false_and,Bool.true_and,h])|(refine b8 (fun h=>?_) (fun h=>?_)<;>try simp -implicitDefEqProofs only[go_sem,h1,h2,fm,es,wp,w2,f0,f1,f2,f3,f4,f5,bU,aY,aZ,Bool.false_and,Bool.true_and,h])
    all_goals try(show AV.sc _=_;simp_all[dC,ed,bh.zero];done)
    all_goals try(show AV.sc _=_;simp_all[dC,ed,bh.zero];omega)
    rename_i g1 g3 g4;have g5:=h;clear h;simp only[decide_eq_false_iff_not,beq_iff_eq]at g1 g5;have hE:=ok_two h1 h2 (by omega) fm hp g5;rw[hE];clear hE g1 g3 g4 g5 w2;refine cR (fun m s=>∃i:Nat,i≤c.bt.length∧m=c.bt.length - i∧(∀j,j<i→nq c.many c.bt j=true)∧s=⟨120,[(1,.ptr 1 0 [] 15 0 0),(72,.ro 1 (c.bt.map dv)),(73,vI c.bt.length),(74,vI i)],[(1,0,one ⟨15,[c.cs (.ro 1 (c.bt.map dv))],0,false⟩)],1⟩) c.bt.length ?_ ?_
    ·refine aw ?_;exact⟨0,aQ _,rfl,fun j hj=>absurd hj (Nat.not_lt_zero _),rfl⟩
    rintro m s ⟨i,hi,rfl,gh,rfl⟩;rcases bm i c.bt.length with ab|bH
    ·have ae:(i:Int)<(c.bt.length:Int):=by omega
     have hg:c.bt[i]?=some c.bt[i]:=bz ab;have hw:=df ab hl;have uU:nq c.many c.bt i=true→∀j,j<i+1→nq c.many c.bt j=true:=fun h j hj=>by
      rcases bm j i with iH|iH
      ·exact gh j iH
      rw[show j=i by omega];exact h
     cases i with
     | zero=>
      have e0:=DV (many:=c.many) ab;have z0:¬(((0:Nat):Int)>0):=by omega
      simp -implicitDefEqProofs only[go_sem,ae,hg]
      repeat' first|(refine aq.intro (by first|exact dG _ _ _) ?_;try simp -implicitDefEqProofs only[go_sem,ae,hg,hw,z0,aZ,aY,bU])|(refine aD.intro (by first|exact dG _ _ _) ?_;try simp -implicitDefEqProofs only[go_sem,ae,hg,hw,z0,aZ,aY,bU])|(refine ew (fun h=>?_) (fun h=>?_)<;>try simp -implicitDefEqProofs only[go_sem,ae,hg,hw,z0,aZ,aY,bU,h])|(refine b8 (fun h=>?_) (fun h=>?_)<;>try simp -implicitDefEqProofs only[go_sem,ae,hg,hw,z0,aZ,aY,bU,h])
      all_goals first
       | (rw[AD ab (by rw[e0];simp_all;try omega)];simp;done)
       | exact⟨_,by omega,_,ab,rfl,uU (by rw[e0];simp_all;try omega),rfl⟩
       | trace_state
     | succ i=>
      have e0:=AF (many:=c.many) ab;have z0:((i+1:Nat):Int)>0:=by omega
      have iP:c.bt[i]?=some c.bt[i]:=bz (by omega);have w1:IntKind.i64.wrap (((i+1:Nat):Int) - 1)=(i:Int):=by unfold maxLen at hl;rw[aV (by omega)];omega
      have kv:(i:Int)<(c.bt.length:Int):=by omega
      simp -implicitDefEqProofs only[go_sem,ae,hg]
      repeat' first|(refine aq.intro (by first|exact dG _ _ _) ?_;try simp -implicitDefEqProofs only[go_sem,ae,hg,iP,kv,hw,w1,z0,aZ,aY,bU])|(refine aD.intro (by first|exact dG _ _ _) ?_;try simp -implicitDefEqProofs only[go_sem,ae,hg,iP,kv,hw,w1,z0,aZ,aY,bU])|(refine ew (fun h=>?_) (fun h=>?_)<;>try simp -implicitDefEqProofs only[go_sem,ae,hg,iP,kv,hw,w1,z0,aZ,aY,bU,h])|(refine b8 (fun h=>?_) (fun h=>?_)<;>try simp -implicitDefEqProofs only[go_sem,ae,hg,iP,kv,hw,w1,z0,aZ,aY,bU,h])
      all_goals first
       | (rw[AD ab (by rw[e0];simp_all;try omega)];simp;done)
       | exact⟨_,by omega,_,ab,rfl,uU (by rw[e0];simp_all;try omega),rfl⟩
       | trace_state
    have hi:i=c.bt.length:=by omega
    subst hi;have ae:¬((c.bt.length:Int)<(c.bt.length:Int)):=by omega
    have hA:=AE.2 gh;simp -implicitDefEqProofs only[go_sem,ae]
    repeat' first|(refine aq.intro (by first|exact dG _ _ _) ?_;try simp -implicitDefEqProofs only[go_sem,wp,aZ,aY,bU])|(refine aD.intro (by first|exact dG _ _ _) ?_;try simp -implicitDefEqProofs only[go_sem,wp,aZ,aY,bU])|(refine ew (fun h=>?_) (fun h=>?_)<;>try simp -implicitDefEqProofs only[go_sem,wp,aZ,aY,bU,h])|(refine b8 (fun h=>?_) (fun h=>?_)<;>try simp -implicitDefEqProofs only[go_sem,wp,aZ,aY,bU,h])
    all_goals simp_all
   have hz:dC c=false:=by
    cases h:dC c with
    | false=>rfl
    | true=>
     simp only[dC,Bool.and_eq_true]at h;exact absurd h.2.2.2.1 fm
   rw[hz];simp -implicitDefEqProofs only[go_sem]
   repeat' first|(refine aq.intro (by first|exact dG _ _ _) ?_;try simp -implicitDefEqProofs only[go_sem,h1,h2,fm,w2,bU,aY,aZ])|(refine aD.intro (by first|exact dG _ _ _) ?_;try simp -implicitDefEqProofs only[go_sem,h1,h2,fm,w2,bU,aY,aZ])|(refine ew (fun h=>?_) (fun h=>?_)<;>try simp -implicitDefEqProofs only[go_sem,h1,h2,fm,w2,bU,aY,aZ,h])|(refine b8 (fun h=>?_) (fun h=>?_)<;>try simp -implicitDefEqProofs only[go_sem,h1,h2,fm,w2,bU,aY,aZ,h])
   all_goals simp_all
  rw[Fs (fun h=>by rw[hp]at h;cases h.2)];obtain⟨f1,f0⟩:=Bool.or_eq_false_iff.1 (show(aT c.aP.size 1 256||ed c.aP .zero)=false from hp);have f0:(c.aP.size==0&&(((c.aP.root.a:Int)==0)&&(((c.aP.root.b:Int)==0)&&(((c.aP.root.c:Int)==0)&&((c.aP.root.d:Int)==0)))))=false:=f0;simp -implicitDefEqProofs only[go_sem]
  repeat' first|(refine aq.intro (by first|exact dG _ _ _) ?_;try simp -implicitDefEqProofs only[go_sem,h1,h2,w2,f0,f1,bU,ek,aY,aZ])|(refine aD.intro (by first|exact dG _ _ _) ?_;try simp -implicitDefEqProofs only[go_sem,h1,h2,w2,f0,f1,bU,ek,aY,aZ])|(refine ew (fun h=>?_) (fun h=>?_)<;>try simp -implicitDefEqProofs only[go_sem,h1,h2,w2,f0,f1,bU,ek,aY,aZ,h])|(refine b8 (fun h=>?_) (fun h=>?_)<;>try simp -implicitDefEqProofs only[go_sem,h1,h2,w2,f0,f1,bU,ek,aY,aZ,h])
  all_goals rfl
 rw[Fs (fun h=>hb h.1)];simp -implicitDefEqProofs only[go_sem]
 repeat' first|(refine aq.intro (by first|exact dG _ _ _) ?_;try simp -implicitDefEqProofs only[go_sem,aZ,aY])|(refine aD.intro (by first|exact dG _ _ _) ?_;try simp -implicitDefEqProofs only[go_sem,aZ,aY])|(refine ew (fun h=>?_) (fun h=>?_)<;>try simp -implicitDefEqProofs only[go_sem,aZ,aY,h])|(refine b8 (fun h=>?_) (fun h=>?_)<;>try simp -implicitDefEqProofs only[go_sem,aZ,aY,h])
 all_goals simp_all
end Go.Proofs.YtobpfkgabdeefaaGreat.E
