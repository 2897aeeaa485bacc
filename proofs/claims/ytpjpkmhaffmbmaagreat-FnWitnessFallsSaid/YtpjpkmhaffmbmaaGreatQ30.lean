/- The law of WitnessTop. -/
import Derived.Test.YtpjpkmhaffmbmaaGreatQ22
import Derived.Test.YtpjpkmhaffmbmaaGreatQ27
import Derived.Test.YtpjpkmhaffmbmaaGreatQ28
import Derived.Test.YtpjpkmhaffmbmaaGreatQ29
namespace Go.Proofs.YtpjpkmhaffmbmaaGreat.E
open Go Go.RowKit
set_option maxHeartbeats 4000000
set_option maxRecDepth 10000
set_option linter.unusedSimpArgs false
set_option linter.unusedVariables false
set_option linter.unusedSectionVars false
def dcX5:Dec:=⟨[(7,.cm [false]),(8,.cm [true,false,false]),(9,.cm [false,false,false])],[9,10,11],[22,30,37,38,39,40,49,56,76,80,87,141,143,159,237,250,259],false⟩
def zow:Option MKeep→Row
 | none=>⟨11,[],2,false⟩
 | some k=>⟨11,[k.cs (.blk 60006 0 [] 4 0 k.proof.length)],0,false⟩
def zov:Option MKeep→Sig
 | none=>[]
 | some k=>[(60006,0,one ⟨4,k.proof.map MDig.cs,2,false⟩)]
def h6 (T:MHeard) (p:MPt):Sig:=[(6,0,one ⟨19,[yi T.disk (.blk 10006 0 [] 7 0 T.wishes.length) (.blk 20006 0 [] 3 0 T.raws.length) (.blk 30006 0 [] 11 0 T.kept.toList.length) (.blk 40006 0 [] 3 0 T.letters.length) (.blk 50006 0 [] 13 0 T.alarms.length)],0,false⟩),(10006,0,one ⟨7,T.wishes.map MWish.cs,2,false⟩),(20006,0,one ⟨3,T.raws.map MRaw.cs,2,false⟩),(30006,0,one (zow T.kept)),(40006,0,one ⟨3,T.letters.map MLet.cs,2,false⟩),(50006,0,one ⟨13,T.alarms.map MAl.cs,2,false⟩)]++(zov T.kept++[(9,0,one ⟨5,[p.cs],0,false⟩)])
attribute [go_sem] zow zov h6
theorem zdq {me:Int} {p:MPt} {l:MLet} (h:zcQ me p l):l.text.size≤600:=by
 obtain ⟨i1,-,-,i4⟩:=qC l.text h.1
 have:=ziU (WOk.of i1)
 rw [←i4,zU]
 omega
theorem c3_c (code:List UInt8) (hl:code.length≤maxLen):CallR Tryz.prog 3 [.ro 1 (code.map zy)] (vB true) []:=by
 refine zl dcX5 true Tryz.f3 ?_
 conv=>enter [1];reduce
 refine jvR Tryz.f3 252 [.tmp 2] (by kernel_rfl) (by decide +kernel) rfl ?_
 simp -implicitDefEqProofs only [go_sem]
 refine zi (fun h=>?_) (fun h=>?_)
 ·simp -implicitDefEqProofs only [go_sem,h]
 ·simp -implicitDefEqProofs only [go_sem,h]
  obtain ⟨res,σ,⟨w,me,x,⟨rfl,rfl⟩,hd,h8,hwo⟩,hcall⟩:=c7_c code hl
  refine WantM.intro hcall ?_
  have h8x:w.wishes.length≤maxLen:=by unfold maxLen;omega
  have hI:=c8_c w me x hd h8x
  have hS:=c9_c w me x hd h8x hwo
  have hm:=zaq (me:=me) (l:=x) hd hwo
  have hC:=zmH w hd h8x
  have hL:=zsn x
  cases ok:(yr w&&(qu x&&mIn me 1 20)) with
  | false=>
   have hz:ym w me x=.zero:=by unfold ym;rw [ok];rfl
   rw [hz] at hI hS
   simp -implicitDefEqProofs only [go_sem]
   refine WantM.intro hI ?_
   simp -implicitDefEqProofs only [go_sem]
   refine WantM.intro hS ?_
   simp -implicitDefEqProofs only [go_sem,bne_self_eq_false]
   refine Want.intro hC ?_
   have zN:((0:Nat):Int)=0:=rfl
   cases a1:yr w with
   | false=>
    simp -implicitDefEqProofs only [go_sem,Bool.not_false,zN,beq_self_eq_true]
    all_goals first | done | rfl | trace_state
   | true=>
    simp -implicitDefEqProofs only [go_sem,Bool.not_true]
    refine Want.intro hL ?_
    cases a2:qu x with
    | false=>
     simp -implicitDefEqProofs only [go_sem,Bool.not_false,zN,beq_self_eq_true]
     all_goals first | done | rfl | trace_state
    | true=>
     simp -implicitDefEqProofs only [go_sem,Bool.not_true]
     by_cases q1:me<1
     ·simp -implicitDefEqProofs only [go_sem,q1,zN,beq_self_eq_true]
      all_goals first | done | rfl | trace_state
     ·by_cases q2:me>20
      ·simp -implicitDefEqProofs only [go_sem,q1,q2,zN,beq_self_eq_true]
       all_goals first | done | rfl | trace_state
      ·exfalso
       rw [a1,a2,mIn_iff.2 ⟨by omega,by omega⟩] at ok
       exact absurd ok (by decide)
  | true=>
   simp only [Bool.and_eq_true] at ok
   obtain ⟨ht,hle⟩:=ziX ok.1 ok.2.1 ok.2.2 hwo
   have q3:=mIn_iff.1 ok.2.2
   have q1:¬me<1:=by omega
   have q2:¬me>20:=by omega
   have hO:=zix w.disk hd
   have hN:=ziw (ym w me x).disk hm.d
   have hK:=zmH ⟨(ym w me x).disk,(ym w me x).wishes⟩ hm.d (by have:=hm.ws;show (ym w me x).wishes.length≤maxLen;unfold maxLen;omega)
   rw [ok.1] at hC
   rw [ok.2.1] at hL
   rw [ht.ok] at hK
   have hDW:=zmG w.disk (ym w me x).raws (by have:=hm.r;unfold maxLen;omega)
   have hGC:=fun k (e:(ym w me x).kept=some k)=>zsf (zx w.disk) (zx (ym w me x).disk) k.proof (hm.k k e).1
   generalize ym w me x=T at *
   obtain ⟨d',ww,rr,kk,ll,aa⟩:=T
   have hll:ll.length≤100:=hm.l
   have zN:((0:Nat):Int)=0:=rfl
   simp -implicitDefEqProofs only [go_sem]
   refine WantM.intro hI ?_
   cases kk with
   | none=>
    obtain ⟨e1,e2⟩:=ht.no rfl
    simp only at e1 e2 hN hK hle
    subst e1 e2
    generalize zx w.disk=p at *
    have p1:¬p.size<p.size:=by omega
    simp -implicitDefEqProofs only [go_sem]
    refine WantM.intro hS ?_
    simp -implicitDefEqProofs only [go_sem,bne_self_eq_false]
    refine Want.intro hC ?_
    simp -implicitDefEqProofs only [go_sem,Bool.not_true]
    refine Want.intro hL ?_
    simp -implicitDefEqProofs only [go_sem,Bool.not_true,q1,q2]
    refine Want.intro hO ?_
    simp -implicitDefEqProofs only [go_sem]
    refine Want.intro hN ?_
    simp -implicitDefEqProofs only [go_sem,p1,beq_self_eq_true,bne_self_eq_false]
    refine Want.intro hK ?_
    have z1:¬((0:Int)>1):=by decide
    have z2:((0:Int)==1)=false:=rfl
    simp -implicitDefEqProofs only [go_sem,Bool.not_true,zN,z1,beq_self_eq_true,bne_self_eq_false]
    clear hI hS hC hL hO hN hK hDW hGC
    refine zR [4,6,9] [] (fun s=>s=⟨252,[(4,vI me),(6,.ptr 6 0 [] 19 0 0),(9,.ptr 9 0 [] 5 0 0)],h6 ⟨w.disk,ww,[],none,ll,aa⟩ p,1⟩) ?_ ?_
    ·simp -implicitDefEqProofs only [go_sem,zN,z2]
     first | done | rfl | trace_state
    ·rintro s rfl
     simp -implicitDefEqProofs only [go_sem]
     refine zX (fun n s=>∃i,i≤ll.length∧n=ll.length - i∧s=⟨252,[(4,vI me),(6,.ptr 6 0 [] 19 0 0),(9,.ptr 9 0 [] 5 0 0),(11,vI i)],h6 ⟨w.disk,ww,[],none,ll,aa⟩ p,1⟩) ll.length ?_ ?_
     ·simp -implicitDefEqProofs only [go_sem]
      exact ⟨0,Nat.zero_le _,rfl,rfl⟩
     ·rintro n s ⟨i,hi,rfl,rfl⟩
      rcases Nat.lt_or_ge i ll.length with hlt | hge
      ·have hlt':(i:Int)<(ll.length:Int):=by omega
       have hw:=zG hlt (show ll.length≤maxLen by unfold maxLen;omega)
       have hg:ll[i]?=some ll[i]:=List.getElem?_eq_getElem hlt
       have hok:=hle _ (List.getElem_mem hlt)
       generalize ll[i]=y at *
       have hsz:=zdq hok
       have hwr:=zph y.text (by omega)
       obtain ⟨o1,o2,o3⟩:=hok
       generalize zj y.text=W at *
       obtain ⟨m,code,at_⟩:=W
       simp only at o1 o3
       subst o1
       have f0:((0:Int) != 0)=false:=rfl
       have f1:(y.from_ != me)=false:=by rw [o2];exact bne_self_eq_false me
       simp -implicitDefEqProofs only [go_sem,hlt',hg,hw]
       refine Want.intro hwr ?_
       rcases o3 with ⟨k1,⟨k2,k3⟩,k4⟩ | ⟨k1,k2⟩
       ·have g1:(m.kind==6)=true:=by rw [k1];rfl
        have g2:(m.kind != 6)=false:=by rw [k1];rfl
        have g3:(m.size != p.size)=false:=by rw [k2];exact bne_self_eq_false _
        have g4:¬m.size<1:=by omega
        simp -implicitDefEqProofs only [go_sem,hlt',hg,hw,f0,f1,g1,g2,g3,g4,k3,beq_self_eq_true,bne_self_eq_false,Bool.not_true]
        exact ⟨_,by omega,i+1,hlt,rfl,rfl⟩
       ·have g1:(m.kind==6)=false:=by rw [k1];rfl
        have g2:(m.kind != 6)=true:=by rw [k1];rfl
        have g3:(m.kind != 4)=false:=by rw [k1];rfl
        have g4:(y.to_ != 0)=false:=by rw [k2];rfl
        simp -implicitDefEqProofs only [go_sem,hlt',hg,hw,f0,f1,g1,g2,g3,g4]
        exact ⟨_,by omega,i+1,hlt,rfl,rfl⟩
      ·have hi:i=ll.length:=by omega
       subst hi
       have hlt':¬((ll.length:Int)<(ll.length:Int)):=by omega
       simp -implicitDefEqProofs only [go_sem,hlt']
   | some k=>
    obtain ⟨⟨e1,e2⟩,⟨e3,e4⟩,e5⟩:=ht.yes k rfl
    have hG:=hGC k rfl
    clear hGC
    obtain ⟨ko,kn,kp⟩:=k
    simp only at e1 e2 e3 e4 e5 hN hK hle hDW hG
    rw [←e4] at hDW
    subst e1 e2
    rw [e3] at hG
    clear e4
    generalize zx w.disk=p at *
    generalize zx d'=q at *
    have p1:¬q.size<p.size:=by omega
    have p2:(q.size==p.size)=false:=by rw [beq_eq_false_iff_ne];omega
    have z1:¬((1:Int)>1):=by decide
    have zO:((1:Nat):Int)=1:=rfl
    have z2:((1:Int)==0)=false:=rfl
    have z3:(0:Int)<1:=by decide
    simp -implicitDefEqProofs only [go_sem]
    refine WantM.intro hS ?_
    simp -implicitDefEqProofs only [go_sem,bne_self_eq_false]
    refine Want.intro hC ?_
    simp -implicitDefEqProofs only [go_sem,Bool.not_true]
    refine Want.intro hL ?_
    simp -implicitDefEqProofs only [go_sem,Bool.not_true,q1,q2]
    refine Want.intro hO ?_
    simp -implicitDefEqProofs only [go_sem]
    refine Want.intro hN ?_
    simp -implicitDefEqProofs only [go_sem,p1,p2,beq_self_eq_true,bne_self_eq_false]
    refine Want.intro hK ?_
    simp -implicitDefEqProofs only [go_sem,Bool.not_true,zO,z1,z2]
    refine zR [4,6,9] [] (fun s=>s=⟨252,[(4,vI me),(6,.ptr 6 0 [] 19 0 0),(9,.ptr 9 0 [] 5 0 0)],h6 ⟨d',ww,rr,some ⟨p,q,kp⟩,ll,aa⟩ q,1⟩) ?_ ?_
    ·simp -implicitDefEqProofs only [go_sem,zO,z3,beq_self_eq_true,bne_self_eq_false,Bool.not_true]
     refine Want.intro hG ?_
     simp -implicitDefEqProofs only [go_sem,zO,beq_self_eq_true,bne_self_eq_false,Bool.not_true]
     refine Want.intro hDW ?_
     simp -implicitDefEqProofs only [go_sem,zO,beq_self_eq_true,bne_self_eq_false,Bool.not_true]
     first | done | rfl | trace_state
    ·clear hI hS hC hL hO hN hK hDW hG
     rintro s rfl
     simp -implicitDefEqProofs only [go_sem]
     refine zX (fun n s=>∃i,i≤ll.length∧n=ll.length - i∧s=⟨252,[(4,vI me),(6,.ptr 6 0 [] 19 0 0),(9,.ptr 9 0 [] 5 0 0),(11,vI i)],h6 ⟨d',ww,rr,some ⟨p,q,kp⟩,ll,aa⟩ q,1⟩) ll.length ?_ ?_
     ·simp -implicitDefEqProofs only [go_sem]
      exact ⟨0,Nat.zero_le _,rfl,rfl⟩
     ·rintro n s ⟨i,hi,rfl,rfl⟩
      rcases Nat.lt_or_ge i ll.length with hlt | hge
      ·have hlt':(i:Int)<(ll.length:Int):=by omega
       have hw:=zG hlt (show ll.length≤maxLen by unfold maxLen;omega)
       have hg:ll[i]?=some ll[i]:=List.getElem?_eq_getElem hlt
       have hok:=hle _ (List.getElem_mem hlt)
       generalize ll[i]=y at *
       have hsz:=zdq hok
       have hwr:=zph y.text (by omega)
       obtain ⟨o1,o2,o3⟩:=hok
       generalize zj y.text=W at *
       obtain ⟨m,code,at_⟩:=W
       simp only at o1 o3
       subst o1
       have f0:((0:Int) != 0)=false:=rfl
       have f1:(y.from_ != me)=false:=by rw [o2];exact bne_self_eq_false me
       simp -implicitDefEqProofs only [go_sem,hlt',hg,hw]
       refine Want.intro hwr ?_
       rcases o3 with ⟨k1,⟨k2,k3⟩,k4⟩ | ⟨k1,k2⟩
       ·have g1:(m.kind==6)=true:=by rw [k1];rfl
        have g2:(m.kind != 6)=false:=by rw [k1];rfl
        have g3:(m.size != q.size)=false:=by rw [k2];exact bne_self_eq_false _
        have g4:¬m.size<1:=by omega
        simp -implicitDefEqProofs only [go_sem,hlt',hg,hw,f0,f1,g1,g2,g3,g4,k3,beq_self_eq_true,bne_self_eq_false,Bool.not_true]
        exact ⟨_,by omega,i+1,hlt,rfl,rfl⟩
       ·have g1:(m.kind==6)=false:=by rw [k1];rfl
        have g2:(m.kind != 6)=true:=by rw [k1];rfl
        have g3:(m.kind != 4)=false:=by rw [k1];rfl
        have g4:(y.to_ != 0)=false:=by rw [k2];rfl
        simp -implicitDefEqProofs only [go_sem,hlt',hg,hw,f0,f1,g1,g2,g3,g4]
        exact ⟨_,by omega,i+1,hlt,rfl,rfl⟩
      ·have hi:i=ll.length:=by omega
       subst hi
       have hlt':¬((ll.length:Int)<(ll.length:Int)):=by omega
       simp -implicitDefEqProofs only [go_sem,hlt']
end Go.Proofs.YtpjpkmhaffmbmaaGreat.E
