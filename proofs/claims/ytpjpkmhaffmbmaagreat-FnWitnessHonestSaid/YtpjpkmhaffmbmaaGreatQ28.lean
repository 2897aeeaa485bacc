/- Contracts: what comes of a growth, in the program; Contracts: what comes of a letter to a witness -/
import Derived.Test.YtpjpkmhaffmbmaaGreatQ27
section
namespace Go.Proofs.YtpjpkmhaffmbmaaGreat.E
open Go Go.RowKit
set_option maxHeartbeats 4000000
set_option maxRecDepth 10000
set_option linter.unusedSimpArgs false
set_option linter.unusedVariables false
set_option linter.unusedSectionVars false
def dcV8:Dec:=⟨[],[9,10,11],[22,30,37,38,39,40,49,56,76,80,87,141,143,159,237,250,259],false⟩
theorem zl7 (d:MDisk) (size:Int) (root:MDig):(yT d size root).length≤8:=by
 rw [xq]
 split
 ·exact Nat.le_refl 8
 ·exact Nat.zero_le _
theorem c45_c (w:MWit) (held:MPt) (me:Int) (m:MMsg) (hl:w.wishes.length≤8) (hd:w.disk.ok) (hp:∀d∈m.proof,d.ok) (hpl:m.proof.length≤1000):zW Tryz.prog 45 [(1000000,0,one ⟨7,w.wishes.map MWish.cs,2,false⟩)] [zkp w,.agg held.cs,vI me,m.ro] (zZ w held me m).av (zZ w held me m).out:=by
 refine zl dcV8 false Tryz.f45 ?_
 conv=>enter [1];reduce
 refine jvM Tryz.f45 171 [.cell 8 42] (by kernel_rfl) (by decide +kernel) rfl ?_
 obtain ⟨disk,l⟩:=w
 simp only at hl hd
 have hlm:l.length≤maxLen:=by unfold maxLen;omega
 unfold zZ
 simp only
 simp -implicitDefEqProofs only [go_sem]
 by_cases c1:m.from_=held.size
 ·have c1':(m.from_ != held.size)=false:=by rw [bne_eq_false_iff_eq];exact c1
  rw [if_neg (fun h=>h c1)]
  simp -implicitDefEqProofs only [go_sem,c1',ze,zf,zg,zc,zb,za,Bool.not_true,Bool.not_false]
  refine qv [(10,7)] (fun n z=>∃(i:Nat) (c:AV) (R:Sig),(i≤l.length∧((gF held m.size m.proof (l.take i)).al=[]∧c=.nilS∧R=[]∨(gF held m.size m.proof (l.take i)).al≠[]∧c=.blk 10004 0 [] 13 0 (gF held m.size m.proof (l.take i)).al.length∧R=[(10004,0,one ⟨13,(gF held m.size m.proof (l.take i)).al.map MAl.cs,2,false⟩)]))∧n=l.length - i∧z=⟨171,[(2,vI me),(4,.ptr 4 0 [] 19 0 0),(5,.ptr 5 0 [] 5 0 0),(7,.ptr 7 0 [] 11 0 0),(8,.ptr 8 0 [] 19 0 0),(9,.ptr 9 0 [] 19 0 0),(10,.blk 10 0 [] 7 0 (gF held m.size m.proof (l.take i)).left.length),(11,vB (gF held m.size m.proof (l.take i)).taken),(12,.ptr 12 0 [] 5 0 0),(29,.blk 1000000 0 [] 7 0 l.length),(30,vI l.length),(31,vI i)],[(1000000,0,one ⟨7,l.map MWish.cs,2,false⟩),(4,0,one ⟨19,[yi disk (.blk 1000000 0 [] 7 0 l.length) .nilS .nilS .nilS c],0,false⟩)]++(R++[(5,0,one ⟨5,[held.cs],0,false⟩),(7,0,one ⟨11,[m.roC],0,false⟩),(8,0,one ⟨19,[yi zdisk .nilS .nilS .nilS .nilS .nilS],0,false⟩),(9,0,one ⟨19,[yi disk (.blk 1000000 0 [] 7 0 l.length) .nilS .nilS .nilS .nilS],0,false⟩),(10,0,one ⟨7,(gF held m.size m.proof (l.take i)).left.map MWish.cs,2,false⟩),(12,0,one ⟨5,[(gF held m.size m.proof (l.take i)).p.cs],0,false⟩)]),1⟩) l.length ?_ ?_
  ·simp -implicitDefEqProofs only [go_sem,MMsg.roC]
   exact ⟨0,.nilS,[],⟨Nat.zero_le _,.inl ⟨rfl,rfl,rfl⟩⟩,rfl,rfl⟩
  ·rintro n z ⟨i,c,R,⟨hi,hc⟩,rfl,rfl⟩
   rcases Nat.lt_or_ge i l.length with hlt | hge
   ·have hlt':(i:Int)<(l.length:Int):=by omega
    have hg:l[i]?=some l[i]:=List.getElem?_eq_getElem hlt
    have hw:=zG hlt hlm
    have hst:=zkx (held:=held) (size:=m.size) (P:=m.proof) hlt
    have hle:=zii held m.size m.proof (l.take i)
    rw [List.length_take] at hle
    have h1m:1≤maxLen:=by unfold maxLen;omega
    generalize l[i]=x at *
    have hgc:=zss held x.pt m.proof hp
    generalize gF held m.size m.proof (l.take i)=S at *
    obtain ⟨left,tk,p,al⟩:=S
    unfold yY at hst
    simp only at hst hle hc
    generalize mGC held x.pt (m.proof.map MDig.bd)=cd at *
    have ha1:∀v,_:=fun v=>zcB (L:=left.map MWish.cs) (b:=56) (by rw [List.length_map];omega) (by omega) v
    have ha2:∀v,_:=fun v=>zcB (L:=al.map MAl.cs) (b:=104) (by rw [List.length_map];omega) (by omega) v
    rcases hc with ⟨rfl,rfl,rfl⟩ | ⟨hne,rfl,rfl⟩
    ·cases tk with
     | true=>
      rw [if_pos (.inl rfl)] at hst
      simp -implicitDefEqProofs only [go_sem,hlt',hg,hw,ha1,ze,zf,zg,zc,zb,za,Bool.not_true,Bool.not_false]
      refine ⟨_,by omega,i+1,.nilS,[],⟨hlt,.inl ⟨by rw [hst],rfl,rfl⟩⟩,rfl,?_⟩
      rw [hst]
      try simp only [List.map_append,List.length_append,List.length_map,List.map_cons,List.map_nil,List.length_cons,List.length_nil,List.nil_append]
      try rfl
     | false=>
      by_cases c2:x.pt.size=m.size
      ·have c2':(x.pt.size != m.size)=false:=by rw [bne_eq_false_iff_eq];exact c2
       rw [if_neg (fun h=>h.elim (by simp) (fun h=>h c2))] at hst
       simp -implicitDefEqProofs only [go_sem,hlt',hg,hw,c2',ze,zf,zg,zc,zb,za,Bool.not_true,Bool.not_false]
       refine Want.intro hgc ?_
       by_cases c3:cd=0
       ·have c3':(cd != 0)=false:=by rw [bne_eq_false_iff_eq];exact c3
        rw [if_neg (fun h=>h c3)] at hst
        simp -implicitDefEqProofs only [go_sem,hw,ha1,c3',ze,zf,zg,zc,zb,za,Bool.not_true,Bool.not_false]
        refine ⟨_,by omega,i+1,.nilS,[],⟨hlt,.inl ⟨by rw [hst],rfl,rfl⟩⟩,rfl,?_⟩
        rw [hst]
        try simp only [List.map_append,List.length_append,List.length_map,List.map_cons,List.map_nil,List.length_cons,List.length_nil,List.nil_append]
        try rfl
       ·have c3':(cd != 0)=true:=by rw [bne_iff_ne];exact c3
        rw [if_pos c3] at hst
        simp -implicitDefEqProofs only [go_sem,hw,h1m,c3',ze,zf,zg,zc,zb,za,Bool.not_true,Bool.not_false]
        refine ⟨_,by omega,i+1,_,_,⟨hlt,.inr ⟨by rw [hst];simp,rfl,rfl⟩⟩,rfl,?_⟩
        rw [hst]
        try simp only [List.map_append,List.length_append,List.length_map,List.map_cons,List.map_nil,List.length_cons,List.length_nil,List.nil_append]
        try rfl
      ·have c2':(x.pt.size != m.size)=true:=by rw [bne_iff_ne];exact c2
       rw [if_pos (.inr c2)] at hst
       simp -implicitDefEqProofs only [go_sem,hlt',hg,hw,ha1,c2',ze,zf,zg,zc,zb,za,Bool.not_true,Bool.not_false]
       refine ⟨_,by omega,i+1,.nilS,[],⟨hlt,.inl ⟨by rw [hst],rfl,rfl⟩⟩,rfl,?_⟩
       rw [hst]
       try simp only [List.map_append,List.length_append,List.length_map,List.map_cons,List.map_nil,List.length_cons,List.length_nil,List.nil_append]
       try rfl
    ·cases tk with
     | true=>
      rw [if_pos (.inl rfl)] at hst
      simp -implicitDefEqProofs only [go_sem,hlt',hg,hw,ha1,ze,zf,zg,zc,zb,za,Bool.not_true,Bool.not_false]
      refine ⟨_,by omega,i+1,_,_,⟨hlt,.inr ⟨by rw [hst];exact hne,rfl,rfl⟩⟩,rfl,?_⟩
      rw [hst]
      try simp only [List.map_append,List.length_append,List.length_map,List.map_cons,List.map_nil,List.length_cons,List.length_nil,List.nil_append]
      try rfl
     | false=>
      by_cases c2:x.pt.size=m.size
      ·have c2':(x.pt.size != m.size)=false:=by rw [bne_eq_false_iff_eq];exact c2
       rw [if_neg (fun h=>h.elim (by simp) (fun h=>h c2))] at hst
       simp -implicitDefEqProofs only [go_sem,hlt',hg,hw,c2',ze,zf,zg,zc,zb,za,Bool.not_true,Bool.not_false]
       refine Want.intro hgc ?_
       by_cases c3:cd=0
       ·have c3':(cd != 0)=false:=by rw [bne_eq_false_iff_eq];exact c3
        rw [if_neg (fun h=>h c3)] at hst
        simp -implicitDefEqProofs only [go_sem,hw,ha1,c3',ze,zf,zg,zc,zb,za,Bool.not_true,Bool.not_false]
        refine ⟨_,by omega,i+1,_,_,⟨hlt,.inr ⟨by rw [hst];exact hne,rfl,rfl⟩⟩,rfl,?_⟩
        rw [hst]
        try simp only [List.map_append,List.length_append,List.length_map,List.map_cons,List.map_nil,List.length_cons,List.length_nil,List.nil_append]
        try rfl
       ·have c3':(cd != 0)=true:=by rw [bne_iff_ne];exact c3
        rw [if_pos c3] at hst
        simp -implicitDefEqProofs only [go_sem,hw,ha2,c3',ze,zf,zg,zc,zb,za,Bool.not_true,Bool.not_false]
        refine ⟨_,by omega,i+1,_,_,⟨hlt,.inr ⟨by rw [hst];simp,rfl,rfl⟩⟩,rfl,?_⟩
        rw [hst]
        try simp only [List.map_append,List.length_append,List.length_map,List.map_cons,List.map_nil,List.length_cons,List.length_nil,List.nil_append]
        try rfl
      ·have c2':(x.pt.size != m.size)=true:=by rw [bne_iff_ne];exact c2
       rw [if_pos (.inr c2)] at hst
       simp -implicitDefEqProofs only [go_sem,hlt',hg,hw,ha1,c2',ze,zf,zg,zc,zb,za,Bool.not_true,Bool.not_false]
       refine ⟨_,by omega,i+1,_,_,⟨hlt,.inr ⟨by rw [hst];exact hne,rfl,rfl⟩⟩,rfl,?_⟩
       rw [hst]
       try simp only [List.map_append,List.length_append,List.length_map,List.map_cons,List.map_nil,List.length_cons,List.length_nil,List.nil_append]
       try rfl
   ·have hi:i=l.length:=by omega
    subst hi
    have hlt':¬((l.length:Int)<(l.length:Int)):=by omega
    have hle:=zii held m.size m.proof l
    rw [List.take_length] at hc ⊢
    generalize gF held m.size m.proof l=S at *
    obtain ⟨left,tk,p,al⟩:=S
    simp only at hle hc ⊢
    have hcl:=ziv left (by omega)
    cases tk with
    | false=>
     rw [if_pos rfl]
     rcases hc with ⟨rfl,rfl,rfl⟩ | ⟨hne,rfl,rfl⟩
     ·simp -implicitDefEqProofs only [go_sem,hlt',ze,zf,zg,zc,zb,za,Bool.not_true,Bool.not_false]
      refine Want.intro hcl ?_
      simp -implicitDefEqProofs only [go_sem,ze,zf,zg,zc,zb,za,Bool.not_true,Bool.not_false,Bool.false_eq_true]
     ·simp -implicitDefEqProofs only [go_sem,hlt',ze,zf,zg,zc,zb,za,Bool.not_true,Bool.not_false]
      refine Want.intro hcl ?_
      simp -implicitDefEqProofs only [go_sem,ze,zf,zg,zc,zb,za,Bool.not_true,Bool.not_false,Bool.false_eq_true]
    | true=>
     rw [if_neg (by simp)]
     have hrr:=zsr disk p.size p.root hd
     have hRl:=zl7 disk p.size p.root
     generalize yT disk p.size p.root=R at *
     by_cases hR:R=[]
     ·rw [if_pos hR]
      subst hR
      have hR0:(((0:Nat):Int)==0)=true:=rfl
      rcases hc with ⟨rfl,rfl,rfl⟩ | ⟨hne,rfl,rfl⟩
      ·simp -implicitDefEqProofs only [go_sem,hlt',ze,zf,zg,zc,zb,za,Bool.not_true,Bool.not_false]
       refine Want.intro hcl ?_
       simp -implicitDefEqProofs only [go_sem,ze,zf,zg,zc,zb,za,Bool.not_true,Bool.not_false]
       refine Want.intro hrr ?_
       simp -implicitDefEqProofs only [go_sem,hR0,ze,zf,zg,zc,zb,za,Bool.not_true,Bool.not_false]
      ·simp -implicitDefEqProofs only [go_sem,hlt',ze,zf,zg,zc,zb,za,Bool.not_true,Bool.not_false]
       refine Want.intro hcl ?_
       simp -implicitDefEqProofs only [go_sem,ze,zf,zg,zc,zb,za,Bool.not_true,Bool.not_false]
       refine Want.intro hrr ?_
       simp -implicitDefEqProofs only [go_sem,hR0,ze,zf,zg,zc,zb,za,Bool.not_true,Bool.not_false]
     ·rw [if_neg hR]
      have hR0:((R.length:Int)==0)=false:=by
       rw [beq_eq_false_iff_ne]
       intro h
       exact hR (List.eq_nil_of_length_eq_zero (by omega))
      have hdw:=zrU disk R (by unfold maxLen;omega)
      have hcp:=znB m.proof (by omega)
      rcases hc with ⟨rfl,rfl,rfl⟩ | ⟨hne,rfl,rfl⟩
      ·simp -implicitDefEqProofs only [go_sem,hlt',ze,zf,zg,zc,zb,za,Bool.not_true,Bool.not_false]
       refine Want.intro hcl ?_
       simp -implicitDefEqProofs only [go_sem,ze,zf,zg,zc,zb,za,Bool.not_true,Bool.not_false]
       refine Want.intro hrr ?_
       simp -implicitDefEqProofs only [go_sem,hR0,ze,zf,zg,zc,zb,za,Bool.not_true,Bool.not_false]
       refine Want.intro hdw ?_
       simp -implicitDefEqProofs only [go_sem]
       refine Want.intro hcp ?_
       simp -implicitDefEqProofs only [go_sem]
       generalize zF disk R=D at *
       refine qv [(16,7)] (fun n z=>∃(i:Nat) (c1 c2:AV) (X:Sig) (nm:Nat),(i≤left.length∧Shp (hvF me p [] (left.take i)) m.proof 4 c1 c2 X nm)∧n=left.length - i∧z=⟨171,[(2,vI me),(4,.ptr 4 0 [] 19 0 0),(8,.ptr 8 0 [] 19 0 0),(12,.ptr 12 0 [] 5 0 0),(16,.blk 16 0 [] 7 0 (hvF me p [] (left.take i)).rest.length),(113,.blk 113 0 [] 7 0 left.length),(114,vI left.length),(115,vI i)],[(1000000,0,one ⟨7,l.map MWish.cs,2,false⟩),(4,0,one ⟨19,[yi D (.blk 10004 0 [] 7 0 left.length) (.blk 20004 0 [] 3 0 R.length) (.blk 30004 0 [] 11 0 1) c1 c2],0,false⟩),(10004,0,one ⟨7,left.map MWish.cs,2,false⟩),(20004,0,one ⟨3,R.map MRaw.cs,2,false⟩),(30004,0,one ⟨11,[MKeep.cs ⟨held,p,m.proof⟩ (.blk nm 0 [] 4 0 m.proof.length)],0,false⟩)]++(X++[(8,0,one ⟨19,[yi zdisk .nilS .nilS .nilS .nilS .nilS],0,false⟩),(12,0,one ⟨5,[p.cs],0,false⟩),(16,0,one ⟨7,(hvF me p [] (left.take i)).rest.map MWish.cs,2,false⟩),(113,0,one ⟨7,left.map MWish.cs,2,false⟩)]),1⟩) left.length ?_ ?_
       ·simp -implicitDefEqProofs only [go_sem]
        first
         | exact ⟨0,_,_,_,_,⟨Nat.zero_le _,Shp.s00 (H:=hvF me p [] (left.take 0)) rfl rfl⟩,rfl,rfl⟩
         | exact ⟨0,_,_,_,_,⟨Nat.zero_le _,Shp.s01 (H:=hvF me p [] (left.take 0)) rfl hne⟩,rfl,rfl⟩
       ·rintro n z ⟨i,c1,c2,X,nm,⟨hi,hc⟩,rfl,rfl⟩
        have hvl:=zds me p [] (left.take i)
        rw [List.length_take] at hvl
        rcases Nat.lt_or_ge i left.length with hlt | hge
        ·have hlt':(i:Int)<(left.length:Int):=by omega
         have hg:left[i]?=some left[i]:=List.getElem?_eq_getElem hlt
         have hw:=zG hlt (show left.length≤maxLen by unfold maxLen;omega)
         have hst:=zbn (me:=me) (p:=p) (al:=[]) hlt
         have h1m:1≤maxLen:=by unfold maxLen;omega
         generalize left[i]=x at *
         have hak:=zkZ me x.who x.session p
         generalize hvF me p [] (left.take i)=H at *
         obtain ⟨le,al',rest⟩:=H
         unfold xM at hst
         simp only at hst hvl
         have ha1:∀v,_:=fun v=>zcB (L:=le.map MLet.cs) (b:=32) (by rw [List.length_map];omega) (by omega) v
         have ha2:∀v,_:=fun v=>zcB (L:=al'.map MAl.cs) (b:=104) (by rw [List.length_map];omega) (by omega) v
         have ha3:∀v,_:=fun v=>zcB (L:=rest.map MWish.cs) (b:=56) (by rw [List.length_map];omega) (by omega) v
         cases hc with
         | s00 q1 q2=>
          simp only at q1
          subst q1
          simp only at q2
          subst q2
          cases e1:yR x.pt p with
          | true=>
           rw [if_pos e1] at hst
           have e1':=e1
           unfold yR at e1'
           simp -implicitDefEqProofs only [go_sem,hlt',hg,hw,e1',ze,zf,zg,zc,zb,za,Bool.not_true,Bool.not_false]
           refine Want.intro hak ?_
           simp -implicitDefEqProofs only [go_sem,h1m,hw,ze,zf,zg,zc,zb,za,Bool.not_true,Bool.not_false]
           refine ⟨_,by omega,i+1,_,_,_,_,⟨hlt,Shp.s10 (H:=(hvF me p [] (left.take (i+1)))) (by rw [hst];simp) (by rw [hst])⟩,rfl,?_⟩
           rw [hst]
           try simp only [List.map_append,List.length_append,List.length_map,List.map_cons,List.map_nil,List.length_cons,List.length_nil,List.nil_append]
           try rfl
          | false=>
           rw [if_neg (by rw [e1];simp)] at hst
           have e1':=e1
           unfold yR at e1'
           by_cases e2:x.pt.size=p.size
           ·have e2':(x.pt.size==p.size)=true:=by rw [e2];simp
            rw [if_pos e2] at hst
            rw [e2',Bool.true_and] at e1'
            simp -implicitDefEqProofs only [go_sem,hlt',hg,hw,e1',e2',h1m,ze,zf,zg,zc,zb,za,Bool.not_true,Bool.not_false]
            refine ⟨_,by omega,i+1,_,_,_,_,⟨hlt,Shp.s01 (H:=(hvF me p [] (left.take (i+1)))) (by rw [hst]) (by rw [hst];simp)⟩,rfl,?_⟩
            rw [hst]
            try simp only [List.map_append,List.length_append,List.length_map,List.map_cons,List.map_nil,List.length_cons,List.length_nil,List.nil_append]
            try rfl
           ·have e2':(x.pt.size==p.size)=false:=beq_eq_false_iff_ne.2 e2
            rw [if_neg e2] at hst
            by_cases e3:x.pt.size>p.size
            ·rw [if_pos e3] at hst
             simp -implicitDefEqProofs only [go_sem,hlt',hg,hw,e1',e2',e3,ha3,ze,zf,zg,zc,zb,za,Bool.not_true,Bool.not_false]
             refine ⟨_,by omega,i+1,_,_,_,_,⟨hlt,Shp.s00 (H:=(hvF me p [] (left.take (i+1)))) (by rw [hst]) (by rw [hst])⟩,rfl,?_⟩
             rw [hst]
             try simp only [List.map_append,List.length_append,List.length_map,List.map_cons,List.map_nil,List.length_cons,List.length_nil,List.nil_append]
             try rfl
            ·rw [if_neg e3] at hst
             simp -implicitDefEqProofs only [go_sem,hlt',hg,hw,e1',e2',e3,ze,zf,zg,zc,zb,za,Bool.not_true,Bool.not_false]
             refine ⟨_,by omega,i+1,_,_,_,_,⟨hlt,Shp.s00 (H:=(hvF me p [] (left.take (i+1)))) (by rw [hst]) (by rw [hst])⟩,rfl,?_⟩
             rw [hst]
             try simp only [List.map_append,List.length_append,List.length_map,List.map_cons,List.map_nil,List.length_cons,List.length_nil,List.nil_append]
             try rfl
         | s01 q1 q2=>
          simp only at q1
          subst q1
          cases e1:yR x.pt p with
          | true=>
           rw [if_pos e1] at hst
           have e1':=e1
           unfold yR at e1'
           simp -implicitDefEqProofs only [go_sem,hlt',hg,hw,e1',ze,zf,zg,zc,zb,za,Bool.not_true,Bool.not_false]
           refine Want.intro hak ?_
           simp -implicitDefEqProofs only [go_sem,h1m,hw,ze,zf,zg,zc,zb,za,Bool.not_true,Bool.not_false]
           refine ⟨_,by omega,i+1,_,_,_,_,⟨hlt,Shp.s11 (H:=(hvF me p [] (left.take (i+1)))) (by rw [hst];simp) (by rw [hst];exact q2)⟩,rfl,?_⟩
           rw [hst]
           try simp only [List.map_append,List.length_append,List.length_map,List.map_cons,List.map_nil,List.length_cons,List.length_nil,List.nil_append]
           try rfl
          | false=>
           rw [if_neg (by rw [e1];simp)] at hst
           have e1':=e1
           unfold yR at e1'
           by_cases e2:x.pt.size=p.size
           ·have e2':(x.pt.size==p.size)=true:=by rw [e2];simp
            rw [if_pos e2] at hst
            rw [e2',Bool.true_and] at e1'
            simp -implicitDefEqProofs only [go_sem,hlt',hg,hw,e1',e2',ha2,ze,zf,zg,zc,zb,za,Bool.not_true,Bool.not_false]
            refine ⟨_,by omega,i+1,_,_,_,_,⟨hlt,Shp.s01 (H:=(hvF me p [] (left.take (i+1)))) (by rw [hst]) (by rw [hst];simp)⟩,rfl,?_⟩
            rw [hst]
            try simp only [List.map_append,List.length_append,List.length_map,List.map_cons,List.map_nil,List.length_cons,List.length_nil,List.nil_append]
            try rfl
           ·have e2':(x.pt.size==p.size)=false:=beq_eq_false_iff_ne.2 e2
            rw [if_neg e2] at hst
            by_cases e3:x.pt.size>p.size
            ·rw [if_pos e3] at hst
             simp -implicitDefEqProofs only [go_sem,hlt',hg,hw,e1',e2',e3,ha3,ze,zf,zg,zc,zb,za,Bool.not_true,Bool.not_false]
             refine ⟨_,by omega,i+1,_,_,_,_,⟨hlt,Shp.s01 (H:=(hvF me p [] (left.take (i+1)))) (by rw [hst]) (by rw [hst];exact q2)⟩,rfl,?_⟩
             rw [hst]
             try simp only [List.map_append,List.length_append,List.length_map,List.map_cons,List.map_nil,List.length_cons,List.length_nil,List.nil_append]
             try rfl
            ·rw [if_neg e3] at hst
             simp -implicitDefEqProofs only [go_sem,hlt',hg,hw,e1',e2',e3,ze,zf,zg,zc,zb,za,Bool.not_true,Bool.not_false]
             refine ⟨_,by omega,i+1,_,_,_,_,⟨hlt,Shp.s01 (H:=(hvF me p [] (left.take (i+1)))) (by rw [hst]) (by rw [hst];exact q2)⟩,rfl,?_⟩
             rw [hst]
             try simp only [List.map_append,List.length_append,List.length_map,List.map_cons,List.map_nil,List.length_cons,List.length_nil,List.nil_append]
             try rfl
         | s10 q1 q2=>
          simp only at q2
          subst q2
          cases e1:yR x.pt p with
          | true=>
           rw [if_pos e1] at hst
           have e1':=e1
           unfold yR at e1'
           simp -implicitDefEqProofs only [go_sem,hlt',hg,hw,e1',ze,zf,zg,zc,zb,za,Bool.not_true,Bool.not_false]
           refine Want.intro hak ?_
           simp -implicitDefEqProofs only [go_sem,ha1,hw,ze,zf,zg,zc,zb,za,Bool.not_true,Bool.not_false]
           refine ⟨_,by omega,i+1,_,_,_,_,⟨hlt,Shp.s10 (H:=(hvF me p [] (left.take (i+1)))) (by rw [hst];simp) (by rw [hst])⟩,rfl,?_⟩
           rw [hst]
           try simp only [List.map_append,List.length_append,List.length_map,List.map_cons,List.map_nil,List.length_cons,List.length_nil,List.nil_append]
           try rfl
          | false=>
           rw [if_neg (by rw [e1];simp)] at hst
           have e1':=e1
           unfold yR at e1'
           by_cases e2:x.pt.size=p.size
           ·have e2':(x.pt.size==p.size)=true:=by rw [e2];simp
            rw [if_pos e2] at hst
            rw [e2',Bool.true_and] at e1'
            simp -implicitDefEqProofs only [go_sem,hlt',hg,hw,e1',e2',h1m,ze,zf,zg,zc,zb,za,Bool.not_true,Bool.not_false]
            refine ⟨_,by omega,i+1,_,_,_,_,⟨hlt,Shp.s11 (H:=(hvF me p [] (left.take (i+1)))) (by rw [hst];exact q1) (by rw [hst];simp)⟩,rfl,?_⟩
            rw [hst]
            try simp only [List.map_append,List.length_append,List.length_map,List.map_cons,List.map_nil,List.length_cons,List.length_nil,List.nil_append]
            try rfl
           ·have e2':(x.pt.size==p.size)=false:=beq_eq_false_iff_ne.2 e2
            rw [if_neg e2] at hst
            by_cases e3:x.pt.size>p.size
            ·rw [if_pos e3] at hst
             simp -implicitDefEqProofs only [go_sem,hlt',hg,hw,e1',e2',e3,ha3,ze,zf,zg,zc,zb,za,Bool.not_true,Bool.not_false]
             refine ⟨_,by omega,i+1,_,_,_,_,⟨hlt,Shp.s10 (H:=(hvF me p [] (left.take (i+1)))) (by rw [hst];exact q1) (by rw [hst])⟩,rfl,?_⟩
             rw [hst]
             try simp only [List.map_append,List.length_append,List.length_map,List.map_cons,List.map_nil,List.length_cons,List.length_nil,List.nil_append]
             try rfl
            ·rw [if_neg e3] at hst
             simp -implicitDefEqProofs only [go_sem,hlt',hg,hw,e1',e2',e3,ze,zf,zg,zc,zb,za,Bool.not_true,Bool.not_false]
             refine ⟨_,by omega,i+1,_,_,_,_,⟨hlt,Shp.s10 (H:=(hvF me p [] (left.take (i+1)))) (by rw [hst];exact q1) (by rw [hst])⟩,rfl,?_⟩
             rw [hst]
             try simp only [List.map_append,List.length_append,List.length_map,List.map_cons,List.map_nil,List.length_cons,List.length_nil,List.nil_append]
             try rfl
         | s11 q1 q2=>
          cases e1:yR x.pt p with
          | true=>
           rw [if_pos e1] at hst
           have e1':=e1
           unfold yR at e1'
           simp -implicitDefEqProofs only [go_sem,hlt',hg,hw,e1',ze,zf,zg,zc,zb,za,Bool.not_true,Bool.not_false]
           refine Want.intro hak ?_
           simp -implicitDefEqProofs only [go_sem,ha1,hw,ze,zf,zg,zc,zb,za,Bool.not_true,Bool.not_false]
           refine ⟨_,by omega,i+1,_,_,_,_,⟨hlt,Shp.s11 (H:=(hvF me p [] (left.take (i+1)))) (by rw [hst];simp) (by rw [hst];exact q2)⟩,rfl,?_⟩
           rw [hst]
           try simp only [List.map_append,List.length_append,List.length_map,List.map_cons,List.map_nil,List.length_cons,List.length_nil,List.nil_append]
           try rfl
          | false=>
           rw [if_neg (by rw [e1];simp)] at hst
           have e1':=e1
           unfold yR at e1'
           by_cases e2:x.pt.size=p.size
           ·have e2':(x.pt.size==p.size)=true:=by rw [e2];simp
            rw [if_pos e2] at hst
            rw [e2',Bool.true_and] at e1'
            simp -implicitDefEqProofs only [go_sem,hlt',hg,hw,e1',e2',ha2,ze,zf,zg,zc,zb,za,Bool.not_true,Bool.not_false]
            refine ⟨_,by omega,i+1,_,_,_,_,⟨hlt,Shp.s11 (H:=(hvF me p [] (left.take (i+1)))) (by rw [hst];exact q1) (by rw [hst];simp)⟩,rfl,?_⟩
            rw [hst]
            try simp only [List.map_append,List.length_append,List.length_map,List.map_cons,List.map_nil,List.length_cons,List.length_nil,List.nil_append]
            try rfl
           ·have e2':(x.pt.size==p.size)=false:=beq_eq_false_iff_ne.2 e2
            rw [if_neg e2] at hst
            by_cases e3:x.pt.size>p.size
            ·rw [if_pos e3] at hst
             simp -implicitDefEqProofs only [go_sem,hlt',hg,hw,e1',e2',e3,ha3,ze,zf,zg,zc,zb,za,Bool.not_true,Bool.not_false]
             refine ⟨_,by omega,i+1,_,_,_,_,⟨hlt,Shp.s11 (H:=(hvF me p [] (left.take (i+1)))) (by rw [hst];exact q1) (by rw [hst];exact q2)⟩,rfl,?_⟩
             rw [hst]
             try simp only [List.map_append,List.length_append,List.length_map,List.map_cons,List.map_nil,List.length_cons,List.length_nil,List.nil_append]
             try rfl
            ·rw [if_neg e3] at hst
             simp -implicitDefEqProofs only [go_sem,hlt',hg,hw,e1',e2',e3,ze,zf,zg,zc,zb,za,Bool.not_true,Bool.not_false]
             refine ⟨_,by omega,i+1,_,_,_,_,⟨hlt,Shp.s11 (H:=(hvF me p [] (left.take (i+1)))) (by rw [hst];exact q1) (by rw [hst];exact q2)⟩,rfl,?_⟩
             rw [hst]
             try simp only [List.map_append,List.length_append,List.length_map,List.map_cons,List.map_nil,List.length_cons,List.length_nil,List.nil_append]
             try rfl
        ·have hi:i=left.length:=by omega
         subst hi
         have hlt':¬((left.length:Int)<(left.length:Int)):=by omega
         rw [List.take_length] at hc hvl ⊢
         generalize hvF me p [] left=H at *
         obtain ⟨le,al',rest⟩:=H
         simp only at hvl
         have hcl2:=ziv rest (by omega)
         cases hc with
         | s00 q1 q2=>
          simp only at q1
          subst q1
          simp only at q2
          subst q2
          simp -implicitDefEqProofs only [go_sem,hlt',ze,zf,zg,zc,zb,za,Bool.not_true,Bool.not_false]
          refine Want.intro hcl2 ?_
          simp -implicitDefEqProofs only [go_sem]
         | s01 q1 q2=>
          simp only at q1
          subst q1
          simp -implicitDefEqProofs only [go_sem,hlt',ze,zf,zg,zc,zb,za,Bool.not_true,Bool.not_false]
          refine Want.intro hcl2 ?_
          simp -implicitDefEqProofs only [go_sem]
         | s10 q1 q2=>
          simp only at q2
          subst q2
          simp -implicitDefEqProofs only [go_sem,hlt',ze,zf,zg,zc,zb,za,Bool.not_true,Bool.not_false]
          refine Want.intro hcl2 ?_
          simp -implicitDefEqProofs only [go_sem]
         | s11 q1 q2=>
          simp -implicitDefEqProofs only [go_sem,hlt',ze,zf,zg,zc,zb,za,Bool.not_true,Bool.not_false]
          refine Want.intro hcl2 ?_
          simp -implicitDefEqProofs only [go_sem]
      ·simp -implicitDefEqProofs only [go_sem,hlt',ze,zf,zg,zc,zb,za,Bool.not_true,Bool.not_false]
       refine Want.intro hcl ?_
       simp -implicitDefEqProofs only [go_sem,ze,zf,zg,zc,zb,za,Bool.not_true,Bool.not_false]
       refine Want.intro hrr ?_
       simp -implicitDefEqProofs only [go_sem,hR0,ze,zf,zg,zc,zb,za,Bool.not_true,Bool.not_false]
       refine Want.intro hdw ?_
       simp -implicitDefEqProofs only [go_sem]
       refine Want.intro hcp ?_
       simp -implicitDefEqProofs only [go_sem]
       generalize zF disk R=D at *
       refine qv [(16,7)] (fun n z=>∃(i:Nat) (c1 c2:AV) (X:Sig) (nm:Nat),(i≤left.length∧Shp (hvF me p al (left.take i)) m.proof 4 c1 c2 X nm)∧n=left.length - i∧z=⟨171,[(2,vI me),(4,.ptr 4 0 [] 19 0 0),(8,.ptr 8 0 [] 19 0 0),(12,.ptr 12 0 [] 5 0 0),(16,.blk 16 0 [] 7 0 (hvF me p al (left.take i)).rest.length),(113,.blk 113 0 [] 7 0 left.length),(114,vI left.length),(115,vI i)],[(1000000,0,one ⟨7,l.map MWish.cs,2,false⟩),(4,0,one ⟨19,[yi D (.blk 10004 0 [] 7 0 left.length) (.blk 20004 0 [] 3 0 R.length) (.blk 30004 0 [] 11 0 1) c1 c2],0,false⟩),(10004,0,one ⟨7,left.map MWish.cs,2,false⟩),(20004,0,one ⟨3,R.map MRaw.cs,2,false⟩),(30004,0,one ⟨11,[MKeep.cs ⟨held,p,m.proof⟩ (.blk nm 0 [] 4 0 m.proof.length)],0,false⟩)]++(X++[(8,0,one ⟨19,[yi zdisk .nilS .nilS .nilS .nilS .nilS],0,false⟩),(12,0,one ⟨5,[p.cs],0,false⟩),(16,0,one ⟨7,(hvF me p al (left.take i)).rest.map MWish.cs,2,false⟩),(113,0,one ⟨7,left.map MWish.cs,2,false⟩)]),1⟩) left.length ?_ ?_
       ·simp -implicitDefEqProofs only [go_sem]
        first
         | exact ⟨0,_,_,_,_,⟨Nat.zero_le _,Shp.s00 (H:=hvF me p [] (left.take 0)) rfl rfl⟩,rfl,rfl⟩
         | exact ⟨0,_,_,_,_,⟨Nat.zero_le _,Shp.s01 (H:=hvF me p al (left.take 0)) rfl hne⟩,rfl,rfl⟩
       ·rintro n z ⟨i,c1,c2,X,nm,⟨hi,hc⟩,rfl,rfl⟩
        have hvl:=zds me p al (left.take i)
        rw [List.length_take] at hvl
        rcases Nat.lt_or_ge i left.length with hlt | hge
        ·have hlt':(i:Int)<(left.length:Int):=by omega
         have hg:left[i]?=some left[i]:=List.getElem?_eq_getElem hlt
         have hw:=zG hlt (show left.length≤maxLen by unfold maxLen;omega)
         have hst:=zbn (me:=me) (p:=p) (al:=al) hlt
         have h1m:1≤maxLen:=by unfold maxLen;omega
         generalize left[i]=x at *
         have hak:=zkZ me x.who x.session p
         generalize hvF me p al (left.take i)=H at *
         obtain ⟨le,al',rest⟩:=H
         unfold xM at hst
         simp only at hst hvl
         have ha1:∀v,_:=fun v=>zcB (L:=le.map MLet.cs) (b:=32) (by rw [List.length_map];omega) (by omega) v
         have ha2:∀v,_:=fun v=>zcB (L:=al'.map MAl.cs) (b:=104) (by rw [List.length_map];omega) (by omega) v
         have ha3:∀v,_:=fun v=>zcB (L:=rest.map MWish.cs) (b:=56) (by rw [List.length_map];omega) (by omega) v
         cases hc with
         | s00 q1 q2=>
          simp only at q1
          subst q1
          simp only at q2
          subst q2
          cases e1:yR x.pt p with
          | true=>
           rw [if_pos e1] at hst
           have e1':=e1
           unfold yR at e1'
           simp -implicitDefEqProofs only [go_sem,hlt',hg,hw,e1',ze,zf,zg,zc,zb,za,Bool.not_true,Bool.not_false]
           refine Want.intro hak ?_
           simp -implicitDefEqProofs only [go_sem,h1m,hw,ze,zf,zg,zc,zb,za,Bool.not_true,Bool.not_false]
           refine ⟨_,by omega,i+1,_,_,_,_,⟨hlt,Shp.s10 (H:=(hvF me p al (left.take (i+1)))) (by rw [hst];simp) (by rw [hst])⟩,rfl,?_⟩
           rw [hst]
           try simp only [List.map_append,List.length_append,List.length_map,List.map_cons,List.map_nil,List.length_cons,List.length_nil,List.nil_append]
           try rfl
          | false=>
           rw [if_neg (by rw [e1];simp)] at hst
           have e1':=e1
           unfold yR at e1'
           by_cases e2:x.pt.size=p.size
           ·have e2':(x.pt.size==p.size)=true:=by rw [e2];simp
            rw [if_pos e2] at hst
            rw [e2',Bool.true_and] at e1'
            simp -implicitDefEqProofs only [go_sem,hlt',hg,hw,e1',e2',h1m,ze,zf,zg,zc,zb,za,Bool.not_true,Bool.not_false]
            refine ⟨_,by omega,i+1,_,_,_,_,⟨hlt,Shp.s01 (H:=(hvF me p al (left.take (i+1)))) (by rw [hst]) (by rw [hst];simp)⟩,rfl,?_⟩
            rw [hst]
            try simp only [List.map_append,List.length_append,List.length_map,List.map_cons,List.map_nil,List.length_cons,List.length_nil,List.nil_append]
            try rfl
           ·have e2':(x.pt.size==p.size)=false:=beq_eq_false_iff_ne.2 e2
            rw [if_neg e2] at hst
            by_cases e3:x.pt.size>p.size
            ·rw [if_pos e3] at hst
             simp -implicitDefEqProofs only [go_sem,hlt',hg,hw,e1',e2',e3,ha3,ze,zf,zg,zc,zb,za,Bool.not_true,Bool.not_false]
             refine ⟨_,by omega,i+1,_,_,_,_,⟨hlt,Shp.s00 (H:=(hvF me p al (left.take (i+1)))) (by rw [hst]) (by rw [hst])⟩,rfl,?_⟩
             rw [hst]
             try simp only [List.map_append,List.length_append,List.length_map,List.map_cons,List.map_nil,List.length_cons,List.length_nil,List.nil_append]
             try rfl
            ·rw [if_neg e3] at hst
             simp -implicitDefEqProofs only [go_sem,hlt',hg,hw,e1',e2',e3,ze,zf,zg,zc,zb,za,Bool.not_true,Bool.not_false]
             refine ⟨_,by omega,i+1,_,_,_,_,⟨hlt,Shp.s00 (H:=(hvF me p al (left.take (i+1)))) (by rw [hst]) (by rw [hst])⟩,rfl,?_⟩
             rw [hst]
             try simp only [List.map_append,List.length_append,List.length_map,List.map_cons,List.map_nil,List.length_cons,List.length_nil,List.nil_append]
             try rfl
         | s01 q1 q2=>
          simp only at q1
          subst q1
          cases e1:yR x.pt p with
          | true=>
           rw [if_pos e1] at hst
           have e1':=e1
           unfold yR at e1'
           simp -implicitDefEqProofs only [go_sem,hlt',hg,hw,e1',ze,zf,zg,zc,zb,za,Bool.not_true,Bool.not_false]
           refine Want.intro hak ?_
           simp -implicitDefEqProofs only [go_sem,h1m,hw,ze,zf,zg,zc,zb,za,Bool.not_true,Bool.not_false]
           refine ⟨_,by omega,i+1,_,_,_,_,⟨hlt,Shp.s11 (H:=(hvF me p al (left.take (i+1)))) (by rw [hst];simp) (by rw [hst];exact q2)⟩,rfl,?_⟩
           rw [hst]
           try simp only [List.map_append,List.length_append,List.length_map,List.map_cons,List.map_nil,List.length_cons,List.length_nil,List.nil_append]
           try rfl
          | false=>
           rw [if_neg (by rw [e1];simp)] at hst
           have e1':=e1
           unfold yR at e1'
           by_cases e2:x.pt.size=p.size
           ·have e2':(x.pt.size==p.size)=true:=by rw [e2];simp
            rw [if_pos e2] at hst
            rw [e2',Bool.true_and] at e1'
            simp -implicitDefEqProofs only [go_sem,hlt',hg,hw,e1',e2',ha2,ze,zf,zg,zc,zb,za,Bool.not_true,Bool.not_false]
            refine ⟨_,by omega,i+1,_,_,_,_,⟨hlt,Shp.s01 (H:=(hvF me p al (left.take (i+1)))) (by rw [hst]) (by rw [hst];simp)⟩,rfl,?_⟩
            rw [hst]
            try simp only [List.map_append,List.length_append,List.length_map,List.map_cons,List.map_nil,List.length_cons,List.length_nil,List.nil_append]
            try rfl
           ·have e2':(x.pt.size==p.size)=false:=beq_eq_false_iff_ne.2 e2
            rw [if_neg e2] at hst
            by_cases e3:x.pt.size>p.size
            ·rw [if_pos e3] at hst
             simp -implicitDefEqProofs only [go_sem,hlt',hg,hw,e1',e2',e3,ha3,ze,zf,zg,zc,zb,za,Bool.not_true,Bool.not_false]
             refine ⟨_,by omega,i+1,_,_,_,_,⟨hlt,Shp.s01 (H:=(hvF me p al (left.take (i+1)))) (by rw [hst]) (by rw [hst];exact q2)⟩,rfl,?_⟩
             rw [hst]
             try simp only [List.map_append,List.length_append,List.length_map,List.map_cons,List.map_nil,List.length_cons,List.length_nil,List.nil_append]
             try rfl
            ·rw [if_neg e3] at hst
             simp -implicitDefEqProofs only [go_sem,hlt',hg,hw,e1',e2',e3,ze,zf,zg,zc,zb,za,Bool.not_true,Bool.not_false]
             refine ⟨_,by omega,i+1,_,_,_,_,⟨hlt,Shp.s01 (H:=(hvF me p al (left.take (i+1)))) (by rw [hst]) (by rw [hst];exact q2)⟩,rfl,?_⟩
             rw [hst]
             try simp only [List.map_append,List.length_append,List.length_map,List.map_cons,List.map_nil,List.length_cons,List.length_nil,List.nil_append]
             try rfl
         | s10 q1 q2=>
          simp only at q2
          subst q2
          cases e1:yR x.pt p with
          | true=>
           rw [if_pos e1] at hst
           have e1':=e1
           unfold yR at e1'
           simp -implicitDefEqProofs only [go_sem,hlt',hg,hw,e1',ze,zf,zg,zc,zb,za,Bool.not_true,Bool.not_false]
           refine Want.intro hak ?_
           simp -implicitDefEqProofs only [go_sem,ha1,hw,ze,zf,zg,zc,zb,za,Bool.not_true,Bool.not_false]
           refine ⟨_,by omega,i+1,_,_,_,_,⟨hlt,Shp.s10 (H:=(hvF me p al (left.take (i+1)))) (by rw [hst];simp) (by rw [hst])⟩,rfl,?_⟩
           rw [hst]
           try simp only [List.map_append,List.length_append,List.length_map,List.map_cons,List.map_nil,List.length_cons,List.length_nil,List.nil_append]
           try rfl
          | false=>
           rw [if_neg (by rw [e1];simp)] at hst
           have e1':=e1
           unfold yR at e1'
           by_cases e2:x.pt.size=p.size
           ·have e2':(x.pt.size==p.size)=true:=by rw [e2];simp
            rw [if_pos e2] at hst
            rw [e2',Bool.true_and] at e1'
            simp -implicitDefEqProofs only [go_sem,hlt',hg,hw,e1',e2',h1m,ze,zf,zg,zc,zb,za,Bool.not_true,Bool.not_false]
            refine ⟨_,by omega,i+1,_,_,_,_,⟨hlt,Shp.s11 (H:=(hvF me p al (left.take (i+1)))) (by rw [hst];exact q1) (by rw [hst];simp)⟩,rfl,?_⟩
            rw [hst]
            try simp only [List.map_append,List.length_append,List.length_map,List.map_cons,List.map_nil,List.length_cons,List.length_nil,List.nil_append]
            try rfl
           ·have e2':(x.pt.size==p.size)=false:=beq_eq_false_iff_ne.2 e2
            rw [if_neg e2] at hst
            by_cases e3:x.pt.size>p.size
            ·rw [if_pos e3] at hst
             simp -implicitDefEqProofs only [go_sem,hlt',hg,hw,e1',e2',e3,ha3,ze,zf,zg,zc,zb,za,Bool.not_true,Bool.not_false]
             refine ⟨_,by omega,i+1,_,_,_,_,⟨hlt,Shp.s10 (H:=(hvF me p al (left.take (i+1)))) (by rw [hst];exact q1) (by rw [hst])⟩,rfl,?_⟩
             rw [hst]
             try simp only [List.map_append,List.length_append,List.length_map,List.map_cons,List.map_nil,List.length_cons,List.length_nil,List.nil_append]
             try rfl
            ·rw [if_neg e3] at hst
             simp -implicitDefEqProofs only [go_sem,hlt',hg,hw,e1',e2',e3,ze,zf,zg,zc,zb,za,Bool.not_true,Bool.not_false]
             refine ⟨_,by omega,i+1,_,_,_,_,⟨hlt,Shp.s10 (H:=(hvF me p al (left.take (i+1)))) (by rw [hst];exact q1) (by rw [hst])⟩,rfl,?_⟩
             rw [hst]
             try simp only [List.map_append,List.length_append,List.length_map,List.map_cons,List.map_nil,List.length_cons,List.length_nil,List.nil_append]
             try rfl
         | s11 q1 q2=>
          cases e1:yR x.pt p with
          | true=>
           rw [if_pos e1] at hst
           have e1':=e1
           unfold yR at e1'
           simp -implicitDefEqProofs only [go_sem,hlt',hg,hw,e1',ze,zf,zg,zc,zb,za,Bool.not_true,Bool.not_false]
           refine Want.intro hak ?_
           simp -implicitDefEqProofs only [go_sem,ha1,hw,ze,zf,zg,zc,zb,za,Bool.not_true,Bool.not_false]
           refine ⟨_,by omega,i+1,_,_,_,_,⟨hlt,Shp.s11 (H:=(hvF me p al (left.take (i+1)))) (by rw [hst];simp) (by rw [hst];exact q2)⟩,rfl,?_⟩
           rw [hst]
           try simp only [List.map_append,List.length_append,List.length_map,List.map_cons,List.map_nil,List.length_cons,List.length_nil,List.nil_append]
           try rfl
          | false=>
           rw [if_neg (by rw [e1];simp)] at hst
           have e1':=e1
           unfold yR at e1'
           by_cases e2:x.pt.size=p.size
           ·have e2':(x.pt.size==p.size)=true:=by rw [e2];simp
            rw [if_pos e2] at hst
            rw [e2',Bool.true_and] at e1'
            simp -implicitDefEqProofs only [go_sem,hlt',hg,hw,e1',e2',ha2,ze,zf,zg,zc,zb,za,Bool.not_true,Bool.not_false]
            refine ⟨_,by omega,i+1,_,_,_,_,⟨hlt,Shp.s11 (H:=(hvF me p al (left.take (i+1)))) (by rw [hst];exact q1) (by rw [hst];simp)⟩,rfl,?_⟩
            rw [hst]
            try simp only [List.map_append,List.length_append,List.length_map,List.map_cons,List.map_nil,List.length_cons,List.length_nil,List.nil_append]
            try rfl
           ·have e2':(x.pt.size==p.size)=false:=beq_eq_false_iff_ne.2 e2
            rw [if_neg e2] at hst
            by_cases e3:x.pt.size>p.size
            ·rw [if_pos e3] at hst
             simp -implicitDefEqProofs only [go_sem,hlt',hg,hw,e1',e2',e3,ha3,ze,zf,zg,zc,zb,za,Bool.not_true,Bool.not_false]
             refine ⟨_,by omega,i+1,_,_,_,_,⟨hlt,Shp.s11 (H:=(hvF me p al (left.take (i+1)))) (by rw [hst];exact q1) (by rw [hst];exact q2)⟩,rfl,?_⟩
             rw [hst]
             try simp only [List.map_append,List.length_append,List.length_map,List.map_cons,List.map_nil,List.length_cons,List.length_nil,List.nil_append]
             try rfl
            ·rw [if_neg e3] at hst
             simp -implicitDefEqProofs only [go_sem,hlt',hg,hw,e1',e2',e3,ze,zf,zg,zc,zb,za,Bool.not_true,Bool.not_false]
             refine ⟨_,by omega,i+1,_,_,_,_,⟨hlt,Shp.s11 (H:=(hvF me p al (left.take (i+1)))) (by rw [hst];exact q1) (by rw [hst];exact q2)⟩,rfl,?_⟩
             rw [hst]
             try simp only [List.map_append,List.length_append,List.length_map,List.map_cons,List.map_nil,List.length_cons,List.length_nil,List.nil_append]
             try rfl
        ·have hi:i=left.length:=by omega
         subst hi
         have hlt':¬((left.length:Int)<(left.length:Int)):=by omega
         rw [List.take_length] at hc hvl ⊢
         generalize hvF me p al left=H at *
         obtain ⟨le,al',rest⟩:=H
         simp only at hvl
         have hcl2:=ziv rest (by omega)
         cases hc with
         | s00 q1 q2=>
          simp only at q1
          subst q1
          simp only at q2
          subst q2
          simp -implicitDefEqProofs only [go_sem,hlt',ze,zf,zg,zc,zb,za,Bool.not_true,Bool.not_false]
          refine Want.intro hcl2 ?_
          simp -implicitDefEqProofs only [go_sem]
         | s01 q1 q2=>
          simp only at q1
          subst q1
          simp -implicitDefEqProofs only [go_sem,hlt',ze,zf,zg,zc,zb,za,Bool.not_true,Bool.not_false]
          refine Want.intro hcl2 ?_
          simp -implicitDefEqProofs only [go_sem]
         | s10 q1 q2=>
          simp only at q2
          subst q2
          simp -implicitDefEqProofs only [go_sem,hlt',ze,zf,zg,zc,zb,za,Bool.not_true,Bool.not_false]
          refine Want.intro hcl2 ?_
          simp -implicitDefEqProofs only [go_sem]
         | s11 q1 q2=>
          simp -implicitDefEqProofs only [go_sem,hlt',ze,zf,zg,zc,zb,za,Bool.not_true,Bool.not_false]
          refine Want.intro hcl2 ?_
          simp -implicitDefEqProofs only [go_sem]
 ·have c1':(m.from_ != held.size)=true:=by rw [bne_iff_ne];exact c1
  rw [if_pos c1]
  simp -implicitDefEqProofs only [go_sem,c1',ze,zf,zg,zc,zb,za,Bool.not_true,Bool.not_false]
end Go.Proofs.YtpjpkmhaffmbmaaGreat.E
end
section
namespace Go.Proofs.YtpjpkmhaffmbmaaGreat.E
open Go Go.RowKit
set_option maxHeartbeats 4000000
set_option maxRecDepth 10000
set_option linter.unusedSimpArgs false
set_option linter.unusedVariables false
set_option linter.unusedSectionVars false
def dcVB:Dec:=⟨[(43,.cm [false]),(44,.cm [true,false,false,false,false]),(45,.cm [true,false,false,false])],[9,10,11],[22,30,37,38,39,40,49,56,76,80,87,141,143,159,237,250,259],false⟩
theorem c8_c (w:MWit) (me:Int) (l:MLet) (hd:w.disk.ok) (hl:w.wishes.length≤maxLen):zW Tryz.prog 8 [(1000000,0,one ⟨7,w.wishes.map MWish.cs,2,false⟩)] [.agg (w.cs (.blk 1000000 0 [] 7 0 w.wishes.length)),vI me,.agg l.cs] (ym w me l).av ((1000000,0,one ⟨7,w.wishes.map MWish.cs,2,false⟩)::(ym w me l).out):=by
 refine zl dcVB false Tryz.f8 ?_
 conv=>enter [1];reduce
 refine jvM Tryz.f8 87 [.cell 6 42] (by kernel_rfl) (by decide +kernel) rfl ?_
 unfold ym
 simp -implicitDefEqProofs only [go_sem]
 refine Want.intro (c40_c w hd hl) ?_
 cases a1:yr w with
 | false=>
  simp -implicitDefEqProofs only [go_sem,a1,Bool.not_false,Bool.false_and,Bool.false_eq_true,ze,zf,zg,zc,zb,za]
  first | done | rfl | exact ⟨rfl,rfl⟩
 | true=>
  have hw8:=zbu a1
  simp -implicitDefEqProofs only [go_sem,a1,Bool.not_true,ze,zf,zg,zc,zb,za]
  refine Want.intro (c41_c l) ?_
  cases a2:qu l with
  | false=>
   simp -implicitDefEqProofs only [go_sem,Bool.not_false,Bool.and_false,Bool.false_and,Bool.false_eq_true,ze,zf,zg,zc,zb,za]
   first | done | rfl | exact ⟨rfl,rfl⟩
  | true=>
   have hsz:l.text.size≤600:=by
    simp only [qu,Bool.and_eq_true,decide_eq_true_eq] at a2
    omega
   cases a3:mIn me 1 20 with
   | false=>
    by_cases n1:me<1
    ·simp -implicitDefEqProofs only [go_sem,n1,Bool.not_true,Bool.and_self,Bool.and_true,Bool.and_false,Bool.false_eq_true,ze,zf,zg,zc,zb,za]
     first | done | rfl | exact ⟨rfl,rfl⟩
    ·have n2:me>20:=by
      have:¬(1≤me∧me≤20):=fun h=>by rw [mIn_iff.2 h] at a3;cases a3
      omega
     simp -implicitDefEqProofs only [go_sem,n1,n2,Bool.not_true,Bool.and_self,Bool.and_true,Bool.and_false,Bool.false_eq_true,ze,zf,zg,zc,zb,za]
     first | done | rfl | exact ⟨rfl,rfl⟩
   | true=>
    have k3:=mIn_iff.1 a3
    have n1:¬(me<1):=by omega
    have n2:¬(me>20):=by omega
    have hcw:=ziv w.wishes (by omega)
    have hwr:=c43_c l.text (by omega)
    have hwh:=ziw w.disk hd
    have hwl:=zb6 l.text
    have hwi:=qC l.text
    generalize hW:zj l.text=W at *
    obtain ⟨x,code,at_⟩:=W
    simp only at hwl hwi
    have hvo:=c44_c w (zx w.disk) me l.from_ x hw8
    have hvs:=zfL w (zx w.disk) me l.from_ x.session ⟨x.size,x.root⟩
    have hgs:=zfa w (zx w.disk) me x hw8
    have hgr:=fun (hc:code=0)=>c45_c w (zx w.disk) me x hw8 hd (hwi hc).2.2.1 hwl.1
    generalize zx w.disk=held at *
    simp -implicitDefEqProofs only [go_sem,n1,n2,Bool.not_true,Bool.and_self,if_true,ze,zf,zg,zc,zb,za]
    with_reducible refine And.intro ?_ ?_
    all_goals
     refine Want.intro hcw ?_
     simp -implicitDefEqProofs only [go_sem]
     refine WantM.intro hwr ?_
     simp -implicitDefEqProofs only [go_sem]
     refine Want.intro hwh ?_
     cases b1:(code==0)<;>cases b2:(x.kind==3)<;>cases b4:(x.kind==5)<;>cases b3:(l.from_==0)<;>by_cases b5:l.from_>0
     all_goals first
      | (exfalso;simp only [beq_iff_eq] at b3;omega)
      | (exfalso;simp only [beq_iff_eq] at b2 b4;omega)
      | skip
     all_goals simp -implicitDefEqProofs only [go_sem,b1,b2,b3,b4,b5,bne,Bool.not_true,Bool.not_false,Bool.and_true,Bool.and_false,Bool.true_and,Bool.false_and,Bool.false_eq_true,if_false,if_true,ze,zf,zg,zc,zb,za]
     all_goals first
      | (refine WantM.intro hvo ?_
         generalize yh w held me l.from_ x.session ⟨x.size,x.root⟩=T at *
         obtain ⟨dd,ww,rr,kk,ll,aa⟩:=T
         simp only at hvs
         cases kk with
         | none=>
          simp -implicitDefEqProofs only [go_sem]
          refine Want.intro (zkQ ll (by omega)) ?_
          simp -implicitDefEqProofs only [go_sem]
          refine Want.intro (zkP aa (by omega)) ?_
          simp -implicitDefEqProofs only [go_sem]
         | some k=>
          simp -implicitDefEqProofs only [go_sem]
          refine Want.intro (zkQ ll (by omega)) ?_
          simp -implicitDefEqProofs only [go_sem]
          refine Want.intro (zkP aa (by omega)) ?_
          simp -implicitDefEqProofs only [go_sem])
      | (have hc0:code=0:=by simpa using b1
         refine WantM.intro (hgr hc0) ?_
         generalize zZ w held me x=T at *
         obtain ⟨dd,ww,rr,kk,ll,aa⟩:=T
         simp only at hgs
         cases kk with
         | none=>
          simp -implicitDefEqProofs only [go_sem]
          refine Want.intro (zkQ ll (by omega)) ?_
          simp -implicitDefEqProofs only [go_sem]
          refine Want.intro (zkP aa (by omega)) ?_
          simp -implicitDefEqProofs only [go_sem]
         | some k=>
          simp -implicitDefEqProofs only [go_sem]
          refine Want.intro (zkQ ll (by omega)) ?_
          simp -implicitDefEqProofs only [go_sem]
          refine Want.intro (zkP aa (by omega)) ?_
          simp -implicitDefEqProofs only [go_sem])
      | (refine Want.intro copLN ?_
         simp -implicitDefEqProofs only [go_sem]
         refine Want.intro copAN ?_
         simp -implicitDefEqProofs only [go_sem])
end Go.Proofs.YtpjpkmhaffmbmaaGreat.E
end
