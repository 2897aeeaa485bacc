/- FnWitnessTop: for every input the law returns true, and the input reads as it did. No condition. -/
import Derived.Test.YtpjpkmhaffmbmaaGreatK1f
import Derived.Test.YtpjpkmhaffmbmaaGreatRows
section
namespace Go.Proofs.YtpjpkmhaffmbmaaGreat.E
open Go Go.RowKit
set_option maxHeartbeats 4000000
set_option maxRecDepth 10000
set_option linter.unusedSimpArgs false
set_option linter.unusedVariables false
set_option linter.unusedSectionVars false
def dcV8:Dec:=⟨[],[9,10,11],[22,30,37,38,39,40,49,56,76,80,87,141,143,159,237,250,259],false⟩
theorem zlx (d:MDisk) (size:Int) (root:MDig):(yQ d size root).length≤8:=by
 rw [xm]
 split
 ·exact Nat.le_refl 8
 ·exact Nat.zero_le _
theorem c45_c (w:MWit) (held:MPt) (me:Int) (m:MMsg) (hl:w.wishes.length≤8) (hd:w.disk.ok) (hp:∀d∈m.proof,d.ok) (hpl:m.proof.length≤1000):zS Tryz.prog 45 [(1000000,0,one ⟨7,w.wishes.map MWish.cs,2,false⟩)] [zjS w,.agg held.cs,vI me,m.ro] (ya w held me m).av (ya w held me m).out:=by
 refine zj dcV8 false Tryz.f45 ?_
 conv=>enter [1];reduce
 refine jvM Tryz.f45 171 [.cell 8 42] (by kernel_rfl) (by decide +kernel) rfl ?_
 obtain ⟨disk,l⟩:=w
 simp only at hl hd
 have hlm:l.length≤maxLen:=by unfold maxLen;omega
 unfold ya
 simp only
 simp -implicitDefEqProofs only [go_sem]
 by_cases c1:m.from_=held.size
 ·have c1':(m.from_ != held.size)=false:=by rw [bne_eq_false_iff_eq];exact c1
  rw [if_neg (fun h=>h c1)]
  simp -implicitDefEqProofs only [go_sem,c1',ze,zf,zg,zc,zb,za,Bool.not_true,Bool.not_false]
  refine qO [(10,7)] (fun n z=>∃(i:Nat) (c:AV) (R:Sig),(i≤l.length∧((gF held m.size m.proof (l.take i)).al=[]∧c=.nilS∧R=[]∨(gF held m.size m.proof (l.take i)).al≠[]∧c=.blk 10004 0 [] 13 0 (gF held m.size m.proof (l.take i)).al.length∧R=[(10004,0,one ⟨13,(gF held m.size m.proof (l.take i)).al.map MAl.cs,2,false⟩)]))∧n=l.length - i∧z=⟨171,[(2,vI me),(4,.ptr 4 0 [] 19 0 0),(5,.ptr 5 0 [] 5 0 0),(7,.ptr 7 0 [] 11 0 0),(8,.ptr 8 0 [] 19 0 0),(9,.ptr 9 0 [] 19 0 0),(10,.blk 10 0 [] 7 0 (gF held m.size m.proof (l.take i)).left.length),(11,vB (gF held m.size m.proof (l.take i)).taken),(12,.ptr 12 0 [] 5 0 0),(29,.blk 1000000 0 [] 7 0 l.length),(30,vI l.length),(31,vI i)],[(1000000,0,one ⟨7,l.map MWish.cs,2,false⟩),(4,0,one ⟨19,[yf disk (.blk 1000000 0 [] 7 0 l.length) .nilS .nilS .nilS c],0,false⟩)]++(R++[(5,0,one ⟨5,[held.cs],0,false⟩),(7,0,one ⟨11,[m.roC],0,false⟩),(8,0,one ⟨19,[yf zdisk .nilS .nilS .nilS .nilS .nilS],0,false⟩),(9,0,one ⟨19,[yf disk (.blk 1000000 0 [] 7 0 l.length) .nilS .nilS .nilS .nilS],0,false⟩),(10,0,one ⟨7,(gF held m.size m.proof (l.take i)).left.map MWish.cs,2,false⟩),(12,0,one ⟨5,[(gF held m.size m.proof (l.take i)).p.cs],0,false⟩)]),1⟩) l.length ?_ ?_
  ·simp -implicitDefEqProofs only [go_sem,MMsg.roC]
   exact ⟨0,.nilS,[],⟨Nat.zero_le _,.inl ⟨rfl,rfl,rfl⟩⟩,rfl,rfl⟩
  ·rintro n z ⟨i,c,R,⟨hi,hc⟩,rfl,rfl⟩
   rcases Nat.lt_or_ge i l.length with hlt | hge
   ·have hlt':(i:Int)<(l.length:Int):=by omega
    have hg:l[i]?=some l[i]:=List.getElem?_eq_getElem hlt
    have hw:=zB hlt hlm
    have hst:=zj2 (held:=held) (size:=m.size) (P:=m.proof) hlt
    have hle:=zhP held m.size m.proof (l.take i)
    rw [List.length_take] at hle
    have h1m:1≤maxLen:=by unfold maxLen;omega
    generalize l[i]=x at *
    have hgc:=zrG held x.pt m.proof hp
    generalize gF held m.size m.proof (l.take i)=S at *
    obtain ⟨left,tk,p,al⟩:=S
    unfold xd at hst
    simp only at hst hle hc
    generalize mGC held x.pt (m.proof.map MDig.bd)=cd at *
    have ha1:∀v,_:=fun v=>zb9 (L:=left.map MWish.cs) (b:=56) (by rw [List.length_map];omega) (by omega) v
    have ha2:∀v,_:=fun v=>zb9 (L:=al.map MAl.cs) (b:=104) (by rw [List.length_map];omega) (by omega) v
    rcases hc with ⟨rfl,rfl,rfl⟩ | ⟨hne,rfl,rfl⟩
    ·cases tk with
     | true=>
      rw [if_pos (.inl rfl)] at hst
      simp -implicitDefEqProofs only [go_sem,hlt',hg,hw,ha1,ze,zf,zg,zc,zb,za,Bool.not_true,Bool.not_false]
      refine ⟨_,by omega,i+1,.nilS,[],⟨hlt,.inl ⟨by rw [hst],rfl,rfl⟩⟩,rfl,?_⟩
      rw [hst]
      try simp only [List.map_append,List.length_append,List.length_map,List.map_cons,List.map_nil,List.length_cons,List.length_nil,List.nil_append]
      try rfl
     | false=>
      by_cases c2:x.pt.size=m.size
      ·have c2':(x.pt.size != m.size)=false:=by rw [bne_eq_false_iff_eq];exact c2
       rw [if_neg (fun h=>h.elim (by simp) (fun h=>h c2))] at hst
       simp -implicitDefEqProofs only [go_sem,hlt',hg,hw,c2',ze,zf,zg,zc,zb,za,Bool.not_true,Bool.not_false]
       refine Want.intro hgc ?_
       by_cases c3:cd=0
       ·have c3':(cd != 0)=false:=by rw [bne_eq_false_iff_eq];exact c3
        rw [if_neg (fun h=>h c3)] at hst
        simp -implicitDefEqProofs only [go_sem,hw,ha1,c3',ze,zf,zg,zc,zb,za,Bool.not_true,Bool.not_false]
        refine ⟨_,by omega,i+1,.nilS,[],⟨hlt,.inl ⟨by rw [hst],rfl,rfl⟩⟩,rfl,?_⟩
        rw [hst]
        try simp only [List.map_append,List.length_append,List.length_map,List.map_cons,List.map_nil,List.length_cons,List.length_nil,List.nil_append]
        try rfl
       ·have c3':(cd != 0)=true:=by rw [bne_iff_ne];exact c3
        rw [if_pos c3] at hst
        simp -implicitDefEqProofs only [go_sem,hw,h1m,c3',ze,zf,zg,zc,zb,za,Bool.not_true,Bool.not_false]
        refine ⟨_,by omega,i+1,_,_,⟨hlt,.inr ⟨by rw [hst];simp,rfl,rfl⟩⟩,rfl,?_⟩
        rw [hst]
        try simp only [List.map_append,List.length_append,List.length_map,List.map_cons,List.map_nil,List.length_cons,List.length_nil,List.nil_append]
        try rfl
      ·have c2':(x.pt.size != m.size)=true:=by rw [bne_iff_ne];exact c2
       rw [if_pos (.inr c2)] at hst
       simp -implicitDefEqProofs only [go_sem,hlt',hg,hw,ha1,c2',ze,zf,zg,zc,zb,za,Bool.not_true,Bool.not_false]
       refine ⟨_,by omega,i+1,.nilS,[],⟨hlt,.inl ⟨by rw [hst],rfl,rfl⟩⟩,rfl,?_⟩
       rw [hst]
       try simp only [List.map_append,List.length_append,List.length_map,List.map_cons,List.map_nil,List.length_cons,List.length_nil,List.nil_append]
       try rfl
    ·cases tk with
     | true=>
      rw [if_pos (.inl rfl)] at hst
      simp -implicitDefEqProofs only [go_sem,hlt',hg,hw,ha1,ze,zf,zg,zc,zb,za,Bool.not_true,Bool.not_false]
      refine ⟨_,by omega,i+1,_,_,⟨hlt,.inr ⟨by rw [hst];exact hne,rfl,rfl⟩⟩,rfl,?_⟩
      rw [hst]
      try simp only [List.map_append,List.length_append,List.length_map,List.map_cons,List.map_nil,List.length_cons,List.length_nil,List.nil_append]
      try rfl
     | false=>
      by_cases c2:x.pt.size=m.size
      ·have c2':(x.pt.size != m.size)=false:=by rw [bne_eq_false_iff_eq];exact c2
       rw [if_neg (fun h=>h.elim (by simp) (fun h=>h c2))] at hst
       simp -implicitDefEqProofs only [go_sem,hlt',hg,hw,c2',ze,zf,zg,zc,zb,za,Bool.not_true,Bool.not_false]
       refine Want.intro hgc ?_
       by_cases c3:cd=0
       ·have c3':(cd != 0)=false:=by rw [bne_eq_false_iff_eq];exact c3
        rw [if_neg (fun h=>h c3)] at hst
        simp -implicitDefEqProofs only [go_sem,hw,ha1,c3',ze,zf,zg,zc,zb,za,Bool.not_true,Bool.not_false]
        refine ⟨_,by omega,i+1,_,_,⟨hlt,.inr ⟨by rw [hst];exact hne,rfl,rfl⟩⟩,rfl,?_⟩
        rw [hst]
        try simp only [List.map_append,List.length_append,List.length_map,List.map_cons,List.map_nil,List.length_cons,List.length_nil,List.nil_append]
        try rfl
       ·have c3':(cd != 0)=true:=by rw [bne_iff_ne];exact c3
        rw [if_pos c3] at hst
        simp -implicitDefEqProofs only [go_sem,hw,ha2,c3',ze,zf,zg,zc,zb,za,Bool.not_true,Bool.not_false]
        refine ⟨_,by omega,i+1,_,_,⟨hlt,.inr ⟨by rw [hst];simp,rfl,rfl⟩⟩,rfl,?_⟩
        rw [hst]
        try simp only [List.map_append,List.length_append,List.length_map,List.map_cons,List.map_nil,List.length_cons,List.length_nil,List.nil_append]
        try rfl
      ·have c2':(x.pt.size != m.size)=true:=by rw [bne_iff_ne];exact c2
       rw [if_pos (.inr c2)] at hst
       simp -implicitDefEqProofs only [go_sem,hlt',hg,hw,ha1,c2',ze,zf,zg,zc,zb,za,Bool.not_true,Bool.not_false]
       refine ⟨_,by omega,i+1,_,_,⟨hlt,.inr ⟨by rw [hst];exact hne,rfl,rfl⟩⟩,rfl,?_⟩
       rw [hst]
       try simp only [List.map_append,List.length_append,List.length_map,List.map_cons,List.map_nil,List.length_cons,List.length_nil,List.nil_append]
       try rfl
   ·have hi:i=l.length:=by omega
    subst hi
    have hlt':¬((l.length:Int)<(l.length:Int)):=by omega
    have hle:=zhP held m.size m.proof l
    rw [List.take_length] at hc ⊢
    generalize gF held m.size m.proof l=S at *
    obtain ⟨left,tk,p,al⟩:=S
    simp only at hle hc ⊢
    have hcl:=zh0 left (by omega)
    cases tk with
    | false=>
     rw [if_pos rfl]
     rcases hc with ⟨rfl,rfl,rfl⟩ | ⟨hne,rfl,rfl⟩
     ·simp -implicitDefEqProofs only [go_sem,hlt',ze,zf,zg,zc,zb,za,Bool.not_true,Bool.not_false]
      refine Want.intro hcl ?_
      simp -implicitDefEqProofs only [go_sem,ze,zf,zg,zc,zb,za,Bool.not_true,Bool.not_false,Bool.false_eq_true]
     ·simp -implicitDefEqProofs only [go_sem,hlt',ze,zf,zg,zc,zb,za,Bool.not_true,Bool.not_false]
      refine Want.intro hcl ?_
      simp -implicitDefEqProofs only [go_sem,ze,zf,zg,zc,zb,za,Bool.not_true,Bool.not_false,Bool.false_eq_true]
    | true=>
     rw [if_neg (by simp)]
     have hrr:=zrF disk p.size p.root hd
     have hRl:=zlx disk p.size p.root
     generalize yQ disk p.size p.root=R at *
     by_cases hR:R=[]
     ·rw [if_pos hR]
      subst hR
      have hR0:(((0:Nat):Int)==0)=true:=rfl
      rcases hc with ⟨rfl,rfl,rfl⟩ | ⟨hne,rfl,rfl⟩
      ·simp -implicitDefEqProofs only [go_sem,hlt',ze,zf,zg,zc,zb,za,Bool.not_true,Bool.not_false]
       refine Want.intro hcl ?_
       simp -implicitDefEqProofs only [go_sem,ze,zf,zg,zc,zb,za,Bool.not_true,Bool.not_false]
       refine Want.intro hrr ?_
       simp -implicitDefEqProofs only [go_sem,hR0,ze,zf,zg,zc,zb,za,Bool.not_true,Bool.not_false]
      ·simp -implicitDefEqProofs only [go_sem,hlt',ze,zf,zg,zc,zb,za,Bool.not_true,Bool.not_false]
       refine Want.intro hcl ?_
       simp -implicitDefEqProofs only [go_sem,ze,zf,zg,zc,zb,za,Bool.not_true,Bool.not_false]
       refine Want.intro hrr ?_
       simp -implicitDefEqProofs only [go_sem,hR0,ze,zf,zg,zc,zb,za,Bool.not_true,Bool.not_false]
     ·rw [if_neg hR]
      have hR0:((R.length:Int)==0)=false:=by
       rw [beq_eq_false_iff_ne]
       intro h
       exact hR (List.eq_nil_of_length_eq_zero (by omega))
      have hdw:=c68_c disk R (by unfold maxLen;omega)
      have hcp:=zmS m.proof (by omega)
      rcases hc with ⟨rfl,rfl,rfl⟩ | ⟨hne,rfl,rfl⟩
      ·simp -implicitDefEqProofs only [go_sem,hlt',ze,zf,zg,zc,zb,za,Bool.not_true,Bool.not_false]
       refine Want.intro hcl ?_
       simp -implicitDefEqProofs only [go_sem,ze,zf,zg,zc,zb,za,Bool.not_true,Bool.not_false]
       refine Want.intro hrr ?_
       simp -implicitDefEqProofs only [go_sem,hR0,ze,zf,zg,zc,zb,za,Bool.not_true,Bool.not_false]
       refine Want.intro hdw ?_
       simp -implicitDefEqProofs only [go_sem]
       refine Want.intro hcp ?_
       simp -implicitDefEqProofs only [go_sem]
       generalize zC disk R=D at *
       refine qO [(16,7)] (fun n z=>∃(i:Nat) (c1 c2:AV) (X:Sig) (nm:Nat),(i≤left.length∧Shp (hvF me p [] (left.take i)) m.proof 4 c1 c2 X nm)∧n=left.length - i∧z=⟨171,[(2,vI me),(4,.ptr 4 0 [] 19 0 0),(8,.ptr 8 0 [] 19 0 0),(12,.ptr 12 0 [] 5 0 0),(16,.blk 16 0 [] 7 0 (hvF me p [] (left.take i)).rest.length),(113,.blk 113 0 [] 7 0 left.length),(114,vI left.length),(115,vI i)],[(1000000,0,one ⟨7,l.map MWish.cs,2,false⟩),(4,0,one ⟨19,[yf D (.blk 10004 0 [] 7 0 left.length) (.blk 20004 0 [] 3 0 R.length) (.blk 30004 0 [] 11 0 1) c1 c2],0,false⟩),(10004,0,one ⟨7,left.map MWish.cs,2,false⟩),(20004,0,one ⟨3,R.map MRaw.cs,2,false⟩),(30004,0,one ⟨11,[MKeep.cs ⟨held,p,m.proof⟩ (.blk nm 0 [] 4 0 m.proof.length)],0,false⟩)]++(X++[(8,0,one ⟨19,[yf zdisk .nilS .nilS .nilS .nilS .nilS],0,false⟩),(12,0,one ⟨5,[p.cs],0,false⟩),(16,0,one ⟨7,(hvF me p [] (left.take i)).rest.map MWish.cs,2,false⟩),(113,0,one ⟨7,left.map MWish.cs,2,false⟩)]),1⟩) left.length ?_ ?_
       ·simp -implicitDefEqProofs only [go_sem]
        first
         | exact ⟨0,_,_,_,_,⟨Nat.zero_le _,Shp.s00 (H:=hvF me p [] (left.take 0)) rfl rfl⟩,rfl,rfl⟩
         | exact ⟨0,_,_,_,_,⟨Nat.zero_le _,Shp.s01 (H:=hvF me p [] (left.take 0)) rfl hne⟩,rfl,rfl⟩
       ·rintro n z ⟨i,c1,c2,X,nm,⟨hi,hc⟩,rfl,rfl⟩
        have hvl:=zcY me p [] (left.take i)
        rw [List.length_take] at hvl
        rcases Nat.lt_or_ge i left.length with hlt | hge
        ·have hlt':(i:Int)<(left.length:Int):=by omega
         have hg:left[i]?=some left[i]:=List.getElem?_eq_getElem hlt
         have hw:=zB hlt (show left.length≤maxLen by unfold maxLen;omega)
         have hst:=za1 (me:=me) (p:=p) (al:=[]) hlt
         have h1m:1≤maxLen:=by unfold maxLen;omega
         generalize left[i]=x at *
         have hak:=zkr me x.who x.session p
         generalize hvF me p [] (left.take i)=H at *
         obtain ⟨le,al',rest⟩:=H
         unfold xY at hst
         simp only at hst hvl
         have ha1:∀v,_:=fun v=>zb9 (L:=le.map MLet.cs) (b:=32) (by rw [List.length_map];omega) (by omega) v
         have ha2:∀v,_:=fun v=>zb9 (L:=al'.map MAl.cs) (b:=104) (by rw [List.length_map];omega) (by omega) v
         have ha3:∀v,_:=fun v=>zb9 (L:=rest.map MWish.cs) (b:=56) (by rw [List.length_map];omega) (by omega) v
         cases hc with
         | s00 q1 q2=>
          simp only at q1
          subst q1
          simp only at q2
          subst q2
          cases e1:yR x.pt p with
          | true=>
           rw [if_pos e1] at hst
           have e1':=e1
           unfold yR at e1'
           simp -implicitDefEqProofs only [go_sem,hlt',hg,hw,e1',ze,zf,zg,zc,zb,za,Bool.not_true,Bool.not_false]
           refine Want.intro hak ?_
           simp -implicitDefEqProofs only [go_sem,h1m,hw,ze,zf,zg,zc,zb,za,Bool.not_true,Bool.not_false]
           refine ⟨_,by omega,i+1,_,_,_,_,⟨hlt,Shp.s10 (H:=(hvF me p [] (left.take (i+1)))) (by rw [hst];simp) (by rw [hst])⟩,rfl,?_⟩
           rw [hst]
           try simp only [List.map_append,List.length_append,List.length_map,List.map_cons,List.map_nil,List.length_cons,List.length_nil,List.nil_append]
           try rfl
          | false=>
           rw [if_neg (by rw [e1];simp)] at hst
           have e1':=e1
           unfold yR at e1'
           by_cases e2:x.pt.size=p.size
           ·have e2':(x.pt.size==p.size)=true:=by rw [e2];simp
            rw [if_pos e2] at hst
            rw [e2',Bool.true_and] at e1'
            simp -implicitDefEqProofs only [go_sem,hlt',hg,hw,e1',e2',h1m,ze,zf,zg,zc,zb,za,Bool.not_true,Bool.not_false]
            refine ⟨_,by omega,i+1,_,_,_,_,⟨hlt,Shp.s01 (H:=(hvF me p [] (left.take (i+1)))) (by rw [hst]) (by rw [hst];simp)⟩,rfl,?_⟩
            rw [hst]
            try simp only [List.map_append,List.length_append,List.length_map,List.map_cons,List.map_nil,List.length_cons,List.length_nil,List.nil_append]
            try rfl
           ·have e2':(x.pt.size==p.size)=false:=beq_eq_false_iff_ne.2 e2
            rw [if_neg e2] at hst
            by_cases e3:x.pt.size>p.size
            ·rw [if_pos e3] at hst
             simp -implicitDefEqProofs only [go_sem,hlt',hg,hw,e1',e2',e3,ha3,ze,zf,zg,zc,zb,za,Bool.not_true,Bool.not_false]
             refine ⟨_,by omega,i+1,_,_,_,_,⟨hlt,Shp.s00 (H:=(hvF me p [] (left.take (i+1)))) (by rw [hst]) (by rw [hst])⟩,rfl,?_⟩
             rw [hst]
             try simp only [List.map_append,List.length_append,List.length_map,List.map_cons,List.map_nil,List.length_cons,List.length_nil,List.nil_append]
             try rfl
            ·rw [if_neg e3] at hst
             simp -implicitDefEqProofs only [go_sem,hlt',hg,hw,e1',e2',e3,ze,zf,zg,zc,zb,za,Bool.not_true,Bool.not_false]
             refine ⟨_,by omega,i+1,_,_,_,_,⟨hlt,Shp.s00 (H:=(hvF me p [] (left.take (i+1)))) (by rw [hst]) (by rw [hst])⟩,rfl,?_⟩
             rw [hst]
             try simp only [List.map_append,List.length_append,List.length_map,List.map_cons,List.map_nil,List.length_cons,List.length_nil,List.nil_append]
             try rfl
         | s01 q1 q2=>
          simp only at q1
          subst q1
          cases e1:yR x.pt p with
          | true=>
           rw [if_pos e1] at hst
           have e1':=e1
           unfold yR at e1'
           simp -implicitDefEqProofs only [go_sem,hlt',hg,hw,e1',ze,zf,zg,zc,zb,za,Bool.not_true,Bool.not_false]
           refine Want.intro hak ?_
           simp -implicitDefEqProofs only [go_sem,h1m,hw,ze,zf,zg,zc,zb,za,Bool.not_true,Bool.not_false]
           refine ⟨_,by omega,i+1,_,_,_,_,⟨hlt,Shp.s11 (H:=(hvF me p [] (left.take (i+1)))) (by rw [hst];simp) (by rw [hst];exact q2)⟩,rfl,?_⟩
           rw [hst]
           try simp only [List.map_append,List.length_append,List.length_map,List.map_cons,List.map_nil,List.length_cons,List.length_nil,List.nil_append]
           try rfl
          | false=>
           rw [if_neg (by rw [e1];simp)] at hst
           have e1':=e1
           unfold yR at e1'
           by_cases e2:x.pt.size=p.size
           ·have e2':(x.pt.size==p.size)=true:=by rw [e2];simp
            rw [if_pos e2] at hst
            rw [e2',Bool.true_and] at e1'
            simp -implicitDefEqProofs only [go_sem,hlt',hg,hw,e1',e2',ha2,ze,zf,zg,zc,zb,za,Bool.not_true,Bool.not_false]
            refine ⟨_,by omega,i+1,_,_,_,_,⟨hlt,Shp.s01 (H:=(hvF me p [] (left.take (i+1)))) (by rw [hst]) (by rw [hst];simp)⟩,rfl,?_⟩
            rw [hst]
            try simp only [List.map_append,List.length_append,List.length_map,List.map_cons,List.map_nil,List.length_cons,List.length_nil,List.nil_append]
            try rfl
           ·have e2':(x.pt.size==p.size)=false:=beq_eq_false_iff_ne.2 e2
            rw [if_neg e2] at hst
            by_cases e3:x.pt.size>p.size
            ·rw [if_pos e3] at hst
             simp -implicitDefEqProofs only [go_sem,hlt',hg,hw,e1',e2',e3,ha3,ze,zf,zg,zc,zb,za,Bool.not_true,Bool.not_false]
             refine ⟨_,by omega,i+1,_,_,_,_,⟨hlt,Shp.s01 (H:=(hvF me p [] (left.take (i+1)))) (by rw [hst]) (by rw [hst];exact q2)⟩,rfl,?_⟩
             rw [hst]
             try simp only [List.map_append,List.length_append,List.length_map,List.map_cons,List.map_nil,List.length_cons,List.length_nil,List.nil_append]
             try rfl
            ·rw [if_neg e3] at hst
             simp -implicitDefEqProofs only [go_sem,hlt',hg,hw,e1',e2',e3,ze,zf,zg,zc,zb,za,Bool.not_true,Bool.not_false]
             refine ⟨_,by omega,i+1,_,_,_,_,⟨hlt,Shp.s01 (H:=(hvF me p [] (left.take (i+1)))) (by rw [hst]) (by rw [hst];exact q2)⟩,rfl,?_⟩
             rw [hst]
             try simp only [List.map_append,List.length_append,List.length_map,List.map_cons,List.map_nil,List.length_cons,List.length_nil,List.nil_append]
             try rfl
         | s10 q1 q2=>
          simp only at q2
          subst q2
          cases e1:yR x.pt p with
          | true=>
           rw [if_pos e1] at hst
           have e1':=e1
           unfold yR at e1'
           simp -implicitDefEqProofs only [go_sem,hlt',hg,hw,e1',ze,zf,zg,zc,zb,za,Bool.not_true,Bool.not_false]
           refine Want.intro hak ?_
           simp -implicitDefEqProofs only [go_sem,ha1,hw,ze,zf,zg,zc,zb,za,Bool.not_true,Bool.not_false]
           refine ⟨_,by omega,i+1,_,_,_,_,⟨hlt,Shp.s10 (H:=(hvF me p [] (left.take (i+1)))) (by rw [hst];simp) (by rw [hst])⟩,rfl,?_⟩
           rw [hst]
           try simp only [List.map_append,List.length_append,List.length_map,List.map_cons,List.map_nil,List.length_cons,List.length_nil,List.nil_append]
           try rfl
          | false=>
           rw [if_neg (by rw [e1];simp)] at hst
           have e1':=e1
           unfold yR at e1'
           by_cases e2:x.pt.size=p.size
           ·have e2':(x.pt.size==p.size)=true:=by rw [e2];simp
            rw [if_pos e2] at hst
            rw [e2',Bool.true_and] at e1'
            simp -implicitDefEqProofs only [go_sem,hlt',hg,hw,e1',e2',h1m,ze,zf,zg,zc,zb,za,Bool.not_true,Bool.not_false]
            refine ⟨_,by omega,i+1,_,_,_,_,⟨hlt,Shp.s11 (H:=(hvF me p [] (left.take (i+1)))) (by rw [hst];exact q1) (by rw [hst];simp)⟩,rfl,?_⟩
            rw [hst]
            try simp only [List.map_append,List.length_append,List.length_map,List.map_cons,List.map_nil,List.length_cons,List.length_nil,List.nil_append]
            try rfl
           ·have e2':(x.pt.size==p.size)=false:=beq_eq_false_iff_ne.2 e2
            rw [if_neg e2] at hst
            by_cases e3:x.pt.size>p.size
            ·rw [if_pos e3] at hst
             simp -implicitDefEqProofs only [go_sem,hlt',hg,hw,e1',e2',e3,ha3,ze,zf,zg,zc,zb,za,Bool.not_true,Bool.not_false]
             refine ⟨_,by omega,i+1,_,_,_,_,⟨hlt,Shp.s10 (H:=(hvF me p [] (left.take (i+1)))) (by rw [hst];exact q1) (by rw [hst])⟩,rfl,?_⟩
             rw [hst]
             try simp only [List.map_append,List.length_append,List.length_map,List.map_cons,List.map_nil,List.length_cons,List.length_nil,List.nil_append]
             try rfl
            ·rw [if_neg e3] at hst
             simp -implicitDefEqProofs only [go_sem,hlt',hg,hw,e1',e2',e3,ze,zf,zg,zc,zb,za,Bool.not_true,Bool.not_false]
             refine ⟨_,by omega,i+1,_,_,_,_,⟨hlt,Shp.s10 (H:=(hvF me p [] (left.take (i+1)))) (by rw [hst];exact q1) (by rw [hst])⟩,rfl,?_⟩
             rw [hst]
             try simp only [List.map_append,List.length_append,List.length_map,List.map_cons,List.map_nil,List.length_cons,List.length_nil,List.nil_append]
             try rfl
         | s11 q1 q2=>
          cases e1:yR x.pt p with
          | true=>
           rw [if_pos e1] at hst
           have e1':=e1
           unfold yR at e1'
           simp -implicitDefEqProofs only [go_sem,hlt',hg,hw,e1',ze,zf,zg,zc,zb,za,Bool.not_true,Bool.not_false]
           refine Want.intro hak ?_
           simp -implicitDefEqProofs only [go_sem,ha1,hw,ze,zf,zg,zc,zb,za,Bool.not_true,Bool.not_false]
           refine ⟨_,by omega,i+1,_,_,_,_,⟨hlt,Shp.s11 (H:=(hvF me p [] (left.take (i+1)))) (by rw [hst];simp) (by rw [hst];exact q2)⟩,rfl,?_⟩
           rw [hst]
           try simp only [List.map_append,List.length_append,List.length_map,List.map_cons,List.map_nil,List.length_cons,List.length_nil,List.nil_append]
           try rfl
          | false=>
           rw [if_neg (by rw [e1];simp)] at hst
           have e1':=e1
           unfold yR at e1'
           by_cases e2:x.pt.size=p.size
           ·have e2':(x.pt.size==p.size)=true:=by rw [e2];simp
            rw [if_pos e2] at hst
            rw [e2',Bool.true_and] at e1'
            simp -implicitDefEqProofs only [go_sem,hlt',hg,hw,e1',e2',ha2,ze,zf,zg,zc,zb,za,Bool.not_true,Bool.not_false]
            refine ⟨_,by omega,i+1,_,_,_,_,⟨hlt,Shp.s11 (H:=(hvF me p [] (left.take (i+1)))) (by rw [hst];exact q1) (by rw [hst];simp)⟩,rfl,?_⟩
            rw [hst]
            try simp only [List.map_append,List.length_append,List.length_map,List.map_cons,List.map_nil,List.length_cons,List.length_nil,List.nil_append]
            try rfl
           ·have e2':(x.pt.size==p.size)=false:=beq_eq_false_iff_ne.2 e2
            rw [if_neg e2] at hst
            by_cases e3:x.pt.size>p.size
            ·rw [if_pos e3] at hst
             simp -implicitDefEqProofs only [go_sem,hlt',hg,hw,e1',e2',e3,ha3,ze,zf,zg,zc,zb,za,Bool.not_true,Bool.not_false]
             refine ⟨_,by omega,i+1,_,_,_,_,⟨hlt,Shp.s11 (H:=(hvF me p [] (left.take (i+1)))) (by rw [hst];exact q1) (by rw [hst];exact q2)⟩,rfl,?_⟩
             rw [hst]
             try simp only [List.map_append,List.length_append,List.length_map,List.map_cons,List.map_nil,List.length_cons,List.length_nil,List.nil_append]
             try rfl
            ·rw [if_neg e3] at hst
             simp -implicitDefEqProofs only [go_sem,hlt',hg,hw,e1',e2',e3,ze,zf,zg,zc,zb,za,Bool.not_true,Bool.not_false]
             refine ⟨_,by omega,i+1,_,_,_,_,⟨hlt,Shp.s11 (H:=(hvF me p [] (left.take (i+1)))) (by rw [hst];exact q1) (by rw [hst];exact q2)⟩,rfl,?_⟩
             rw [hst]
             try simp only [List.map_append,List.length_append,List.length_map,List.map_cons,List.map_nil,List.length_cons,List.length_nil,List.nil_append]
             try rfl
        ·have hi:i=left.length:=by omega
         subst hi
         have hlt':¬((left.length:Int)<(left.length:Int)):=by omega
         rw [List.take_length] at hc hvl ⊢
         generalize hvF me p [] left=H at *
         obtain ⟨le,al',rest⟩:=H
         simp only at hvl
         have hcl2:=zh0 rest (by omega)
         cases hc with
         | s00 q1 q2=>
          simp only at q1
          subst q1
          simp only at q2
          subst q2
          simp -implicitDefEqProofs only [go_sem,hlt',ze,zf,zg,zc,zb,za,Bool.not_true,Bool.not_false]
          refine Want.intro hcl2 ?_
          simp -implicitDefEqProofs only [go_sem]
         | s01 q1 q2=>
          simp only at q1
          subst q1
          simp -implicitDefEqProofs only [go_sem,hlt',ze,zf,zg,zc,zb,za,Bool.not_true,Bool.not_false]
          refine Want.intro hcl2 ?_
          simp -implicitDefEqProofs only [go_sem]
         | s10 q1 q2=>
          simp only at q2
          subst q2
          simp -implicitDefEqProofs only [go_sem,hlt',ze,zf,zg,zc,zb,za,Bool.not_true,Bool.not_false]
          refine Want.intro hcl2 ?_
          simp -implicitDefEqProofs only [go_sem]
         | s11 q1 q2=>
          simp -implicitDefEqProofs only [go_sem,hlt',ze,zf,zg,zc,zb,za,Bool.not_true,Bool.not_false]
          refine Want.intro hcl2 ?_
          simp -implicitDefEqProofs only [go_sem]
      ·simp -implicitDefEqProofs only [go_sem,hlt',ze,zf,zg,zc,zb,za,Bool.not_true,Bool.not_false]
       refine Want.intro hcl ?_
       simp -implicitDefEqProofs only [go_sem,ze,zf,zg,zc,zb,za,Bool.not_true,Bool.not_false]
       refine Want.intro hrr ?_
       simp -implicitDefEqProofs only [go_sem,hR0,ze,zf,zg,zc,zb,za,Bool.not_true,Bool.not_false]
       refine Want.intro hdw ?_
       simp -implicitDefEqProofs only [go_sem]
       refine Want.intro hcp ?_
       simp -implicitDefEqProofs only [go_sem]
       generalize zC disk R=D at *
       refine qO [(16,7)] (fun n z=>∃(i:Nat) (c1 c2:AV) (X:Sig) (nm:Nat),(i≤left.length∧Shp (hvF me p al (left.take i)) m.proof 4 c1 c2 X nm)∧n=left.length - i∧z=⟨171,[(2,vI me),(4,.ptr 4 0 [] 19 0 0),(8,.ptr 8 0 [] 19 0 0),(12,.ptr 12 0 [] 5 0 0),(16,.blk 16 0 [] 7 0 (hvF me p al (left.take i)).rest.length),(113,.blk 113 0 [] 7 0 left.length),(114,vI left.length),(115,vI i)],[(1000000,0,one ⟨7,l.map MWish.cs,2,false⟩),(4,0,one ⟨19,[yf D (.blk 10004 0 [] 7 0 left.length) (.blk 20004 0 [] 3 0 R.length) (.blk 30004 0 [] 11 0 1) c1 c2],0,false⟩),(10004,0,one ⟨7,left.map MWish.cs,2,false⟩),(20004,0,one ⟨3,R.map MRaw.cs,2,false⟩),(30004,0,one ⟨11,[MKeep.cs ⟨held,p,m.proof⟩ (.blk nm 0 [] 4 0 m.proof.length)],0,false⟩)]++(X++[(8,0,one ⟨19,[yf zdisk .nilS .nilS .nilS .nilS .nilS],0,false⟩),(12,0,one ⟨5,[p.cs],0,false⟩),(16,0,one ⟨7,(hvF me p al (left.take i)).rest.map MWish.cs,2,false⟩),(113,0,one ⟨7,left.map MWish.cs,2,false⟩)]),1⟩) left.length ?_ ?_
       ·simp -implicitDefEqProofs only [go_sem]
        first
         | exact ⟨0,_,_,_,_,⟨Nat.zero_le _,Shp.s00 (H:=hvF me p [] (left.take 0)) rfl rfl⟩,rfl,rfl⟩
         | exact ⟨0,_,_,_,_,⟨Nat.zero_le _,Shp.s01 (H:=hvF me p al (left.take 0)) rfl hne⟩,rfl,rfl⟩
       ·rintro n z ⟨i,c1,c2,X,nm,⟨hi,hc⟩,rfl,rfl⟩
        have hvl:=zcY me p al (left.take i)
        rw [List.length_take] at hvl
        rcases Nat.lt_or_ge i left.length with hlt | hge
        ·have hlt':(i:Int)<(left.length:Int):=by omega
         have hg:left[i]?=some left[i]:=List.getElem?_eq_getElem hlt
         have hw:=zB hlt (show left.length≤maxLen by unfold maxLen;omega)
         have hst:=za1 (me:=me) (p:=p) (al:=al) hlt
         have h1m:1≤maxLen:=by unfold maxLen;omega
         generalize left[i]=x at *
         have hak:=zkr me x.who x.session p
         generalize hvF me p al (left.take i)=H at *
         obtain ⟨le,al',rest⟩:=H
         unfold xY at hst
         simp only at hst hvl
         have ha1:∀v,_:=fun v=>zb9 (L:=le.map MLet.cs) (b:=32) (by rw [List.length_map];omega) (by omega) v
         have ha2:∀v,_:=fun v=>zb9 (L:=al'.map MAl.cs) (b:=104) (by rw [List.length_map];omega) (by omega) v
         have ha3:∀v,_:=fun v=>zb9 (L:=rest.map MWish.cs) (b:=56) (by rw [List.length_map];omega) (by omega) v
         cases hc with
         | s00 q1 q2=>
          simp only at q1
          subst q1
          simp only at q2
          subst q2
          cases e1:yR x.pt p with
          | true=>
           rw [if_pos e1] at hst
           have e1':=e1
           unfold yR at e1'
           simp -implicitDefEqProofs only [go_sem,hlt',hg,hw,e1',ze,zf,zg,zc,zb,za,Bool.not_true,Bool.not_false]
           refine Want.intro hak ?_
           simp -implicitDefEqProofs only [go_sem,h1m,hw,ze,zf,zg,zc,zb,za,Bool.not_true,Bool.not_false]
           refine ⟨_,by omega,i+1,_,_,_,_,⟨hlt,Shp.s10 (H:=(hvF me p al (left.take (i+1)))) (by rw [hst];simp) (by rw [hst])⟩,rfl,?_⟩
           rw [hst]
           try simp only [List.map_append,List.length_append,List.length_map,List.map_cons,List.map_nil,List.length_cons,List.length_nil,List.nil_append]
           try rfl
          | false=>
           rw [if_neg (by rw [e1];simp)] at hst
           have e1':=e1
           unfold yR at e1'
           by_cases e2:x.pt.size=p.size
           ·have e2':(x.pt.size==p.size)=true:=by rw [e2];simp
            rw [if_pos e2] at hst
            rw [e2',Bool.true_and] at e1'
            simp -implicitDefEqProofs only [go_sem,hlt',hg,hw,e1',e2',h1m,ze,zf,zg,zc,zb,za,Bool.not_true,Bool.not_false]
            refine ⟨_,by omega,i+1,_,_,_,_,⟨hlt,Shp.s01 (H:=(hvF me p al (left.take (i+1)))) (by rw [hst]) (by rw [hst];simp)⟩,rfl,?_⟩
            rw [hst]
            try simp only [List.map_append,List.length_append,List.length_map,List.map_cons,List.map_nil,List.length_cons,List.length_nil,List.nil_append]
            try rfl
           ·have e2':(x.pt.size==p.size)=false:=beq_eq_false_iff_ne.2 e2
            rw [if_neg e2] at hst
            by_cases e3:x.pt.size>p.size
            ·rw [if_pos e3] at hst
             simp -implicitDefEqProofs only [go_sem,hlt',hg,hw,e1',e2',e3,ha3,ze,zf,zg,zc,zb,za,Bool.not_true,Bool.not_false]
             refine ⟨_,by omega,i+1,_,_,_,_,⟨hlt,Shp.s00 (H:=(hvF me p al (left.take (i+1)))) (by rw [hst]) (by rw [hst])⟩,rfl,?_⟩
             rw [hst]
             try simp only [List.map_append,List.length_append,List.length_map,List.map_cons,List.map_nil,List.length_cons,List.length_nil,List.nil_append]
             try rfl
            ·rw [if_neg e3] at hst
             simp -implicitDefEqProofs only [go_sem,hlt',hg,hw,e1',e2',e3,ze,zf,zg,zc,zb,za,Bool.not_true,Bool.not_false]
             refine ⟨_,by omega,i+1,_,_,_,_,⟨hlt,Shp.s00 (H:=(hvF me p al (left.take (i+1)))) (by rw [hst]) (by rw [hst])⟩,rfl,?_⟩
             rw [hst]
             try simp only [List.map_append,List.length_append,List.length_map,List.map_cons,List.map_nil,List.length_cons,List.length_nil,List.nil_append]
             try rfl
         | s01 q1 q2=>
          simp only at q1
          subst q1
          cases e1:yR x.pt p with
          | true=>
           rw [if_pos e1] at hst
           have e1':=e1
           unfold yR at e1'
           simp -implicitDefEqProofs only [go_sem,hlt',hg,hw,e1',ze,zf,zg,zc,zb,za,Bool.not_true,Bool.not_false]
           refine Want.intro hak ?_
           simp -implicitDefEqProofs only [go_sem,h1m,hw,ze,zf,zg,zc,zb,za,Bool.not_true,Bool.not_false]
           refine ⟨_,by omega,i+1,_,_,_,_,⟨hlt,Shp.s11 (H:=(hvF me p al (left.take (i+1)))) (by rw [hst];simp) (by rw [hst];exact q2)⟩,rfl,?_⟩
           rw [hst]
           try simp only [List.map_append,List.length_append,List.length_map,List.map_cons,List.map_nil,List.length_cons,List.length_nil,List.nil_append]
           try rfl
          | false=>
           rw [if_neg (by rw [e1];simp)] at hst
           have e1':=e1
           unfold yR at e1'
           by_cases e2:x.pt.size=p.size
           ·have e2':(x.pt.size==p.size)=true:=by rw [e2];simp
            rw [if_pos e2] at hst
            rw [e2',Bool.true_and] at e1'
            simp -implicitDefEqProofs only [go_sem,hlt',hg,hw,e1',e2',ha2,ze,zf,zg,zc,zb,za,Bool.not_true,Bool.not_false]
            refine ⟨_,by omega,i+1,_,_,_,_,⟨hlt,Shp.s01 (H:=(hvF me p al (left.take (i+1)))) (by rw [hst]) (by rw [hst];simp)⟩,rfl,?_⟩
            rw [hst]
            try simp only [List.map_append,List.length_append,List.length_map,List.map_cons,List.map_nil,List.length_cons,List.length_nil,List.nil_append]
            try rfl
           ·have e2':(x.pt.size==p.size)=false:=beq_eq_false_iff_ne.2 e2
            rw [if_neg e2] at hst
            by_cases e3:x.pt.size>p.size
            ·rw [if_pos e3] at hst
             simp -implicitDefEqProofs only [go_sem,hlt',hg,hw,e1',e2',e3,ha3,ze,zf,zg,zc,zb,za,Bool.not_true,Bool.not_false]
             refine ⟨_,by omega,i+1,_,_,_,_,⟨hlt,Shp.s01 (H:=(hvF me p al (left.take (i+1)))) (by rw [hst]) (by rw [hst];exact q2)⟩,rfl,?_⟩
             rw [hst]
             try simp only [List.map_append,List.length_append,List.length_map,List.map_cons,List.map_nil,List.length_cons,List.length_nil,List.nil_append]
             try rfl
            ·rw [if_neg e3] at hst
             simp -implicitDefEqProofs only [go_sem,hlt',hg,hw,e1',e2',e3,ze,zf,zg,zc,zb,za,Bool.not_true,Bool.not_false]
             refine ⟨_,by omega,i+1,_,_,_,_,⟨hlt,Shp.s01 (H:=(hvF me p al (left.take (i+1)))) (by rw [hst]) (by rw [hst];exact q2)⟩,rfl,?_⟩
             rw [hst]
             try simp only [List.map_append,List.length_append,List.length_map,List.map_cons,List.map_nil,List.length_cons,List.length_nil,List.nil_append]
             try rfl
         | s10 q1 q2=>
          simp only at q2
          subst q2
          cases e1:yR x.pt p with
          | true=>
           rw [if_pos e1] at hst
           have e1':=e1
           unfold yR at e1'
           simp -implicitDefEqProofs only [go_sem,hlt',hg,hw,e1',ze,zf,zg,zc,zb,za,Bool.not_true,Bool.not_false]
           refine Want.intro hak ?_
           simp -implicitDefEqProofs only [go_sem,ha1,hw,ze,zf,zg,zc,zb,za,Bool.not_true,Bool.not_false]
           refine ⟨_,by omega,i+1,_,_,_,_,⟨hlt,Shp.s10 (H:=(hvF me p al (left.take (i+1)))) (by rw [hst];simp) (by rw [hst])⟩,rfl,?_⟩
           rw [hst]
           try simp only [List.map_append,List.length_append,List.length_map,List.map_cons,List.map_nil,List.length_cons,List.length_nil,List.nil_append]
           try rfl
          | false=>
           rw [if_neg (by rw [e1];simp)] at hst
           have e1':=e1
           unfold yR at e1'
           by_cases e2:x.pt.size=p.size
           ·have e2':(x.pt.size==p.size)=true:=by rw [e2];simp
            rw [if_pos e2] at hst
            rw [e2',Bool.true_and] at e1'
            simp -implicitDefEqProofs only [go_sem,hlt',hg,hw,e1',e2',h1m,ze,zf,zg,zc,zb,za,Bool.not_true,Bool.not_false]
            refine ⟨_,by omega,i+1,_,_,_,_,⟨hlt,Shp.s11 (H:=(hvF me p al (left.take (i+1)))) (by rw [hst];exact q1) (by rw [hst];simp)⟩,rfl,?_⟩
            rw [hst]
            try simp only [List.map_append,List.length_append,List.length_map,List.map_cons,List.map_nil,List.length_cons,List.length_nil,List.nil_append]
            try rfl
           ·have e2':(x.pt.size==p.size)=false:=beq_eq_false_iff_ne.2 e2
            rw [if_neg e2] at hst
            by_cases e3:x.pt.size>p.size
            ·rw [if_pos e3] at hst
             simp -implicitDefEqProofs only [go_sem,hlt',hg,hw,e1',e2',e3,ha3,ze,zf,zg,zc,zb,za,Bool.not_true,Bool.not_false]
             refine ⟨_,by omega,i+1,_,_,_,_,⟨hlt,Shp.s10 (H:=(hvF me p al (left.take (i+1)))) (by rw [hst];exact q1) (by rw [hst])⟩,rfl,?_⟩
             rw [hst]
             try simp only [List.map_append,List.length_append,List.length_map,List.map_cons,List.map_nil,List.length_cons,List.length_nil,List.nil_append]
             try rfl
            ·rw [if_neg e3] at hst
             simp -implicitDefEqProofs only [go_sem,hlt',hg,hw,e1',e2',e3,ze,zf,zg,zc,zb,za,Bool.not_true,Bool.not_false]
             refine ⟨_,by omega,i+1,_,_,_,_,⟨hlt,Shp.s10 (H:=(hvF me p al (left.take (i+1)))) (by rw [hst];exact q1) (by rw [hst])⟩,rfl,?_⟩
             rw [hst]
             try simp only [List.map_append,List.length_append,List.length_map,List.map_cons,List.map_nil,List.length_cons,List.length_nil,List.nil_append]
             try rfl
         | s11 q1 q2=>
          cases e1:yR x.pt p with
          | true=>
           rw [if_pos e1] at hst
           have e1':=e1
           unfold yR at e1'
           simp -implicitDefEqProofs only [go_sem,hlt',hg,hw,e1',ze,zf,zg,zc,zb,za,Bool.not_true,Bool.not_false]
           refine Want.intro hak ?_
           simp -implicitDefEqProofs only [go_sem,ha1,hw,ze,zf,zg,zc,zb,za,Bool.not_true,Bool.not_false]
           refine ⟨_,by omega,i+1,_,_,_,_,⟨hlt,Shp.s11 (H:=(hvF me p al (left.take (i+1)))) (by rw [hst];simp) (by rw [hst];exact q2)⟩,rfl,?_⟩
           rw [hst]
           try simp only [List.map_append,List.length_append,List.length_map,List.map_cons,List.map_nil,List.length_cons,List.length_nil,List.nil_append]
           try rfl
          | false=>
           rw [if_neg (by rw [e1];simp)] at hst
           have e1':=e1
           unfold yR at e1'
           by_cases e2:x.pt.size=p.size
           ·have e2':(x.pt.size==p.size)=true:=by rw [e2];simp
            rw [if_pos e2] at hst
            rw [e2',Bool.true_and] at e1'
            simp -implicitDefEqProofs only [go_sem,hlt',hg,hw,e1',e2',ha2,ze,zf,zg,zc,zb,za,Bool.not_true,Bool.not_false]
            refine ⟨_,by omega,i+1,_,_,_,_,⟨hlt,Shp.s11 (H:=(hvF me p al (left.take (i+1)))) (by rw [hst];exact q1) (by rw [hst];simp)⟩,rfl,?_⟩
            rw [hst]
            try simp only [List.map_append,List.length_append,List.length_map,List.map_cons,List.map_nil,List.length_cons,List.length_nil,List.nil_append]
            try rfl
           ·have e2':(x.pt.size==p.size)=false:=beq_eq_false_iff_ne.2 e2
            rw [if_neg e2] at hst
            by_cases e3:x.pt.size>p.size
            ·rw [if_pos e3] at hst
             simp -implicitDefEqProofs only [go_sem,hlt',hg,hw,e1',e2',e3,ha3,ze,zf,zg,zc,zb,za,Bool.not_true,Bool.not_false]
             refine ⟨_,by omega,i+1,_,_,_,_,⟨hlt,Shp.s11 (H:=(hvF me p al (left.take (i+1)))) (by rw [hst];exact q1) (by rw [hst];exact q2)⟩,rfl,?_⟩
             rw [hst]
             try simp only [List.map_append,List.length_append,List.length_map,List.map_cons,List.map_nil,List.length_cons,List.length_nil,List.nil_append]
             try rfl
            ·rw [if_neg e3] at hst
             simp -implicitDefEqProofs only [go_sem,hlt',hg,hw,e1',e2',e3,ze,zf,zg,zc,zb,za,Bool.not_true,Bool.not_false]
             refine ⟨_,by omega,i+1,_,_,_,_,⟨hlt,Shp.s11 (H:=(hvF me p al (left.take (i+1)))) (by rw [hst];exact q1) (by rw [hst];exact q2)⟩,rfl,?_⟩
             rw [hst]
             try simp only [List.map_append,List.length_append,List.length_map,List.map_cons,List.map_nil,List.length_cons,List.length_nil,List.nil_append]
             try rfl
        ·have hi:i=left.length:=by omega
         subst hi
         have hlt':¬((left.length:Int)<(left.length:Int)):=by omega
         rw [List.take_length] at hc hvl ⊢
         generalize hvF me p al left=H at *
         obtain ⟨le,al',rest⟩:=H
         simp only at hvl
         have hcl2:=zh0 rest (by omega)
         cases hc with
         | s00 q1 q2=>
          simp only at q1
          subst q1
          simp only at q2
          subst q2
          simp -implicitDefEqProofs only [go_sem,hlt',ze,zf,zg,zc,zb,za,Bool.not_true,Bool.not_false]
          refine Want.intro hcl2 ?_
          simp -implicitDefEqProofs only [go_sem]
         | s01 q1 q2=>
          simp only at q1
          subst q1
          simp -implicitDefEqProofs only [go_sem,hlt',ze,zf,zg,zc,zb,za,Bool.not_true,Bool.not_false]
          refine Want.intro hcl2 ?_
          simp -implicitDefEqProofs only [go_sem]
         | s10 q1 q2=>
          simp only at q2
          subst q2
          simp -implicitDefEqProofs only [go_sem,hlt',ze,zf,zg,zc,zb,za,Bool.not_true,Bool.not_false]
          refine Want.intro hcl2 ?_
          simp -implicitDefEqProofs only [go_sem]
         | s11 q1 q2=>
          simp -implicitDefEqProofs only [go_sem,hlt',ze,zf,zg,zc,zb,za,Bool.not_true,Bool.not_false]
          refine Want.intro hcl2 ?_
          simp -implicitDefEqProofs only [go_sem]
 ·have c1':(m.from_ != held.size)=true:=by rw [bne_iff_ne];exact c1
  rw [if_pos c1]
  simp -implicitDefEqProofs only [go_sem,c1',ze,zf,zg,zc,zb,za,Bool.not_true,Bool.not_false]
end Go.Proofs.YtpjpkmhaffmbmaaGreat.E
end
section
namespace Go.Proofs.YtpjpkmhaffmbmaaGreat.E
open Go Go.RowKit
set_option maxHeartbeats 4000000
set_option maxRecDepth 10000
set_option linter.unusedSimpArgs false
set_option linter.unusedVariables false
set_option linter.unusedSectionVars false
def dcVB:Dec:=⟨[(43,.cm [false]),(44,.cm [true,false,false,false,false]),(45,.cm [true,false,false,false])],[9,10,11],[22,30,37,38,39,40,49,56,76,80,87,141,143,159,237,250,259],false⟩
theorem c8_c (w:MWit) (me:Int) (l:MLet) (hd:w.disk.ok) (hl:w.wishes.length≤maxLen):zS Tryz.prog 8 [(1000000,0,one ⟨7,w.wishes.map MWish.cs,2,false⟩)] [.agg (w.cs (.blk 1000000 0 [] 7 0 w.wishes.length)),vI me,.agg l.cs] (yF w me l).av ((1000000,0,one ⟨7,w.wishes.map MWish.cs,2,false⟩)::(yF w me l).out):=by
 refine zj dcVB false Tryz.f8 ?_
 conv=>enter [1];reduce
 refine jvM Tryz.f8 87 [.cell 6 42] (by kernel_rfl) (by decide +kernel) rfl ?_
 unfold yF
 simp -implicitDefEqProofs only [go_sem]
 refine Want.intro (c40_c w hd hl) ?_
 cases a1:yy w with
 | false=>
  simp -implicitDefEqProofs only [go_sem,a1,Bool.not_false,Bool.false_and,Bool.false_eq_true,ze,zf,zg,zc,zb,za]
  first | done | rfl | exact ⟨rfl,rfl⟩
 | true=>
  have hw8:=za7 a1
  simp -implicitDefEqProofs only [go_sem,a1,Bool.not_true,ze,zf,zg,zc,zb,za]
  refine Want.intro (c41_c l) ?_
  cases a2:qm l with
  | false=>
   simp -implicitDefEqProofs only [go_sem,Bool.not_false,Bool.and_false,Bool.false_and,Bool.false_eq_true,ze,zf,zg,zc,zb,za]
   first | done | rfl | exact ⟨rfl,rfl⟩
  | true=>
   have hsz:l.text.size≤600:=by
    simp only [qm,Bool.and_eq_true,decide_eq_true_eq] at a2
    omega
   cases a3:mIn me 1 20 with
   | false=>
    by_cases n1:me<1
    ·simp -implicitDefEqProofs only [go_sem,n1,Bool.not_true,Bool.and_self,Bool.and_true,Bool.and_false,Bool.false_eq_true,ze,zf,zg,zc,zb,za]
     first | done | rfl | exact ⟨rfl,rfl⟩
    ·have n2:me>20:=by
      have:¬(1≤me∧me≤20):=fun h=>by rw [mIn_iff.2 h] at a3;cases a3
      omega
     simp -implicitDefEqProofs only [go_sem,n1,n2,Bool.not_true,Bool.and_self,Bool.and_true,Bool.and_false,Bool.false_eq_true,ze,zf,zg,zc,zb,za]
     first | done | rfl | exact ⟨rfl,rfl⟩
   | true=>
    have k3:=mIn_iff.1 a3
    have n1:¬(me<1):=by omega
    have n2:¬(me>20):=by omega
    have hcw:=zh0 w.wishes (by omega)
    have hwr:=c43_c l.text (by omega)
    have hwh:=zos w.disk hd
    have hwl:=zbD l.text
    have hwi:=ji l.text
    generalize hW:zl l.text=W at *
    obtain ⟨x,code,at_⟩:=W
    simp only at hwl hwi
    have hvo:=c44_c w (zA w.disk) me l.from_ x hw8
    have hvs:=zfk w (zA w.disk) me l.from_ x.session ⟨x.size,x.root⟩
    have hgs:=zeI w (zA w.disk) me x hw8
    have hgr:=fun (hc:code=0)=>c45_c w (zA w.disk) me x hw8 hd (hwi hc).2.2.1 hwl.1
    generalize zA w.disk=held at *
    simp -implicitDefEqProofs only [go_sem,n1,n2,Bool.not_true,Bool.and_self,if_true,ze,zf,zg,zc,zb,za]
    with_reducible refine And.intro ?_ ?_
    all_goals
     refine Want.intro hcw ?_
     simp -implicitDefEqProofs only [go_sem]
     refine WantM.intro hwr ?_
     simp -implicitDefEqProofs only [go_sem]
     refine Want.intro hwh ?_
     cases b1:(code==0)<;>cases b2:(x.kind==3)<;>cases b4:(x.kind==5)<;>cases b3:(l.from_==0)<;>by_cases b5:l.from_>0
     all_goals first
      | (exfalso;simp only [beq_iff_eq] at b3;omega)
      | (exfalso;simp only [beq_iff_eq] at b2 b4;omega)
      | skip
     all_goals simp -implicitDefEqProofs only [go_sem,b1,b2,b3,b4,b5,bne,Bool.not_true,Bool.not_false,Bool.and_true,Bool.and_false,Bool.true_and,Bool.false_and,Bool.false_eq_true,if_false,if_true,ze,zf,zg,zc,zb,za]
     all_goals first
      | (refine WantM.intro hvo ?_
         generalize yh w held me l.from_ x.session ⟨x.size,x.root⟩=T at *
         obtain ⟨dd,ww,rr,kk,ll,aa⟩:=T
         simp only at hvs
         cases kk with
         | none=>
          simp -implicitDefEqProofs only [go_sem]
          refine Want.intro (zkj ll (by omega)) ?_
          simp -implicitDefEqProofs only [go_sem]
          refine Want.intro (zki aa (by omega)) ?_
          simp -implicitDefEqProofs only [go_sem]
         | some k=>
          simp -implicitDefEqProofs only [go_sem]
          refine Want.intro (zkj ll (by omega)) ?_
          simp -implicitDefEqProofs only [go_sem]
          refine Want.intro (zki aa (by omega)) ?_
          simp -implicitDefEqProofs only [go_sem])
      | (have hc0:code=0:=by simpa using b1
         refine WantM.intro (hgr hc0) ?_
         generalize ya w held me x=T at *
         obtain ⟨dd,ww,rr,kk,ll,aa⟩:=T
         simp only at hgs
         cases kk with
         | none=>
          simp -implicitDefEqProofs only [go_sem]
          refine Want.intro (zkj ll (by omega)) ?_
          simp -implicitDefEqProofs only [go_sem]
          refine Want.intro (zki aa (by omega)) ?_
          simp -implicitDefEqProofs only [go_sem]
         | some k=>
          simp -implicitDefEqProofs only [go_sem]
          refine Want.intro (zkj ll (by omega)) ?_
          simp -implicitDefEqProofs only [go_sem]
          refine Want.intro (zki aa (by omega)) ?_
          simp -implicitDefEqProofs only [go_sem])
      | (refine Want.intro copLN ?_
         simp -implicitDefEqProofs only [go_sem]
         refine Want.intro copAN ?_
         simp -implicitDefEqProofs only [go_sem])
end Go.Proofs.YtpjpkmhaffmbmaaGreat.E
end
section
namespace Go.Proofs.YtpjpkmhaffmbmaaGreat.E
open Go Go.RowKit
set_option maxHeartbeats 4000000
set_option maxRecDepth 10000
set_option linter.unusedSimpArgs false
set_option linter.unusedVariables false
set_option linter.unusedSectionVars false
def dcV9:Dec:=⟨[(51,.cm [false])],[9,10,11],[22,30,37,38,39,40,49,56,76,80,87,141,143,159,237,250,259],false⟩
theorem zlw (d:MDisk) (size:Int) (root:MDig):(yQ d size root).length≤8:=by
 rw [xm]
 split
 ·exact Nat.le_refl 8
 ·exact Nat.zero_le _
theorem yJ {a b:MPt} (h:yR a b=true):a=b:=by
 obtain ⟨s,⟨a1,a2,a3,a4⟩⟩:=a
 obtain ⟨t,⟨b1,b2,b3,b4⟩⟩:=b
 simp only [yR,Bool.and_eq_true,beq_iff_eq] at h
 obtain ⟨h1,h2,h3,h4,h5⟩:=h
 have:a1=b1:=by omega
 have:a2=b2:=by omega
 have:a3=b3:=by omega
 have:a4=b4:=by omega
 subst_vars
 rfl
theorem gF_ok (held:MPt) (size:Int) (P:List MDig) (l:List MWish):∀s:GSt,(∀x∈l,x.pt.root.ok)→((∀x∈s.left,x.pt.root.ok)∧s.p.root.ok)→(∀x∈(l.foldl (xd held size P) s).left,x.pt.root.ok)∧(l.foldl (xd held size P) s).p.root.ok:=by
 induction l with
 | nil=>intro s _ h;exact h
 | cons a l ih=>
  intro s hl h
  rw [List.foldl_cons]
  have ha:=hl a (List.mem_cons_self ..)
  refine ih _ (fun x hx=>hl x (List.mem_cons_of_mem _ hx)) ?_
  have hap:∀x∈s.left++[a],x.pt.root.ok:=fun x hx=>by
   rcases List.mem_append.1 hx with hx | hx
   ·exact h.1 x hx
   ·rw [List.mem_singleton.1 hx];exact ha
  unfold xd
  split
  ·exact ⟨hap,h.2⟩
  ·split
   ·exact h
   ·exact ⟨hap,ha⟩
theorem c50_c (w:MWit) (me:Int) (m:MMsg) (hl:w.wishes.length≤8) (hd:w.disk.ok) (hp:∀d∈m.proof,d.ok) (hpl:m.proof.length≤1000) (hwo:∀x∈w.wishes,x.pt.root.ok):zS Tryz.prog 50 [] [w.ro,vI me,m.ro] (ya w (zA w.disk) me m).av (ya w (zA w.disk) me m).out:=by
 refine zj dcV9 false Tryz.f50 ?_
 conv=>enter [1];reduce
 refine jvM Tryz.f50 175 [.cell 6 42] (by kernel_rfl) (by decide +kernel) rfl ?_
 have hcp:=zop w (by omega)
 have hhe:=zl0 w.disk hd
 generalize zA w.disk=held at *
 obtain ⟨disk,l⟩:=w
 simp only at hl hd hwo
 have hlm:l.length≤maxLen:=by unfold maxLen;omega
 unfold ya
 simp only
 simp -implicitDefEqProofs only [go_sem]
 refine WantM.intro hcp ?_
 simp -implicitDefEqProofs only [go_sem]
 refine Want.intro hhe ?_
 by_cases c1:m.from_=held.size
 ·have c1':(m.from_ != held.size)=false:=by rw [bne_eq_false_iff_eq];exact c1
  rw [if_neg (fun h=>h c1)]
  simp -implicitDefEqProofs only [go_sem,c1',ze,zf,zg,zc,zb,za,Bool.not_true,Bool.not_false]
  refine zU (fun n z=>∃(i:Nat) (c:AV) (R:Sig),(i≤l.length∧((gF held m.size m.proof (l.take i)).al=[]∧c=.nilS∧R=[]∨(gF held m.size m.proof (l.take i)).al≠[]∧c=.blk 20007 0 [] 13 0 (gF held m.size m.proof (l.take i)).al.length∧R=[(20007,0,one ⟨13,(gF held m.size m.proof (l.take i)).al.map MAl.cs,2,false⟩)]))∧n=l.length - i∧z=⟨175,[(1,vI me),(3,.ptr 3 0 [] 15 0 0),(5,.ptr 5 0 [] 11 0 0),(6,.ptr 6 0 [] 19 0 0),(7,.ptr 7 0 [] 19 0 0),(8,.ptr 8 0 [] 5 0 0),(9,.blk 9 0 [] 7 0 (gF held m.size m.proof (l.take i)).left.length),(10,vB (gF held m.size m.proof (l.take i)).taken),(11,.ptr 11 0 [] 5 0 0),(12,vI i)],[(3,0,one ⟨15,[MWit.cs ⟨disk,l⟩ (.ro 7 (l.map MWish.cs))],0,false⟩),(5,0,one ⟨11,[m.roC],0,false⟩),(6,0,one ⟨19,[yf zdisk .nilS .nilS .nilS .nilS .nilS],0,false⟩),(7,0,one ⟨19,[yf disk (.blk 10007 0 [] 7 0 l.length) .nilS .nilS .nilS c],0,false⟩),(10007,0,one ⟨7,l.map MWish.cs,2,false⟩)]++(R++[(8,0,one ⟨5,[held.cs],0,false⟩),(9,0,one ⟨7,(gF held m.size m.proof (l.take i)).left.map MWish.cs,2,false⟩),(11,0,one ⟨5,[(gF held m.size m.proof (l.take i)).p.cs],0,false⟩)]),1⟩) l.length ?_ ?_
  ·simp -implicitDefEqProofs only [go_sem,MMsg.roC]
   exact ⟨0,.nilS,[],⟨Nat.zero_le _,.inl ⟨rfl,rfl,rfl⟩⟩,rfl,rfl⟩
  ·rintro n z ⟨i,c,R,⟨hi,hc⟩,rfl,rfl⟩
   rcases Nat.lt_or_ge i l.length with hlt | hge
   ·have hlt':(i:Int)<(l.length:Int):=by omega
    have hg:l[i]?=some l[i]:=List.getElem?_eq_getElem hlt
    have hw:=zB hlt hlm
    have hst:=zj2 (held:=held) (size:=m.size) (P:=m.proof) hlt
    have hle:=zhP held m.size m.proof (l.take i)
    rw [List.length_take] at hle
    have h1m:1≤maxLen:=by unfold maxLen;omega
    generalize l[i]=x at *
    have hgc:=zrt held x.pt m.proof hp
    generalize gF held m.size m.proof (l.take i)=S at *
    obtain ⟨left,tk,p,al⟩:=S
    unfold xd at hst
    simp only at hst hle hc
    generalize mGC held x.pt (m.proof.map MDig.bd)=cd at *
    have ha1:∀v,_:=fun v=>zb9 (L:=left.map MWish.cs) (b:=56) (by rw [List.length_map];omega) (by omega) v
    have ha2:∀v,_:=fun v=>zb9 (L:=al.map MAl.cs) (b:=104) (by rw [List.length_map];omega) (by omega) v
    rcases hc with ⟨rfl,rfl,rfl⟩ | ⟨hne,rfl,rfl⟩
    ·cases tk with
     | true=>
      rw [if_pos (.inl rfl)] at hst
      simp -implicitDefEqProofs only [go_sem,hlt',hg,hw,ha1,ze,zf,zg,zc,zb,za,Bool.not_true,Bool.not_false]
      refine ⟨_,by omega,i+1,.nilS,[],⟨hlt,.inl ⟨by rw [hst],rfl,rfl⟩⟩,rfl,?_⟩
      rw [hst]
      try simp only [List.map_append,List.length_append,List.length_map,List.map_cons,List.map_nil,List.length_cons,List.length_nil,List.nil_append]
      try rfl
     | false=>
      by_cases c2:x.pt.size=m.size
      ·have c2':(x.pt.size != m.size)=false:=by rw [bne_eq_false_iff_eq];exact c2
       rw [if_neg (fun h=>h.elim (by simp) (fun h=>h c2))] at hst
       simp -implicitDefEqProofs only [go_sem,hlt',hg,hw,c2',ze,zf,zg,zc,zb,za,Bool.not_true,Bool.not_false]
       refine Want.intro hgc ?_
       by_cases c3:cd=0
       ·have c3':(cd != 0)=false:=by rw [bne_eq_false_iff_eq];exact c3
        rw [if_neg (fun h=>h c3)] at hst
        simp -implicitDefEqProofs only [go_sem,hw,ha1,c3',ze,zf,zg,zc,zb,za,Bool.not_true,Bool.not_false]
        refine ⟨_,by omega,i+1,.nilS,[],⟨hlt,.inl ⟨by rw [hst],rfl,rfl⟩⟩,rfl,?_⟩
        rw [hst]
        try simp only [List.map_append,List.length_append,List.length_map,List.map_cons,List.map_nil,List.length_cons,List.length_nil,List.nil_append]
        try rfl
       ·have c3':(cd != 0)=true:=by rw [bne_iff_ne];exact c3
        rw [if_pos c3] at hst
        simp -implicitDefEqProofs only [go_sem,hw,h1m,c3',ze,zf,zg,zc,zb,za,Bool.not_true,Bool.not_false]
        refine ⟨_,by omega,i+1,_,_,⟨hlt,.inr ⟨by rw [hst];simp,rfl,rfl⟩⟩,rfl,?_⟩
        rw [hst]
        try simp only [List.map_append,List.length_append,List.length_map,List.map_cons,List.map_nil,List.length_cons,List.length_nil,List.nil_append]
        try rfl
      ·have c2':(x.pt.size != m.size)=true:=by rw [bne_iff_ne];exact c2
       rw [if_pos (.inr c2)] at hst
       simp -implicitDefEqProofs only [go_sem,hlt',hg,hw,ha1,c2',ze,zf,zg,zc,zb,za,Bool.not_true,Bool.not_false]
       refine ⟨_,by omega,i+1,.nilS,[],⟨hlt,.inl ⟨by rw [hst],rfl,rfl⟩⟩,rfl,?_⟩
       rw [hst]
       try simp only [List.map_append,List.length_append,List.length_map,List.map_cons,List.map_nil,List.length_cons,List.length_nil,List.nil_append]
       try rfl
    ·cases tk with
     | true=>
      rw [if_pos (.inl rfl)] at hst
      simp -implicitDefEqProofs only [go_sem,hlt',hg,hw,ha1,ze,zf,zg,zc,zb,za,Bool.not_true,Bool.not_false]
      refine ⟨_,by omega,i+1,_,_,⟨hlt,.inr ⟨by rw [hst];exact hne,rfl,rfl⟩⟩,rfl,?_⟩
      rw [hst]
      try simp only [List.map_append,List.length_append,List.length_map,List.map_cons,List.map_nil,List.length_cons,List.length_nil,List.nil_append]
      try rfl
     | false=>
      by_cases c2:x.pt.size=m.size
      ·have c2':(x.pt.size != m.size)=false:=by rw [bne_eq_false_iff_eq];exact c2
       rw [if_neg (fun h=>h.elim (by simp) (fun h=>h c2))] at hst
       simp -implicitDefEqProofs only [go_sem,hlt',hg,hw,c2',ze,zf,zg,zc,zb,za,Bool.not_true,Bool.not_false]
       refine Want.intro hgc ?_
       by_cases c3:cd=0
       ·have c3':(cd != 0)=false:=by rw [bne_eq_false_iff_eq];exact c3
        rw [if_neg (fun h=>h c3)] at hst
        simp -implicitDefEqProofs only [go_sem,hw,ha1,c3',ze,zf,zg,zc,zb,za,Bool.not_true,Bool.not_false]
        refine ⟨_,by omega,i+1,_,_,⟨hlt,.inr ⟨by rw [hst];exact hne,rfl,rfl⟩⟩,rfl,?_⟩
        rw [hst]
        try simp only [List.map_append,List.length_append,List.length_map,List.map_cons,List.map_nil,List.length_cons,List.length_nil,List.nil_append]
        try rfl
       ·have c3':(cd != 0)=true:=by rw [bne_iff_ne];exact c3
        rw [if_pos c3] at hst
        simp -implicitDefEqProofs only [go_sem,hw,ha2,c3',ze,zf,zg,zc,zb,za,Bool.not_true,Bool.not_false]
        refine ⟨_,by omega,i+1,_,_,⟨hlt,.inr ⟨by rw [hst];simp,rfl,rfl⟩⟩,rfl,?_⟩
        rw [hst]
        try simp only [List.map_append,List.length_append,List.length_map,List.map_cons,List.map_nil,List.length_cons,List.length_nil,List.nil_append]
        try rfl
      ·have c2':(x.pt.size != m.size)=true:=by rw [bne_iff_ne];exact c2
       rw [if_pos (.inr c2)] at hst
       simp -implicitDefEqProofs only [go_sem,hlt',hg,hw,ha1,c2',ze,zf,zg,zc,zb,za,Bool.not_true,Bool.not_false]
       refine ⟨_,by omega,i+1,_,_,⟨hlt,.inr ⟨by rw [hst];exact hne,rfl,rfl⟩⟩,rfl,?_⟩
       rw [hst]
       try simp only [List.map_append,List.length_append,List.length_map,List.map_cons,List.map_nil,List.length_cons,List.length_nil,List.nil_append]
       try rfl
   ·have hi:i=l.length:=by omega
    subst hi
    have hlt':¬((l.length:Int)<(l.length:Int)):=by omega
    have hle:=zhP held m.size m.proof l
    have hlo:=gF_ok held m.size m.proof l ⟨[],false,.zero,[]⟩ hwo ⟨by simp,yw⟩
    rw [List.take_length] at hc ⊢
    have hlo:(∀x∈(gF held m.size m.proof l).left,x.pt.root.ok)∧(gF held m.size m.proof l).p.root.ok:=hlo
    generalize gF held m.size m.proof l=S at *
    obtain ⟨left,tk,p,al⟩:=S
    simp only at hle hc hlo ⊢
    obtain ⟨hlo,hpo⟩:=hlo
    cases tk with
    | false=>
     rw [if_pos rfl]
     rcases hc with ⟨rfl,rfl,rfl⟩ | ⟨hne,rfl,rfl⟩
     ·simp -implicitDefEqProofs only [go_sem,hlt',ze,zf,zg,zc,zb,za,Bool.not_true,Bool.not_false,Bool.false_eq_true]
     ·simp -implicitDefEqProofs only [go_sem,hlt',ze,zf,zg,zc,zb,za,Bool.not_true,Bool.not_false,Bool.false_eq_true]
    | true=>
     rw [if_neg (by simp)]
     have hrr:=zkp disk p.size p.root hd hpo
     have hRl:=zlw disk p.size p.root
     generalize yQ disk p.size p.root=R at *
     by_cases hR:R=[]
     ·rw [if_pos hR]
      subst hR
      have hR0:(((0:Nat):Int)==0)=true:=rfl
      rcases hc with ⟨rfl,rfl,rfl⟩ | ⟨hne,rfl,rfl⟩
      all_goals
       simp -implicitDefEqProofs only [go_sem,hlt',ze,zf,zg,zc,zb,za,Bool.not_true,Bool.not_false]
       refine Want.intro hrr ?_
       simp -implicitDefEqProofs only [go_sem,hR0,ze,zf,zg,zc,zb,za,Bool.not_true,Bool.not_false]
       refine WantM.intro hcp ?_
       simp -implicitDefEqProofs only [go_sem]
     ·rw [if_neg hR]
      have hR0:((R.length:Int)==0)=false:=by
       rw [beq_eq_false_iff_ne]
       intro h
       exact hR (List.eq_nil_of_length_eq_zero (by omega))
      have hdw:=zlZ disk R (by unfold maxLen;omega)
      have hdg:=zlU m.proof [] hpl (Nat.zero_le _)
      rw [List.append_nil,List.map_nil] at hdg
      unfold wH at hdg
      generalize zC disk R=D at *
      rcases hc with ⟨rfl,rfl,rfl⟩ | ⟨hne,rfl,rfl⟩
      ·simp -implicitDefEqProofs only [go_sem,hlt',ze,zf,zg,zc,zb,za,Bool.not_true,Bool.not_false]
       refine Want.intro hrr ?_
       simp -implicitDefEqProofs only [go_sem,hR0,ze,zf,zg,zc,zb,za,Bool.not_true,Bool.not_false]
       refine Want.intro hdw ?_
       simp -implicitDefEqProofs only [go_sem]
       refine Want.intro hdg ?_
       simp -implicitDefEqProofs only [go_sem]
       refine zU (fun n z=>∃(i:Nat) (c1 c2:AV) (X:Sig) (nm:Nat),(i≤left.length∧Shp (hvF me p [] (left.take i)) m.proof 7 c1 c2 X nm)∧n=left.length - i∧z=⟨175,[(1,vI me),(6,.ptr 6 0 [] 19 0 0),(7,.ptr 7 0 [] 19 0 0),(9,.blk 9 0 [] 7 0 left.length),(11,.ptr 11 0 [] 5 0 0),(16,.blk 16 0 [] 7 0 (hvF me p [] (left.take i)).rest.length),(17,vI i)],[(6,0,one ⟨19,[yf zdisk .nilS .nilS .nilS .nilS .nilS],0,false⟩),(7,0,one ⟨19,[yf D (.blk 10007 0 [] 7 0 l.length) (.blk 20007 0 [] 3 0 R.length) (.blk 30007 0 [] 11 0 1) c1 c2],0,false⟩),(10007,0,one ⟨7,l.map MWish.cs,2,false⟩),(20007,0,one ⟨3,R.map MRaw.cs,2,false⟩),(30007,0,one ⟨11,[MKeep.cs ⟨held,p,m.proof⟩ (.blk nm 0 [] 4 0 m.proof.length)],0,false⟩)]++(X++[(9,0,one ⟨7,left.map MWish.cs,2,false⟩),(11,0,one ⟨5,[p.cs],0,false⟩),(16,0,one ⟨7,(hvF me p [] (left.take i)).rest.map MWish.cs,2,false⟩)]),1⟩) left.length ?_ ?_
       ·simp -implicitDefEqProofs only [go_sem]
        first
         | exact ⟨0,_,_,_,_,⟨Nat.zero_le _,Shp.s00 (H:=hvF me p [] (left.take 0)) rfl rfl⟩,rfl,rfl⟩
         | exact ⟨0,_,_,_,_,⟨Nat.zero_le _,Shp.s01 (H:=hvF me p [] (left.take 0)) rfl hne⟩,rfl,rfl⟩
       ·rintro n z ⟨i,c1,c2,X,nm,⟨hi,hc⟩,rfl,rfl⟩
        have hvl:=zcY me p [] (left.take i)
        rw [List.length_take] at hvl
        rcases Nat.lt_or_ge i left.length with hlt | hge
        ·have hlt':(i:Int)<(left.length:Int):=by omega
         have hg:left[i]?=some left[i]:=List.getElem?_eq_getElem hlt
         have hw:=zB hlt (show left.length≤maxLen by unfold maxLen;omega)
         have hst:=za1 (me:=me) (p:=p) (al:=[]) hlt
         have h1m:1≤maxLen:=by unfold maxLen;omega
         have hxo:=hlo _ (List.getElem_mem hlt)
         generalize left[i]=x at *
         have hak:x.pt=p→CallR Tryz.prog 111 [vI me,.agg x.cs] (.agg (zaP me x.who x.session p).cs) []:=fun e=>e▸zkq me x hxo
         generalize hvF me p [] (left.take i)=H at *
         obtain ⟨le,al',rest⟩:=H
         unfold xY at hst
         simp only at hst hvl
         have ha1:∀v,_:=fun v=>zb9 (L:=le.map MLet.cs) (b:=32) (by rw [List.length_map];omega) (by omega) v
         have ha2:∀v,_:=fun v=>zb9 (L:=al'.map MAl.cs) (b:=104) (by rw [List.length_map];omega) (by omega) v
         have ha3:∀v,_:=fun v=>zb9 (L:=rest.map MWish.cs) (b:=56) (by rw [List.length_map];omega) (by omega) v
         cases hc with
         | s00 q1 q2=>
          simp only at q1
          subst q1
          simp only at q2
          subst q2
          cases e1:yR x.pt p with
          | true=>
           rw [if_pos e1] at hst
           have e1':=e1
           unfold yR at e1'
           have e3:¬(x.pt.size>p.size):=by rw [yJ e1];omega
           have hak:=hak (yJ e1)
           simp -implicitDefEqProofs only [go_sem,hlt',hg,hw,e1',e3,ze,zf,zg,zc,zb,za,Bool.not_true,Bool.not_false]
           refine Want.intro hak ?_
           simp -implicitDefEqProofs only [go_sem,h1m,hw,ze,zf,zg,zc,zb,za,Bool.not_true,Bool.not_false]
           refine ⟨_,by omega,i+1,_,_,_,_,⟨hlt,Shp.s10 (H:=(hvF me p [] (left.take (i+1)))) (by rw [hst];simp) (by rw [hst])⟩,rfl,?_⟩
           rw [hst]
           try simp only [List.map_append,List.length_append,List.length_map,List.map_cons,List.map_nil,List.length_cons,List.length_nil,List.nil_append]
           try rfl
          | false=>
           rw [if_neg (by rw [e1];simp)] at hst
           have e1':=e1
           unfold yR at e1'
           by_cases e2:x.pt.size=p.size
           ·have e2':(x.pt.size==p.size)=true:=by rw [e2];simp
            have e3:¬(x.pt.size>p.size):=by omega
            rw [if_pos e2] at hst
            rw [e2',Bool.true_and] at e1'
            simp -implicitDefEqProofs only [go_sem,hlt',hg,hw,e1',e2',e3,h1m,ze,zf,zg,zc,zb,za,Bool.not_true,Bool.not_false]
            refine ⟨_,by omega,i+1,_,_,_,_,⟨hlt,Shp.s01 (H:=(hvF me p [] (left.take (i+1)))) (by rw [hst]) (by rw [hst];simp)⟩,rfl,?_⟩
            rw [hst]
            try simp only [List.map_append,List.length_append,List.length_map,List.map_cons,List.map_nil,List.length_cons,List.length_nil,List.nil_append]
            try rfl
           ·have e2':(x.pt.size==p.size)=false:=beq_eq_false_iff_ne.2 e2
            rw [if_neg e2] at hst
            by_cases e3:x.pt.size>p.size
            ·rw [if_pos e3] at hst
             simp -implicitDefEqProofs only [go_sem,hlt',hg,hw,e1',e2',e3,ha3,ze,zf,zg,zc,zb,za,Bool.not_true,Bool.not_false]
             refine ⟨_,by omega,i+1,_,_,_,_,⟨hlt,Shp.s00 (H:=(hvF me p [] (left.take (i+1)))) (by rw [hst]) (by rw [hst])⟩,rfl,?_⟩
             rw [hst]
             try simp only [List.map_append,List.length_append,List.length_map,List.map_cons,List.map_nil,List.length_cons,List.length_nil,List.nil_append]
             try rfl
            ·rw [if_neg e3] at hst
             simp -implicitDefEqProofs only [go_sem,hlt',hg,hw,e1',e2',e3,ze,zf,zg,zc,zb,za,Bool.not_true,Bool.not_false]
             refine ⟨_,by omega,i+1,_,_,_,_,⟨hlt,Shp.s00 (H:=(hvF me p [] (left.take (i+1)))) (by rw [hst]) (by rw [hst])⟩,rfl,?_⟩
             rw [hst]
             try simp only [List.map_append,List.length_append,List.length_map,List.map_cons,List.map_nil,List.length_cons,List.length_nil,List.nil_append]
             try rfl
         | s01 q1 q2=>
          simp only at q1
          subst q1
          cases e1:yR x.pt p with
          | true=>
           rw [if_pos e1] at hst
           have e1':=e1
           unfold yR at e1'
           have e3:¬(x.pt.size>p.size):=by rw [yJ e1];omega
           have hak:=hak (yJ e1)
           simp -implicitDefEqProofs only [go_sem,hlt',hg,hw,e1',e3,ze,zf,zg,zc,zb,za,Bool.not_true,Bool.not_false]
           refine Want.intro hak ?_
           simp -implicitDefEqProofs only [go_sem,h1m,hw,ze,zf,zg,zc,zb,za,Bool.not_true,Bool.not_false]
           refine ⟨_,by omega,i+1,_,_,_,_,⟨hlt,Shp.s11 (H:=(hvF me p [] (left.take (i+1)))) (by rw [hst];simp) (by rw [hst];exact q2)⟩,rfl,?_⟩
           rw [hst]
           try simp only [List.map_append,List.length_append,List.length_map,List.map_cons,List.map_nil,List.length_cons,List.length_nil,List.nil_append]
           try rfl
          | false=>
           rw [if_neg (by rw [e1];simp)] at hst
           have e1':=e1
           unfold yR at e1'
           by_cases e2:x.pt.size=p.size
           ·have e2':(x.pt.size==p.size)=true:=by rw [e2];simp
            have e3:¬(x.pt.size>p.size):=by omega
            rw [if_pos e2] at hst
            rw [e2',Bool.true_and] at e1'
            simp -implicitDefEqProofs only [go_sem,hlt',hg,hw,e1',e2',e3,ha2,ze,zf,zg,zc,zb,za,Bool.not_true,Bool.not_false]
            refine ⟨_,by omega,i+1,_,_,_,_,⟨hlt,Shp.s01 (H:=(hvF me p [] (left.take (i+1)))) (by rw [hst]) (by rw [hst];simp)⟩,rfl,?_⟩
            rw [hst]
            try simp only [List.map_append,List.length_append,List.length_map,List.map_cons,List.map_nil,List.length_cons,List.length_nil,List.nil_append]
            try rfl
           ·have e2':(x.pt.size==p.size)=false:=beq_eq_false_iff_ne.2 e2
            rw [if_neg e2] at hst
            by_cases e3:x.pt.size>p.size
            ·rw [if_pos e3] at hst
             simp -implicitDefEqProofs only [go_sem,hlt',hg,hw,e1',e2',e3,ha3,ze,zf,zg,zc,zb,za,Bool.not_true,Bool.not_false]
             refine ⟨_,by omega,i+1,_,_,_,_,⟨hlt,Shp.s01 (H:=(hvF me p [] (left.take (i+1)))) (by rw [hst]) (by rw [hst];exact q2)⟩,rfl,?_⟩
             rw [hst]
             try simp only [List.map_append,List.length_append,List.length_map,List.map_cons,List.map_nil,List.length_cons,List.length_nil,List.nil_append]
             try rfl
            ·rw [if_neg e3] at hst
             simp -implicitDefEqProofs only [go_sem,hlt',hg,hw,e1',e2',e3,ze,zf,zg,zc,zb,za,Bool.not_true,Bool.not_false]
             refine ⟨_,by omega,i+1,_,_,_,_,⟨hlt,Shp.s01 (H:=(hvF me p [] (left.take (i+1)))) (by rw [hst]) (by rw [hst];exact q2)⟩,rfl,?_⟩
             rw [hst]
             try simp only [List.map_append,List.length_append,List.length_map,List.map_cons,List.map_nil,List.length_cons,List.length_nil,List.nil_append]
             try rfl
         | s10 q1 q2=>
          simp only at q2
          subst q2
          cases e1:yR x.pt p with
          | true=>
           rw [if_pos e1] at hst
           have e1':=e1
           unfold yR at e1'
           have e3:¬(x.pt.size>p.size):=by rw [yJ e1];omega
           have hak:=hak (yJ e1)
           simp -implicitDefEqProofs only [go_sem,hlt',hg,hw,e1',e3,ze,zf,zg,zc,zb,za,Bool.not_true,Bool.not_false]
           refine Want.intro hak ?_
           simp -implicitDefEqProofs only [go_sem,ha1,hw,ze,zf,zg,zc,zb,za,Bool.not_true,Bool.not_false]
           refine ⟨_,by omega,i+1,_,_,_,_,⟨hlt,Shp.s10 (H:=(hvF me p [] (left.take (i+1)))) (by rw [hst];simp) (by rw [hst])⟩,rfl,?_⟩
           rw [hst]
           try simp only [List.map_append,List.length_append,List.length_map,List.map_cons,List.map_nil,List.length_cons,List.length_nil,List.nil_append]
           try rfl
          | false=>
           rw [if_neg (by rw [e1];simp)] at hst
           have e1':=e1
           unfold yR at e1'
           by_cases e2:x.pt.size=p.size
           ·have e2':(x.pt.size==p.size)=true:=by rw [e2];simp
            have e3:¬(x.pt.size>p.size):=by omega
            rw [if_pos e2] at hst
            rw [e2',Bool.true_and] at e1'
            simp -implicitDefEqProofs only [go_sem,hlt',hg,hw,e1',e2',e3,h1m,ze,zf,zg,zc,zb,za,Bool.not_true,Bool.not_false]
            refine ⟨_,by omega,i+1,_,_,_,_,⟨hlt,Shp.s11 (H:=(hvF me p [] (left.take (i+1)))) (by rw [hst];exact q1) (by rw [hst];simp)⟩,rfl,?_⟩
            rw [hst]
            try simp only [List.map_append,List.length_append,List.length_map,List.map_cons,List.map_nil,List.length_cons,List.length_nil,List.nil_append]
            try rfl
           ·have e2':(x.pt.size==p.size)=false:=beq_eq_false_iff_ne.2 e2
            rw [if_neg e2] at hst
            by_cases e3:x.pt.size>p.size
            ·rw [if_pos e3] at hst
             simp -implicitDefEqProofs only [go_sem,hlt',hg,hw,e1',e2',e3,ha3,ze,zf,zg,zc,zb,za,Bool.not_true,Bool.not_false]
             refine ⟨_,by omega,i+1,_,_,_,_,⟨hlt,Shp.s10 (H:=(hvF me p [] (left.take (i+1)))) (by rw [hst];exact q1) (by rw [hst])⟩,rfl,?_⟩
             rw [hst]
             try simp only [List.map_append,List.length_append,List.length_map,List.map_cons,List.map_nil,List.length_cons,List.length_nil,List.nil_append]
             try rfl
            ·rw [if_neg e3] at hst
             simp -implicitDefEqProofs only [go_sem,hlt',hg,hw,e1',e2',e3,ze,zf,zg,zc,zb,za,Bool.not_true,Bool.not_false]
             refine ⟨_,by omega,i+1,_,_,_,_,⟨hlt,Shp.s10 (H:=(hvF me p [] (left.take (i+1)))) (by rw [hst];exact q1) (by rw [hst])⟩,rfl,?_⟩
             rw [hst]
             try simp only [List.map_append,List.length_append,List.length_map,List.map_cons,List.map_nil,List.length_cons,List.length_nil,List.nil_append]
             try rfl
         | s11 q1 q2=>
          cases e1:yR x.pt p with
          | true=>
           rw [if_pos e1] at hst
           have e1':=e1
           unfold yR at e1'
           have e3:¬(x.pt.size>p.size):=by rw [yJ e1];omega
           have hak:=hak (yJ e1)
           simp -implicitDefEqProofs only [go_sem,hlt',hg,hw,e1',e3,ze,zf,zg,zc,zb,za,Bool.not_true,Bool.not_false]
           refine Want.intro hak ?_
           simp -implicitDefEqProofs only [go_sem,ha1,hw,ze,zf,zg,zc,zb,za,Bool.not_true,Bool.not_false]
           refine ⟨_,by omega,i+1,_,_,_,_,⟨hlt,Shp.s11 (H:=(hvF me p [] (left.take (i+1)))) (by rw [hst];simp) (by rw [hst];exact q2)⟩,rfl,?_⟩
           rw [hst]
           try simp only [List.map_append,List.length_append,List.length_map,List.map_cons,List.map_nil,List.length_cons,List.length_nil,List.nil_append]
           try rfl
          | false=>
           rw [if_neg (by rw [e1];simp)] at hst
           have e1':=e1
           unfold yR at e1'
           by_cases e2:x.pt.size=p.size
           ·have e2':(x.pt.size==p.size)=true:=by rw [e2];simp
            have e3:¬(x.pt.size>p.size):=by omega
            rw [if_pos e2] at hst
            rw [e2',Bool.true_and] at e1'
            simp -implicitDefEqProofs only [go_sem,hlt',hg,hw,e1',e2',e3,ha2,ze,zf,zg,zc,zb,za,Bool.not_true,Bool.not_false]
            refine ⟨_,by omega,i+1,_,_,_,_,⟨hlt,Shp.s11 (H:=(hvF me p [] (left.take (i+1)))) (by rw [hst];exact q1) (by rw [hst];simp)⟩,rfl,?_⟩
            rw [hst]
            try simp only [List.map_append,List.length_append,List.length_map,List.map_cons,List.map_nil,List.length_cons,List.length_nil,List.nil_append]
            try rfl
           ·have e2':(x.pt.size==p.size)=false:=beq_eq_false_iff_ne.2 e2
            rw [if_neg e2] at hst
            by_cases e3:x.pt.size>p.size
            ·rw [if_pos e3] at hst
             simp -implicitDefEqProofs only [go_sem,hlt',hg,hw,e1',e2',e3,ha3,ze,zf,zg,zc,zb,za,Bool.not_true,Bool.not_false]
             refine ⟨_,by omega,i+1,_,_,_,_,⟨hlt,Shp.s11 (H:=(hvF me p [] (left.take (i+1)))) (by rw [hst];exact q1) (by rw [hst];exact q2)⟩,rfl,?_⟩
             rw [hst]
             try simp only [List.map_append,List.length_append,List.length_map,List.map_cons,List.map_nil,List.length_cons,List.length_nil,List.nil_append]
             try rfl
            ·rw [if_neg e3] at hst
             simp -implicitDefEqProofs only [go_sem,hlt',hg,hw,e1',e2',e3,ze,zf,zg,zc,zb,za,Bool.not_true,Bool.not_false]
             refine ⟨_,by omega,i+1,_,_,_,_,⟨hlt,Shp.s11 (H:=(hvF me p [] (left.take (i+1)))) (by rw [hst];exact q1) (by rw [hst];exact q2)⟩,rfl,?_⟩
             rw [hst]
             try simp only [List.map_append,List.length_append,List.length_map,List.map_cons,List.map_nil,List.length_cons,List.length_nil,List.nil_append]
             try rfl
        ·have hi:i=left.length:=by omega
         subst hi
         have hlt':¬((left.length:Int)<(left.length:Int)):=by omega
         rw [List.take_length] at hc hvl ⊢
         generalize hvF me p [] left=H at *
         obtain ⟨le,al',rest⟩:=H
         simp only at hvl
         cases hc with
         | s00 q1 q2=>
          simp only at q1
          subst q1
          simp only at q2
          subst q2
          simp -implicitDefEqProofs only [go_sem,hlt',ze,zf,zg,zc,zb,za,Bool.not_true,Bool.not_false]
         | s01 q1 q2=>
          simp only at q1
          subst q1
          simp -implicitDefEqProofs only [go_sem,hlt',ze,zf,zg,zc,zb,za,Bool.not_true,Bool.not_false]
         | s10 q1 q2=>
          simp only at q2
          subst q2
          simp -implicitDefEqProofs only [go_sem,hlt',ze,zf,zg,zc,zb,za,Bool.not_true,Bool.not_false]
         | s11 q1 q2=>
          simp -implicitDefEqProofs only [go_sem,hlt',ze,zf,zg,zc,zb,za,Bool.not_true,Bool.not_false]
      ·simp -implicitDefEqProofs only [go_sem,hlt',ze,zf,zg,zc,zb,za,Bool.not_true,Bool.not_false]
       refine Want.intro hrr ?_
       simp -implicitDefEqProofs only [go_sem,hR0,ze,zf,zg,zc,zb,za,Bool.not_true,Bool.not_false]
       refine Want.intro hdw ?_
       simp -implicitDefEqProofs only [go_sem]
       refine Want.intro hdg ?_
       simp -implicitDefEqProofs only [go_sem]
       refine zU (fun n z=>∃(i:Nat) (c1 c2:AV) (X:Sig) (nm:Nat),(i≤left.length∧Shp (hvF me p al (left.take i)) m.proof 7 c1 c2 X nm)∧n=left.length - i∧z=⟨175,[(1,vI me),(6,.ptr 6 0 [] 19 0 0),(7,.ptr 7 0 [] 19 0 0),(9,.blk 9 0 [] 7 0 left.length),(11,.ptr 11 0 [] 5 0 0),(16,.blk 16 0 [] 7 0 (hvF me p al (left.take i)).rest.length),(17,vI i)],[(6,0,one ⟨19,[yf zdisk .nilS .nilS .nilS .nilS .nilS],0,false⟩),(7,0,one ⟨19,[yf D (.blk 10007 0 [] 7 0 l.length) (.blk 20007 0 [] 3 0 R.length) (.blk 30007 0 [] 11 0 1) c1 c2],0,false⟩),(10007,0,one ⟨7,l.map MWish.cs,2,false⟩),(20007,0,one ⟨3,R.map MRaw.cs,2,false⟩),(30007,0,one ⟨11,[MKeep.cs ⟨held,p,m.proof⟩ (.blk nm 0 [] 4 0 m.proof.length)],0,false⟩)]++(X++[(9,0,one ⟨7,left.map MWish.cs,2,false⟩),(11,0,one ⟨5,[p.cs],0,false⟩),(16,0,one ⟨7,(hvF me p al (left.take i)).rest.map MWish.cs,2,false⟩)]),1⟩) left.length ?_ ?_
       ·simp -implicitDefEqProofs only [go_sem]
        first
         | exact ⟨0,_,_,_,_,⟨Nat.zero_le _,Shp.s00 (H:=hvF me p [] (left.take 0)) rfl rfl⟩,rfl,rfl⟩
         | exact ⟨0,_,_,_,_,⟨Nat.zero_le _,Shp.s01 (H:=hvF me p al (left.take 0)) rfl hne⟩,rfl,rfl⟩
       ·rintro n z ⟨i,c1,c2,X,nm,⟨hi,hc⟩,rfl,rfl⟩
        have hvl:=zcY me p al (left.take i)
        rw [List.length_take] at hvl
        rcases Nat.lt_or_ge i left.length with hlt | hge
        ·have hlt':(i:Int)<(left.length:Int):=by omega
         have hg:left[i]?=some left[i]:=List.getElem?_eq_getElem hlt
         have hw:=zB hlt (show left.length≤maxLen by unfold maxLen;omega)
         have hst:=za1 (me:=me) (p:=p) (al:=al) hlt
         have h1m:1≤maxLen:=by unfold maxLen;omega
         have hxo:=hlo _ (List.getElem_mem hlt)
         generalize left[i]=x at *
         have hak:x.pt=p→CallR Tryz.prog 111 [vI me,.agg x.cs] (.agg (zaP me x.who x.session p).cs) []:=fun e=>e▸zkq me x hxo
         generalize hvF me p al (left.take i)=H at *
         obtain ⟨le,al',rest⟩:=H
         unfold xY at hst
         simp only at hst hvl
         have ha1:∀v,_:=fun v=>zb9 (L:=le.map MLet.cs) (b:=32) (by rw [List.length_map];omega) (by omega) v
         have ha2:∀v,_:=fun v=>zb9 (L:=al'.map MAl.cs) (b:=104) (by rw [List.length_map];omega) (by omega) v
         have ha3:∀v,_:=fun v=>zb9 (L:=rest.map MWish.cs) (b:=56) (by rw [List.length_map];omega) (by omega) v
         cases hc with
         | s00 q1 q2=>
          simp only at q1
          subst q1
          simp only at q2
          subst q2
          cases e1:yR x.pt p with
          | true=>
           rw [if_pos e1] at hst
           have e1':=e1
           unfold yR at e1'
           have e3:¬(x.pt.size>p.size):=by rw [yJ e1];omega
           have hak:=hak (yJ e1)
           simp -implicitDefEqProofs only [go_sem,hlt',hg,hw,e1',e3,ze,zf,zg,zc,zb,za,Bool.not_true,Bool.not_false]
           refine Want.intro hak ?_
           simp -implicitDefEqProofs only [go_sem,h1m,hw,ze,zf,zg,zc,zb,za,Bool.not_true,Bool.not_false]
           refine ⟨_,by omega,i+1,_,_,_,_,⟨hlt,Shp.s10 (H:=(hvF me p al (left.take (i+1)))) (by rw [hst];simp) (by rw [hst])⟩,rfl,?_⟩
           rw [hst]
           try simp only [List.map_append,List.length_append,List.length_map,List.map_cons,List.map_nil,List.length_cons,List.length_nil,List.nil_append]
           try rfl
          | false=>
           rw [if_neg (by rw [e1];simp)] at hst
           have e1':=e1
           unfold yR at e1'
           by_cases e2:x.pt.size=p.size
           ·have e2':(x.pt.size==p.size)=true:=by rw [e2];simp
            have e3:¬(x.pt.size>p.size):=by omega
            rw [if_pos e2] at hst
            rw [e2',Bool.true_and] at e1'
            simp -implicitDefEqProofs only [go_sem,hlt',hg,hw,e1',e2',e3,h1m,ze,zf,zg,zc,zb,za,Bool.not_true,Bool.not_false]
            refine ⟨_,by omega,i+1,_,_,_,_,⟨hlt,Shp.s01 (H:=(hvF me p al (left.take (i+1)))) (by rw [hst]) (by rw [hst];simp)⟩,rfl,?_⟩
            rw [hst]
            try simp only [List.map_append,List.length_append,List.length_map,List.map_cons,List.map_nil,List.length_cons,List.length_nil,List.nil_append]
            try rfl
           ·have e2':(x.pt.size==p.size)=false:=beq_eq_false_iff_ne.2 e2
            rw [if_neg e2] at hst
            by_cases e3:x.pt.size>p.size
            ·rw [if_pos e3] at hst
             simp -implicitDefEqProofs only [go_sem,hlt',hg,hw,e1',e2',e3,ha3,ze,zf,zg,zc,zb,za,Bool.not_true,Bool.not_false]
             refine ⟨_,by omega,i+1,_,_,_,_,⟨hlt,Shp.s00 (H:=(hvF me p al (left.take (i+1)))) (by rw [hst]) (by rw [hst])⟩,rfl,?_⟩
             rw [hst]
             try simp only [List.map_append,List.length_append,List.length_map,List.map_cons,List.map_nil,List.length_cons,List.length_nil,List.nil_append]
             try rfl
            ·rw [if_neg e3] at hst
             simp -implicitDefEqProofs only [go_sem,hlt',hg,hw,e1',e2',e3,ze,zf,zg,zc,zb,za,Bool.not_true,Bool.not_false]
             refine ⟨_,by omega,i+1,_,_,_,_,⟨hlt,Shp.s00 (H:=(hvF me p al (left.take (i+1)))) (by rw [hst]) (by rw [hst])⟩,rfl,?_⟩
             rw [hst]
             try simp only [List.map_append,List.length_append,List.length_map,List.map_cons,List.map_nil,List.length_cons,List.length_nil,List.nil_append]
             try rfl
         | s01 q1 q2=>
          simp only at q1
          subst q1
          cases e1:yR x.pt p with
          | true=>
           rw [if_pos e1] at hst
           have e1':=e1
           unfold yR at e1'
           have e3:¬(x.pt.size>p.size):=by rw [yJ e1];omega
           have hak:=hak (yJ e1)
           simp -implicitDefEqProofs only [go_sem,hlt',hg,hw,e1',e3,ze,zf,zg,zc,zb,za,Bool.not_true,Bool.not_false]
           refine Want.intro hak ?_
           simp -implicitDefEqProofs only [go_sem,h1m,hw,ze,zf,zg,zc,zb,za,Bool.not_true,Bool.not_false]
           refine ⟨_,by omega,i+1,_,_,_,_,⟨hlt,Shp.s11 (H:=(hvF me p al (left.take (i+1)))) (by rw [hst];simp) (by rw [hst];exact q2)⟩,rfl,?_⟩
           rw [hst]
           try simp only [List.map_append,List.length_append,List.length_map,List.map_cons,List.map_nil,List.length_cons,List.length_nil,List.nil_append]
           try rfl
          | false=>
           rw [if_neg (by rw [e1];simp)] at hst
           have e1':=e1
           unfold yR at e1'
           by_cases e2:x.pt.size=p.size
           ·have e2':(x.pt.size==p.size)=true:=by rw [e2];simp
            have e3:¬(x.pt.size>p.size):=by omega
            rw [if_pos e2] at hst
            rw [e2',Bool.true_and] at e1'
            simp -implicitDefEqProofs only [go_sem,hlt',hg,hw,e1',e2',e3,ha2,ze,zf,zg,zc,zb,za,Bool.not_true,Bool.not_false]
            refine ⟨_,by omega,i+1,_,_,_,_,⟨hlt,Shp.s01 (H:=(hvF me p al (left.take (i+1)))) (by rw [hst]) (by rw [hst];simp)⟩,rfl,?_⟩
            rw [hst]
            try simp only [List.map_append,List.length_append,List.length_map,List.map_cons,List.map_nil,List.length_cons,List.length_nil,List.nil_append]
            try rfl
           ·have e2':(x.pt.size==p.size)=false:=beq_eq_false_iff_ne.2 e2
            rw [if_neg e2] at hst
            by_cases e3:x.pt.size>p.size
            ·rw [if_pos e3] at hst
             simp -implicitDefEqProofs only [go_sem,hlt',hg,hw,e1',e2',e3,ha3,ze,zf,zg,zc,zb,za,Bool.not_true,Bool.not_false]
             refine ⟨_,by omega,i+1,_,_,_,_,⟨hlt,Shp.s01 (H:=(hvF me p al (left.take (i+1)))) (by rw [hst]) (by rw [hst];exact q2)⟩,rfl,?_⟩
             rw [hst]
             try simp only [List.map_append,List.length_append,List.length_map,List.map_cons,List.map_nil,List.length_cons,List.length_nil,List.nil_append]
             try rfl
            ·rw [if_neg e3] at hst
             simp -implicitDefEqProofs only [go_sem,hlt',hg,hw,e1',e2',e3,ze,zf,zg,zc,zb,za,Bool.not_true,Bool.not_false]
             refine ⟨_,by omega,i+1,_,_,_,_,⟨hlt,Shp.s01 (H:=(hvF me p al (left.take (i+1)))) (by rw [hst]) (by rw [hst];exact q2)⟩,rfl,?_⟩
             rw [hst]
             try simp only [List.map_append,List.length_append,List.length_map,List.map_cons,List.map_nil,List.length_cons,List.length_nil,List.nil_append]
             try rfl
         | s10 q1 q2=>
          simp only at q2
          subst q2
          cases e1:yR x.pt p with
          | true=>
           rw [if_pos e1] at hst
           have e1':=e1
           unfold yR at e1'
           have e3:¬(x.pt.size>p.size):=by rw [yJ e1];omega
           have hak:=hak (yJ e1)
           simp -implicitDefEqProofs only [go_sem,hlt',hg,hw,e1',e3,ze,zf,zg,zc,zb,za,Bool.not_true,Bool.not_false]
           refine Want.intro hak ?_
           simp -implicitDefEqProofs only [go_sem,ha1,hw,ze,zf,zg,zc,zb,za,Bool.not_true,Bool.not_false]
           refine ⟨_,by omega,i+1,_,_,_,_,⟨hlt,Shp.s10 (H:=(hvF me p al (left.take (i+1)))) (by rw [hst];simp) (by rw [hst])⟩,rfl,?_⟩
           rw [hst]
           try simp only [List.map_append,List.length_append,List.length_map,List.map_cons,List.map_nil,List.length_cons,List.length_nil,List.nil_append]
           try rfl
          | false=>
           rw [if_neg (by rw [e1];simp)] at hst
           have e1':=e1
           unfold yR at e1'
           by_cases e2:x.pt.size=p.size
           ·have e2':(x.pt.size==p.size)=true:=by rw [e2];simp
            have e3:¬(x.pt.size>p.size):=by omega
            rw [if_pos e2] at hst
            rw [e2',Bool.true_and] at e1'
            simp -implicitDefEqProofs only [go_sem,hlt',hg,hw,e1',e2',e3,h1m,ze,zf,zg,zc,zb,za,Bool.not_true,Bool.not_false]
            refine ⟨_,by omega,i+1,_,_,_,_,⟨hlt,Shp.s11 (H:=(hvF me p al (left.take (i+1)))) (by rw [hst];exact q1) (by rw [hst];simp)⟩,rfl,?_⟩
            rw [hst]
            try simp only [List.map_append,List.length_append,List.length_map,List.map_cons,List.map_nil,List.length_cons,List.length_nil,List.nil_append]
            try rfl
           ·have e2':(x.pt.size==p.size)=false:=beq_eq_false_iff_ne.2 e2
            rw [if_neg e2] at hst
            by_cases e3:x.pt.size>p.size
            ·rw [if_pos e3] at hst
             simp -implicitDefEqProofs only [go_sem,hlt',hg,hw,e1',e2',e3,ha3,ze,zf,zg,zc,zb,za,Bool.not_true,Bool.not_false]
             refine ⟨_,by omega,i+1,_,_,_,_,⟨hlt,Shp.s10 (H:=(hvF me p al (left.take (i+1)))) (by rw [hst];exact q1) (by rw [hst])⟩,rfl,?_⟩
             rw [hst]
             try simp only [List.map_append,List.length_append,List.length_map,List.map_cons,List.map_nil,List.length_cons,List.length_nil,List.nil_append]
             try rfl
            ·rw [if_neg e3] at hst
             simp -implicitDefEqProofs only [go_sem,hlt',hg,hw,e1',e2',e3,ze,zf,zg,zc,zb,za,Bool.not_true,Bool.not_false]
             refine ⟨_,by omega,i+1,_,_,_,_,⟨hlt,Shp.s10 (H:=(hvF me p al (left.take (i+1)))) (by rw [hst];exact q1) (by rw [hst])⟩,rfl,?_⟩
             rw [hst]
             try simp only [List.map_append,List.length_append,List.length_map,List.map_cons,List.map_nil,List.length_cons,List.length_nil,List.nil_append]
             try rfl
         | s11 q1 q2=>
          cases e1:yR x.pt p with
          | true=>
           rw [if_pos e1] at hst
           have e1':=e1
           unfold yR at e1'
           have e3:¬(x.pt.size>p.size):=by rw [yJ e1];omega
           have hak:=hak (yJ e1)
           simp -implicitDefEqProofs only [go_sem,hlt',hg,hw,e1',e3,ze,zf,zg,zc,zb,za,Bool.not_true,Bool.not_false]
           refine Want.intro hak ?_
           simp -implicitDefEqProofs only [go_sem,ha1,hw,ze,zf,zg,zc,zb,za,Bool.not_true,Bool.not_false]
           refine ⟨_,by omega,i+1,_,_,_,_,⟨hlt,Shp.s11 (H:=(hvF me p al (left.take (i+1)))) (by rw [hst];simp) (by rw [hst];exact q2)⟩,rfl,?_⟩
           rw [hst]
           try simp only [List.map_append,List.length_append,List.length_map,List.map_cons,List.map_nil,List.length_cons,List.length_nil,List.nil_append]
           try rfl
          | false=>
           rw [if_neg (by rw [e1];simp)] at hst
           have e1':=e1
           unfold yR at e1'
           by_cases e2:x.pt.size=p.size
           ·have e2':(x.pt.size==p.size)=true:=by rw [e2];simp
            have e3:¬(x.pt.size>p.size):=by omega
            rw [if_pos e2] at hst
            rw [e2',Bool.true_and] at e1'
            simp -implicitDefEqProofs only [go_sem,hlt',hg,hw,e1',e2',e3,ha2,ze,zf,zg,zc,zb,za,Bool.not_true,Bool.not_false]
            refine ⟨_,by omega,i+1,_,_,_,_,⟨hlt,Shp.s11 (H:=(hvF me p al (left.take (i+1)))) (by rw [hst];exact q1) (by rw [hst];simp)⟩,rfl,?_⟩
            rw [hst]
            try simp only [List.map_append,List.length_append,List.length_map,List.map_cons,List.map_nil,List.length_cons,List.length_nil,List.nil_append]
            try rfl
           ·have e2':(x.pt.size==p.size)=false:=beq_eq_false_iff_ne.2 e2
            rw [if_neg e2] at hst
            by_cases e3:x.pt.size>p.size
            ·rw [if_pos e3] at hst
             simp -implicitDefEqProofs only [go_sem,hlt',hg,hw,e1',e2',e3,ha3,ze,zf,zg,zc,zb,za,Bool.not_true,Bool.not_false]
             refine ⟨_,by omega,i+1,_,_,_,_,⟨hlt,Shp.s11 (H:=(hvF me p al (left.take (i+1)))) (by rw [hst];exact q1) (by rw [hst];exact q2)⟩,rfl,?_⟩
             rw [hst]
             try simp only [List.map_append,List.length_append,List.length_map,List.map_cons,List.map_nil,List.length_cons,List.length_nil,List.nil_append]
             try rfl
            ·rw [if_neg e3] at hst
             simp -implicitDefEqProofs only [go_sem,hlt',hg,hw,e1',e2',e3,ze,zf,zg,zc,zb,za,Bool.not_true,Bool.not_false]
             refine ⟨_,by omega,i+1,_,_,_,_,⟨hlt,Shp.s11 (H:=(hvF me p al (left.take (i+1)))) (by rw [hst];exact q1) (by rw [hst];exact q2)⟩,rfl,?_⟩
             rw [hst]
             try simp only [List.map_append,List.length_append,List.length_map,List.map_cons,List.map_nil,List.length_cons,List.length_nil,List.nil_append]
             try rfl
        ·have hi:i=left.length:=by omega
         subst hi
         have hlt':¬((left.length:Int)<(left.length:Int)):=by omega
         rw [List.take_length] at hc hvl ⊢
         generalize hvF me p al left=H at *
         obtain ⟨le,al',rest⟩:=H
         simp only at hvl
         cases hc with
         | s00 q1 q2=>
          simp only at q1
          subst q1
          simp only at q2
          subst q2
          simp -implicitDefEqProofs only [go_sem,hlt',ze,zf,zg,zc,zb,za,Bool.not_true,Bool.not_false]
         | s01 q1 q2=>
          simp only at q1
          subst q1
          simp -implicitDefEqProofs only [go_sem,hlt',ze,zf,zg,zc,zb,za,Bool.not_true,Bool.not_false]
         | s10 q1 q2=>
          simp only at q2
          subst q2
          simp -implicitDefEqProofs only [go_sem,hlt',ze,zf,zg,zc,zb,za,Bool.not_true,Bool.not_false]
         | s11 q1 q2=>
          simp -implicitDefEqProofs only [go_sem,hlt',ze,zf,zg,zc,zb,za,Bool.not_true,Bool.not_false]
 ·have c1':(m.from_ != held.size)=true:=by rw [bne_iff_ne];exact c1
  rw [if_pos c1]
  simp -implicitDefEqProofs only [go_sem,c1',ze,zf,zg,zc,zb,za,Bool.not_true,Bool.not_false]
end Go.Proofs.YtpjpkmhaffmbmaaGreat.E
end
section
namespace Go.Proofs.YtpjpkmhaffmbmaaGreat.E
open Go Go.RowKit
set_option maxHeartbeats 4000000
set_option maxRecDepth 10000
set_option linter.unusedSimpArgs false
set_option linter.unusedVariables false
set_option linter.unusedSectionVars false
def dcVC:Dec:=⟨[(49,.cm [false,false,false,false]),(50,.cm [false,false,false]),(51,.cm [false])],[9,10,11],[22,30,37,38,39,40,49,56,76,80,87,141,143,159,237,250,259],false⟩
theorem c9_c (w:MWit) (me:Int) (l:MLet) (hd:w.disk.ok) (hl:w.wishes.length≤maxLen) (hwo:∀x∈w.wishes,x.pt.root.ok):zS Tryz.prog 9 [] [w.ro,vI me,.agg l.cs] (yF w me l).av (yF w me l).out:=by
 refine zj dcVC false Tryz.f9 ?_
 conv=>enter [1];reduce
 refine jvM Tryz.f9 68 [.cell 6 42] (by kernel_rfl) (by decide +kernel) rfl ?_
 unfold yF
 simp -implicitDefEqProofs only [go_sem]
 refine Want.intro (zot w hd hl) ?_
 cases a1:yy w with
 | false=>
  simp -implicitDefEqProofs only [go_sem,a1,Bool.not_false,Bool.false_and,Bool.false_eq_true,ze,zf,zg,zc,zb,za]
  first | done | rfl | exact ⟨rfl,rfl⟩
 | true=>
  have hw8:=za7 a1
  simp -implicitDefEqProofs only [go_sem,a1,Bool.not_true,ze,zf,zg,zc,zb,za]
  refine Want.intro (zrB l) ?_
  cases a2:qm l with
  | false=>
   simp -implicitDefEqProofs only [go_sem,Bool.not_false,Bool.and_false,Bool.false_and,Bool.false_eq_true,ze,zf,zg,zc,zb,za]
   first | done | rfl | exact ⟨rfl,rfl⟩
  | true=>
   have hsz:l.text.size≤600:=by
    simp only [qm,Bool.and_eq_true,decide_eq_true_eq] at a2
    omega
   simp -implicitDefEqProofs only [go_sem,Bool.not_true,ze,zf,zg,zc,zb,za]
   refine Want.intro (zao me 1 20) ?_
   cases a3:mIn me 1 20 with
   | false=>
    simp -implicitDefEqProofs only [go_sem,Bool.not_false,Bool.and_false,Bool.false_and,Bool.false_eq_true,ze,zf,zg,zc,zb,za]
    first | done | rfl | exact ⟨rfl,rfl⟩
   | true=>
    have hcw:=zop w (by omega)
    have hwr:=zor l.text (by omega)
    have hwl:=zbD l.text
    have hwi:=ji l.text
    have hro:=zgO (s:=l.text)
    generalize hW:zl l.text=W at *
    obtain ⟨x,code,at_⟩:=W
    simp only at hwl hwi hro
    have hvo:=c49_c w me l.from_ x hw8 hd hro
    have hgr:=fun (hc:code=0)=>c50_c w me x hw8 hd (hwi hc).2.2.1 hwl.1 hwo
    simp -implicitDefEqProofs only [go_sem,Bool.not_true,Bool.and_self,if_true,ze,zf,zg,zc,zb,za]
    refine Want.intro hwr ?_
    cases b1:(code==0)<;>cases b2:(x.kind==3)<;>cases b4:(x.kind==5)<;>cases b3:(l.from_==0)<;>by_cases b5:l.from_>0
    all_goals first
     | (exfalso;simp only [beq_iff_eq] at b3;omega)
     | (exfalso;simp only [beq_iff_eq] at b2 b4;omega)
     | skip
    all_goals simp -implicitDefEqProofs only [go_sem,b1,b2,b3,b4,b5,bne,Bool.not_true,Bool.not_false,Bool.and_true,Bool.and_false,Bool.true_and,Bool.false_and,Bool.false_eq_true,if_false,if_true,ze,zf,zg,zc,zb,za]
    all_goals first
     | (refine WantM.intro hvo ?_
        generalize yh w (zA w.disk) me l.from_ x.session ⟨x.size,x.root⟩=T at *
        obtain ⟨dd,ww,rr,kk,ll,aa⟩:=T
        cases kk with
        | none=>simp -implicitDefEqProofs only [go_sem]
        | some k=>simp -implicitDefEqProofs only [go_sem])
     | (have hc0:code=0:=by simpa using b1
        refine WantM.intro (hgr hc0) ?_
        generalize ya w (zA w.disk) me x=T at *
        obtain ⟨dd,ww,rr,kk,ll,aa⟩:=T
        cases kk with
        | none=>simp -implicitDefEqProofs only [go_sem]
        | some k=>simp -implicitDefEqProofs only [go_sem])
     | (refine WantM.intro hcw ?_
        simp -implicitDefEqProofs only [go_sem])
     | trace_state
end Go.Proofs.YtpjpkmhaffmbmaaGreat.E
end
section
namespace Go.Proofs.YtpjpkmhaffmbmaaGreat.E
open Go Go.RowKit
set_option maxHeartbeats 4000000
set_option maxRecDepth 10000
set_option linter.unusedSimpArgs false
set_option linter.unusedVariables false
set_option linter.unusedSectionVars false
def dcX5:Dec:=⟨[(7,.cm [false]),(8,.cm [true,false,false]),(9,.cm [false,false,false])],[9,10,11],[22,30,37,38,39,40,49,56,76,80,87,141,143,159,237,250,259],false⟩
def zqk:Option MKeep→Row
 | none=>⟨11,[],2,false⟩
 | some k=>⟨11,[k.cs (.blk 60006 0 [] 4 0 k.proof.length)],0,false⟩
def zqj:Option MKeep→Sig
 | none=>[]
 | some k=>[(60006,0,one ⟨4,k.proof.map MDig.cs,2,false⟩)]
def h6 (T:MHeard) (p:MPt):Sig:=[(6,0,one ⟨19,[yf T.disk (.blk 10006 0 [] 7 0 T.wishes.length) (.blk 20006 0 [] 3 0 T.raws.length) (.blk 30006 0 [] 11 0 T.kept.toList.length) (.blk 40006 0 [] 3 0 T.letters.length) (.blk 50006 0 [] 13 0 T.alarms.length)],0,false⟩),(10006,0,one ⟨7,T.wishes.map MWish.cs,2,false⟩),(20006,0,one ⟨3,T.raws.map MRaw.cs,2,false⟩),(30006,0,one (zqk T.kept)),(40006,0,one ⟨3,T.letters.map MLet.cs,2,false⟩),(50006,0,one ⟨13,T.alarms.map MAl.cs,2,false⟩)]++(zqj T.kept++[(9,0,one ⟨5,[p.cs],0,false⟩)])
attribute [go_sem] zqk zqj h6
theorem zcW {me:Int} {p:MPt} {l:MLet} (h:zco me p l):l.text.size≤600:=by
 obtain ⟨i1,-,-,i4⟩:=ji l.text h.1
 have:=zna (WOk.of i1)
 rw [←i4,zQ]
 omega
theorem c3_c (code:List UInt8) (hl:code.length≤maxLen):CallR Tryz.prog 3 [.ro 1 (code.map zt)] (vB true) []:=by
 refine zj dcX5 true Tryz.f3 ?_
 conv=>enter [1];reduce
 refine jvR Tryz.f3 252 [.tmp 2] (by kernel_rfl) (by decide +kernel) rfl ?_
 simp -implicitDefEqProofs only [go_sem]
 refine zi (fun h=>?_) (fun h=>?_)
 ·simp -implicitDefEqProofs only [go_sem,h]
 ·simp -implicitDefEqProofs only [go_sem,h]
  obtain ⟨res,σ,⟨w,me,x,⟨rfl,rfl⟩,hd,h8,hwo⟩,hcall⟩:=c7_c code hl
  refine WantM.intro hcall ?_
  have h8x:w.wishes.length≤maxLen:=by unfold maxLen;omega
  have hI:=c8_c w me x hd h8x
  have hS:=c9_c w me x hd h8x hwo
  have hm:=zhl (me:=me) (l:=x) hd hwo
  have hC:=zot w hd h8x
  have hL:=zrB x
  cases ok:(yy w&&(qm x&&mIn me 1 20)) with
  | false=>
   have hz:yF w me x=.zero:=by unfold yF;rw [ok];rfl
   rw [hz] at hI hS
   simp -implicitDefEqProofs only [go_sem]
   refine WantM.intro hI ?_
   simp -implicitDefEqProofs only [go_sem]
   refine WantM.intro hS ?_
   simp -implicitDefEqProofs only [go_sem,bne_self_eq_false]
   refine Want.intro hC ?_
   have zN:((0:Nat):Int)=0:=rfl
   cases a1:yy w with
   | false=>
    simp -implicitDefEqProofs only [go_sem,Bool.not_false,zN,beq_self_eq_true]
    all_goals first | done | rfl | trace_state
   | true=>
    simp -implicitDefEqProofs only [go_sem,Bool.not_true]
    refine Want.intro hL ?_
    cases a2:qm x with
    | false=>
     simp -implicitDefEqProofs only [go_sem,Bool.not_false,zN,beq_self_eq_true]
     all_goals first | done | rfl | trace_state
    | true=>
     simp -implicitDefEqProofs only [go_sem,Bool.not_true]
     by_cases q1:me<1
     ·simp -implicitDefEqProofs only [go_sem,q1,zN,beq_self_eq_true]
      all_goals first | done | rfl | trace_state
     ·by_cases q2:me>20
      ·simp -implicitDefEqProofs only [go_sem,q1,q2,zN,beq_self_eq_true]
       all_goals first | done | rfl | trace_state
      ·exfalso
       rw [a1,a2,mIn_iff.2 ⟨by omega,by omega⟩] at ok
       exact absurd ok (by decide)
  | true=>
   simp only [Bool.and_eq_true] at ok
   obtain ⟨ht,hle⟩:=zio ok.1 ok.2.1 ok.2.2 hwo
   have q3:=mIn_iff.1 ok.2.2
   have q1:¬me<1:=by omega
   have q2:¬me>20:=by omega
   have hO:=zl0 w.disk hd
   have hN:=zos (yF w me x).disk hm.d
   have hK:=zot ⟨(yF w me x).disk,(yF w me x).wishes⟩ hm.d (by have:=hm.ws;show (yF w me x).wishes.length≤maxLen;unfold maxLen;omega)
   rw [ok.1] at hC
   rw [ok.2.1] at hL
   rw [ht.ok] at hK
   have hDW:=zlZ w.disk (yF w me x).raws (by have:=hm.r;unfold maxLen;omega)
   have hGC:=fun k (e:(yF w me x).kept=some k)=>zrt (zA w.disk) (zA (yF w me x).disk) k.proof (hm.k k e).1
   generalize yF w me x=T at *
   obtain ⟨d',ww,rr,kk,ll,aa⟩:=T
   have hll:ll.length≤100:=hm.l
   have zN:((0:Nat):Int)=0:=rfl
   simp -implicitDefEqProofs only [go_sem]
   refine WantM.intro hI ?_
   cases kk with
   | none=>
    obtain ⟨e1,e2⟩:=ht.no rfl
    simp only at e1 e2 hN hK hle
    subst e1 e2
    generalize zA w.disk=p at *
    have p1:¬p.size<p.size:=by omega
    simp -implicitDefEqProofs only [go_sem]
    refine WantM.intro hS ?_
    simp -implicitDefEqProofs only [go_sem,bne_self_eq_false]
    refine Want.intro hC ?_
    simp -implicitDefEqProofs only [go_sem,Bool.not_true]
    refine Want.intro hL ?_
    simp -implicitDefEqProofs only [go_sem,Bool.not_true,q1,q2]
    refine Want.intro hO ?_
    simp -implicitDefEqProofs only [go_sem]
    refine Want.intro hN ?_
    simp -implicitDefEqProofs only [go_sem,p1,beq_self_eq_true,bne_self_eq_false]
    refine Want.intro hK ?_
    have z1:¬((0:Int)>1):=by decide
    have z2:((0:Int)==1)=false:=rfl
    simp -implicitDefEqProofs only [go_sem,Bool.not_true,zN,z1,beq_self_eq_true,bne_self_eq_false]
    clear hI hS hC hL hO hN hK hDW hGC
    refine zX [4,6,9] [] (fun s=>s=⟨252,[(4,vI me),(6,.ptr 6 0 [] 19 0 0),(9,.ptr 9 0 [] 5 0 0)],h6 ⟨w.disk,ww,[],none,ll,aa⟩ p,1⟩) ?_ ?_
    ·simp -implicitDefEqProofs only [go_sem,zN,z2]
     first | done | rfl | trace_state
    ·rintro s rfl
     simp -implicitDefEqProofs only [go_sem]
     refine zU (fun n s=>∃i,i≤ll.length∧n=ll.length - i∧s=⟨252,[(4,vI me),(6,.ptr 6 0 [] 19 0 0),(9,.ptr 9 0 [] 5 0 0),(11,vI i)],h6 ⟨w.disk,ww,[],none,ll,aa⟩ p,1⟩) ll.length ?_ ?_
     ·simp -implicitDefEqProofs only [go_sem]
      exact ⟨0,Nat.zero_le _,rfl,rfl⟩
     ·rintro n s ⟨i,hi,rfl,rfl⟩
      rcases Nat.lt_or_ge i ll.length with hlt | hge
      ·have hlt':(i:Int)<(ll.length:Int):=by omega
       have hw:=zB hlt (show ll.length≤maxLen by unfold maxLen;omega)
       have hg:ll[i]?=some ll[i]:=List.getElem?_eq_getElem hlt
       have hok:=hle _ (List.getElem_mem hlt)
       generalize ll[i]=y at *
       have hsz:=zcW hok
       have hwr:=zor y.text (by omega)
       obtain ⟨o1,o2,o3⟩:=hok
       generalize zl y.text=W at *
       obtain ⟨m,code,at_⟩:=W
       simp only at o1 o3
       subst o1
       have f0:((0:Int) != 0)=false:=rfl
       have f1:(y.from_ != me)=false:=by rw [o2];exact bne_self_eq_false me
       simp -implicitDefEqProofs only [go_sem,hlt',hg,hw]
       refine Want.intro hwr ?_
       rcases o3 with ⟨k1,⟨k2,k3⟩,k4⟩ | ⟨k1,k2⟩
       ·have g1:(m.kind==6)=true:=by rw [k1];rfl
        have g2:(m.kind != 6)=false:=by rw [k1];rfl
        have g3:(m.size != p.size)=false:=by rw [k2];exact bne_self_eq_false _
        have g4:¬m.size<1:=by omega
        simp -implicitDefEqProofs only [go_sem,hlt',hg,hw,f0,f1,g1,g2,g3,g4,k3,beq_self_eq_true,bne_self_eq_false,Bool.not_true]
        exact ⟨_,by omega,i+1,hlt,rfl,rfl⟩
       ·have g1:(m.kind==6)=false:=by rw [k1];rfl
        have g2:(m.kind != 6)=true:=by rw [k1];rfl
        have g3:(m.kind != 4)=false:=by rw [k1];rfl
        have g4:(y.to_ != 0)=false:=by rw [k2];rfl
        simp -implicitDefEqProofs only [go_sem,hlt',hg,hw,f0,f1,g1,g2,g3,g4]
        exact ⟨_,by omega,i+1,hlt,rfl,rfl⟩
      ·have hi:i=ll.length:=by omega
       subst hi
       have hlt':¬((ll.length:Int)<(ll.length:Int)):=by omega
       simp -implicitDefEqProofs only [go_sem,hlt']
   | some k=>
    obtain ⟨⟨e1,e2⟩,⟨e3,e4⟩,e5⟩:=ht.yes k rfl
    have hG:=hGC k rfl
    clear hGC
    obtain ⟨ko,kn,kp⟩:=k
    simp only at e1 e2 e3 e4 e5 hN hK hle hDW hG
    rw [←e4] at hDW
    subst e1 e2
    rw [e3] at hG
    clear e4
    generalize zA w.disk=p at *
    generalize zA d'=q at *
    have p1:¬q.size<p.size:=by omega
    have p2:(q.size==p.size)=false:=by rw [beq_eq_false_iff_ne];omega
    have z1:¬((1:Int)>1):=by decide
    have zO:((1:Nat):Int)=1:=rfl
    have z2:((1:Int)==0)=false:=rfl
    have z3:(0:Int)<1:=by decide
    simp -implicitDefEqProofs only [go_sem]
    refine WantM.intro hS ?_
    simp -implicitDefEqProofs only [go_sem,bne_self_eq_false]
    refine Want.intro hC ?_
    simp -implicitDefEqProofs only [go_sem,Bool.not_true]
    refine Want.intro hL ?_
    simp -implicitDefEqProofs only [go_sem,Bool.not_true,q1,q2]
    refine Want.intro hO ?_
    simp -implicitDefEqProofs only [go_sem]
    refine Want.intro hN ?_
    simp -implicitDefEqProofs only [go_sem,p1,p2,beq_self_eq_true,bne_self_eq_false]
    refine Want.intro hK ?_
    simp -implicitDefEqProofs only [go_sem,Bool.not_true,zO,z1,z2]
    refine zX [4,6,9] [] (fun s=>s=⟨252,[(4,vI me),(6,.ptr 6 0 [] 19 0 0),(9,.ptr 9 0 [] 5 0 0)],h6 ⟨d',ww,rr,some ⟨p,q,kp⟩,ll,aa⟩ q,1⟩) ?_ ?_
    ·simp -implicitDefEqProofs only [go_sem,zO,z3,beq_self_eq_true,bne_self_eq_false,Bool.not_true]
     refine Want.intro hG ?_
     simp -implicitDefEqProofs only [go_sem,zO,beq_self_eq_true,bne_self_eq_false,Bool.not_true]
     refine Want.intro hDW ?_
     simp -implicitDefEqProofs only [go_sem,zO,beq_self_eq_true,bne_self_eq_false,Bool.not_true]
     first | done | rfl | trace_state
    ·clear hI hS hC hL hO hN hK hDW hG
     rintro s rfl
     simp -implicitDefEqProofs only [go_sem]
     refine zU (fun n s=>∃i,i≤ll.length∧n=ll.length - i∧s=⟨252,[(4,vI me),(6,.ptr 6 0 [] 19 0 0),(9,.ptr 9 0 [] 5 0 0),(11,vI i)],h6 ⟨d',ww,rr,some ⟨p,q,kp⟩,ll,aa⟩ q,1⟩) ll.length ?_ ?_
     ·simp -implicitDefEqProofs only [go_sem]
      exact ⟨0,Nat.zero_le _,rfl,rfl⟩
     ·rintro n s ⟨i,hi,rfl,rfl⟩
      rcases Nat.lt_or_ge i ll.length with hlt | hge
      ·have hlt':(i:Int)<(ll.length:Int):=by omega
       have hw:=zB hlt (show ll.length≤maxLen by unfold maxLen;omega)
       have hg:ll[i]?=some ll[i]:=List.getElem?_eq_getElem hlt
       have hok:=hle _ (List.getElem_mem hlt)
       generalize ll[i]=y at *
       have hsz:=zcW hok
       have hwr:=zor y.text (by omega)
       obtain ⟨o1,o2,o3⟩:=hok
       generalize zl y.text=W at *
       obtain ⟨m,code,at_⟩:=W
       simp only at o1 o3
       subst o1
       have f0:((0:Int) != 0)=false:=rfl
       have f1:(y.from_ != me)=false:=by rw [o2];exact bne_self_eq_false me
       simp -implicitDefEqProofs only [go_sem,hlt',hg,hw]
       refine Want.intro hwr ?_
       rcases o3 with ⟨k1,⟨k2,k3⟩,k4⟩ | ⟨k1,k2⟩
       ·have g1:(m.kind==6)=true:=by rw [k1];rfl
        have g2:(m.kind != 6)=false:=by rw [k1];rfl
        have g3:(m.size != q.size)=false:=by rw [k2];exact bne_self_eq_false _
        have g4:¬m.size<1:=by omega
        simp -implicitDefEqProofs only [go_sem,hlt',hg,hw,f0,f1,g1,g2,g3,g4,k3,beq_self_eq_true,bne_self_eq_false,Bool.not_true]
        exact ⟨_,by omega,i+1,hlt,rfl,rfl⟩
       ·have g1:(m.kind==6)=false:=by rw [k1];rfl
        have g2:(m.kind != 6)=true:=by rw [k1];rfl
        have g3:(m.kind != 4)=false:=by rw [k1];rfl
        have g4:(y.to_ != 0)=false:=by rw [k2];rfl
        simp -implicitDefEqProofs only [go_sem,hlt',hg,hw,f0,f1,g1,g2,g3,g4]
        exact ⟨_,by omega,i+1,hlt,rfl,rfl⟩
      ·have hi:i=ll.length:=by omega
       subst hi
       have hlt':¬((ll.length:Int)<(ll.length:Int)):=by omega
       simp -implicitDefEqProofs only [go_sem,hlt']
end Go.Proofs.YtpjpkmhaffmbmaaGreat.E
end
section
namespace Go.Proofs.YtpjpkmhaffmbmaaGreat.E
open Go Go.RowKit
theorem OpensC.mapW {P:Program} {t:TypeId} {sz:Nat} {α β:Type} {E:α→List AV} {Wf:α→Prop} (h:OpensC P t sz E Wf) (g:α→β) (F:β→List AV) (Wg:β→Prop) (hF:∀b,(F b).length=sz∧∀c∈F b,sfc c=true)
  (hE:∀a,Wf a→F (g a)=E a) (hW:∀a,Wf a→Wg (g a)):OpensC P t sz F Wg:=
 ⟨h.1,hF,fun H enc w fuel cs x hx=>by obtain ⟨a,ha,hp⟩:=h.2.2 H enc w fuel cs x hx;exact ⟨g a,hW a ha,by rw [hE a ha];exact hp⟩⟩
theorem oByte:OpensC Tryz.prog 5 1 zt (fun _=>True):=
 (zjf (k:=.u8) Tryz.underlying5 (by kernel_rfl)).mapW (fun n=>UInt8.ofNat n.toNat) zt (fun _=>True) (fun b=>⟨rfl,by simp [zt,sfc]⟩)
  (fun n hn=>by
   have h:0≤n∧n<256:=by
    have h1:(Lit.int .u8 n).wf=true:=hn
    simp only [Lit.wf,Bool.and_eq_true,decide_eq_true_eq] at h1
    have e1:IntKind.u8.min=0:=rfl
    have e2:IntKind.u8.max=255:=rfl
    omega
   have:(UInt8.ofNat n.toNat).toNat=n.toNat:=by simp;omega
   simp only [zt,this]
   rw [Int.toNat_of_nonneg h.1]) (fun _ _=>trivial)
theorem zpW:OpensC Tryz.prog 22 1 (fun l:List UInt8=>[.ro 1 (l.map zt)]) (fun l=>(∀a∈l,True)∧l.length≤maxLen):=zfI Tryz.underlying22 (by kernel_rfl) oByte (by omega)
end Go.Proofs.YtpjpkmhaffmbmaaGreat.E
end
section
namespace Go.Proofs.YtpjpkmhaffmbmaaGreat.fnWitnessTop
open Go.ChangeShapes Go.WideShapes Go.ChangeAt Go.RowKit E
set_option linter.unusedVariables false
theorem own:ownKnob Tryz.prog.godebug=none:=by kernel_rfl
theorem znJ:laidOutB Tryz.prog=true:=by kernel_rfl
set_option maxRecDepth 100000 in
theorem lifted (os:Os) (started:os.Started) (H:Type) (enc:TypeId × Value→H):
  ReturnsInHanded {} Tryz.checked os 3 .any (Rows.fnWitnessTopSpec.pre6 enc Tryz.prog Tryz.f3 Rows.fnWitnessTopRow.domain false) (Rows.fnWitnessTopSpec.post enc Tryz.prog Tryz.f3 false true false false):=by
 refine returnsInHanded_of_change_sized (C:=Tryz.checked) own started (by kernel_rfl) Tryz.func3
  (ChangeSpec.witness6 (enc:=enc) (C:=Tryz.checked) false ⟨#[],#[.slice none 0 0],[]⟩ 8 (by kernel_rfl) (by kernel_rfl) (by kernel_rfl) (by kernel_rfl)) ?_
 intro W base args ds gs before hval0 hW hcnd hsz0 _
 have hval:∀(j:Nat) t v,Tryz.f3.params[j]?=some t→args[j]?=some v→Value.okWide Tryz.prog W .any base t v:=hval0
 have hW':=hW
 obtain ⟨p,q,hA0,hV,rfl,hfz,hnd⟩:=hW
 have hA:DataW.TrodAll enc Tryz.prog W 0 (fun _=>true) true Tryz.f3.params.toList args.toList ds p:=hA0
 rw [Tryz.params3] at hA hval
 obtain ⟨v0,vs0,d0,ds0,p0,q0,hargs,rfl,rfl,h0,r0⟩:=trodAll_cons hA
 obtain ⟨rfl,rfl,rfl⟩:=trodAll_nil r0
 obtain rfl:args=#[v0]:=by cases args;simp_all
 obtain ⟨rfl,rfl⟩:=trodVars_none hV
 have lt0:∀x∈p0,x.block<W.heap.size:=by obtain ⟨m,hm⟩:=h0;exact DataW.trod_lt m _ _ _ hm
 obtain ⟨ad0,len0,cap0,rfl⟩:=okWide_slice Tryz.underlying22 (hval 0 22 v0 rfl rfl)
 obtain ⟨a0,w0,x0⟩:=zjg zpW rfl h0
 refine (zlS ((c3_c a0 w0.2)) (PW.cons x0 PW.nil)).mono fun e W' ⟨he,bel⟩=>?_
 subst he
 exact ⟨_,rfl,_,_,_,[],_,[],hW',trodAll_mk1 (shut_bool Tryz.underlying4 _),(trodAll_cons_mk (Below.trod znJ (by kernel_rfl) (of_decide_eq_true (by kernel_rfl)) h0 bel lt0) trodAll_mk0),rfl,bel.frame _,fun h=>by cases h⟩
theorem jf0:laidOutB Tryz.pinned.checked.prog=true:=by kernel_rfl
theorem jf1:mapsRowed Tryz.pinned.checked.prog=true:=by kernel_rfl
theorem jf2:(Rows.fnWitnessTopRow.inPlace==(Tryz.pinned.checked.prog).inPlace 3)=true:=by kernel_rfl
theorem jf3:(Rows.fnWitnessTopRow.unfollowed==(Tryz.pinned.checked.prog).unfollowed 3)=true:=by kernel_rfl
theorem jf4:(Rows.fnWitnessTopRow.recurses==(Tryz.pinned.checked.prog).recurses 3)=true:=by kernel_rfl
theorem jf5:(Rows.fnWitnessTopRow.named==(Tryz.pinned.checked.prog).varsNamed 3)=true:=by kernel_rfl
theorem jf6:(Tryz.pinned.checked.prog).stopsHeard=true:=by kernel_rfl
theorem jf7:(Tryz.pinned.checked.prog).mayEnter=true:=by kernel_rfl
theorem jf8:(Rows.fnWitnessTopRow.lifted==(Tryz.pinned.checked.prog).liftsFinal)=true:=by kernel_rfl
theorem jf9:(Rows.fnWitnessTopRow.plainKeys==(Tryz.pinned.checked.prog).plainKeys)=true:=by kernel_rfl
theorem zq4:joinedFacts Tryz.pinned.checked.prog 3 Tryz.f3 Rows.fnWitnessTopSpec Rows.fnWitnessTopRow=true:=by
 unfold joinedFacts
 rw [jf0,jf1,jf2,jf3,jf4,jf5,jf6,jf7,jf8,jf9]
 kernel_rfl
theorem over:Rows.fnWitnessTopRow.holds Tryz.pinned (OpenSpec.ofChange Rows.fnWitnessTopSpec):=
 OpenClaim.holds_of_wide 3 Tryz.f3 rfl rfl rfl rfl rfl rfl rfl ⟨rfl,rfl,rfl,rfl,rfl⟩ rfl rfl rfl rfl rfl (by kernel_rfl) Tryz.func3
  zq4 (of_decide_eq_true (by kernel_rfl)) (by unfold Func.isWrapper;first | (rw [if_pos (by decide +kernel)];kernel_rfl) | (rw [if_neg (by decide +kernel)];exact ⟨rfl,rfl⟩))
  (fun os started H enc _=>lifted os started H enc)
end Go.Proofs.YtpjpkmhaffmbmaaGreat.fnWitnessTop
namespace Go.Proofs.YtpjpkmhaffmbmaaGreat
theorem fnWitnessTop_holds:Rows.FnWitnessTopSaid:=fnWitnessTop.over
#print axioms fnWitnessTop_holds
end Go.Proofs.YtpjpkmhaffmbmaaGreat
end
