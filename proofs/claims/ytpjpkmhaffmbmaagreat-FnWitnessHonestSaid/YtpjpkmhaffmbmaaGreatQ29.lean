/- Contracts: what comes of a growth, in the reference; Contracts: what comes of a letter to a witness -/
import Derived.Test.YtpjpkmhaffmbmaaGreatQ27
section
namespace Go.Proofs.YtpjpkmhaffmbmaaGreat.E
open Go Go.RowKit
set_option maxHeartbeats 4000000
set_option maxRecDepth 10000
set_option linter.unusedSimpArgs false
set_option linter.unusedVariables false
set_option linter.unusedSectionVars false
def dcV9:Dec:=⟨[(51,.cm [false])],[9,10,11],[22,30,37,38,39,40,49,56,76,80,87,141,143,159,237,250,259],false⟩
theorem zl6 (d:MDisk) (size:Int) (root:MDig):(yT d size root).length≤8:=by
 rw [xq]
 split
 ·exact Nat.le_refl 8
 ·exact Nat.zero_le _
theorem yQ {a b:MPt} (h:yR a b=true):a=b:=by
 obtain ⟨s,⟨a1,a2,a3,a4⟩⟩:=a
 obtain ⟨t,⟨b1,b2,b3,b4⟩⟩:=b
 simp only [yR,Bool.and_eq_true,beq_iff_eq] at h
 obtain ⟨h1,h2,h3,h4,h5⟩:=h
 have:a1=b1:=by omega
 have:a2=b2:=by omega
 have:a3=b3:=by omega
 have:a4=b4:=by omega
 subst_vars
 rfl
theorem gF_ok (held:MPt) (size:Int) (P:List MDig) (l:List MWish):∀s:GSt,(∀x∈l,x.pt.root.ok)→((∀x∈s.left,x.pt.root.ok)∧s.p.root.ok)→(∀x∈(l.foldl (yY held size P) s).left,x.pt.root.ok)∧(l.foldl (yY held size P) s).p.root.ok:=by
 induction l with
 | nil=>intro s _ h;exact h
 | cons a l ih=>
  intro s hl h
  rw [List.foldl_cons]
  have ha:=hl a (List.mem_cons_self ..)
  refine ih _ (fun x hx=>hl x (List.mem_cons_of_mem _ hx)) ?_
  have hap:∀x∈s.left++[a],x.pt.root.ok:=fun x hx=>by
   rcases List.mem_append.1 hx with hx | hx
   ·exact h.1 x hx
   ·rw [List.mem_singleton.1 hx];exact ha
  unfold yY
  split
  ·exact ⟨hap,h.2⟩
  ·split
   ·exact h
   ·exact ⟨hap,ha⟩
theorem c50_c (w:MWit) (me:Int) (m:MMsg) (hl:w.wishes.length≤8) (hd:w.disk.ok) (hp:∀d∈m.proof,d.ok) (hpl:m.proof.length≤1000) (hwo:∀x∈w.wishes,x.pt.root.ok):zW Tryz.prog 50 [] [w.ro,vI me,m.ro] (zZ w (zx w.disk) me m).av (zZ w (zx w.disk) me m).out:=by
 refine zl dcV9 false Tryz.f50 ?_
 conv=>enter [1];reduce
 refine jvM Tryz.f50 175 [.cell 6 42] (by kernel_rfl) (by decide +kernel) rfl ?_
 have hcp:=zpf w (by omega)
 have hhe:=zix w.disk hd
 generalize zx w.disk=held at *
 obtain ⟨disk,l⟩:=w
 simp only at hl hd hwo
 have hlm:l.length≤maxLen:=by unfold maxLen;omega
 unfold zZ
 simp only
 simp -implicitDefEqProofs only [go_sem]
 refine WantM.intro hcp ?_
 simp -implicitDefEqProofs only [go_sem]
 refine Want.intro hhe ?_
 by_cases c1:m.from_=held.size
 ·have c1':(m.from_ != held.size)=false:=by rw [bne_eq_false_iff_eq];exact c1
  rw [if_neg (fun h=>h c1)]
  simp -implicitDefEqProofs only [go_sem,c1',ze,zf,zg,zc,zb,za,Bool.not_true,Bool.not_false]
  refine zX (fun n z=>∃(i:Nat) (c:AV) (R:Sig),(i≤l.length∧((gF held m.size m.proof (l.take i)).al=[]∧c=.nilS∧R=[]∨(gF held m.size m.proof (l.take i)).al≠[]∧c=.blk 20007 0 [] 13 0 (gF held m.size m.proof (l.take i)).al.length∧R=[(20007,0,one ⟨13,(gF held m.size m.proof (l.take i)).al.map MAl.cs,2,false⟩)]))∧n=l.length - i∧z=⟨175,[(1,vI me),(3,.ptr 3 0 [] 15 0 0),(5,.ptr 5 0 [] 11 0 0),(6,.ptr 6 0 [] 19 0 0),(7,.ptr 7 0 [] 19 0 0),(8,.ptr 8 0 [] 5 0 0),(9,.blk 9 0 [] 7 0 (gF held m.size m.proof (l.take i)).left.length),(10,vB (gF held m.size m.proof (l.take i)).taken),(11,.ptr 11 0 [] 5 0 0),(12,vI i)],[(3,0,one ⟨15,[MWit.cs ⟨disk,l⟩ (.ro 7 (l.map MWish.cs))],0,false⟩),(5,0,one ⟨11,[m.roC],0,false⟩),(6,0,one ⟨19,[yi zdisk .nilS .nilS .nilS .nilS .nilS],0,false⟩),(7,0,one ⟨19,[yi disk (.blk 10007 0 [] 7 0 l.length) .nilS .nilS .nilS c],0,false⟩),(10007,0,one ⟨7,l.map MWish.cs,2,false⟩)]++(R++[(8,0,one ⟨5,[held.cs],0,false⟩),(9,0,one ⟨7,(gF held m.size m.proof (l.take i)).left.map MWish.cs,2,false⟩),(11,0,one ⟨5,[(gF held m.size m.proof (l.take i)).p.cs],0,false⟩)]),1⟩) l.length ?_ ?_
  ·simp -implicitDefEqProofs only [go_sem,MMsg.roC]
   exact ⟨0,.nilS,[],⟨Nat.zero_le _,.inl ⟨rfl,rfl,rfl⟩⟩,rfl,rfl⟩
  ·rintro n z ⟨i,c,R,⟨hi,hc⟩,rfl,rfl⟩
   rcases Nat.lt_or_ge i l.length with hlt | hge
   ·have hlt':(i:Int)<(l.length:Int):=by omega
    have hg:l[i]?=some l[i]:=List.getElem?_eq_getElem hlt
    have hw:=zG hlt hlm
    have hst:=zkx (held:=held) (size:=m.size) (P:=m.proof) hlt
    have hle:=zii held m.size m.proof (l.take i)
    rw [List.length_take] at hle
    have h1m:1≤maxLen:=by unfold maxLen;omega
    generalize l[i]=x at *
    have hgc:=zsf held x.pt m.proof hp
    generalize gF held m.size m.proof (l.take i)=S at *
    obtain ⟨left,tk,p,al⟩:=S
    unfold yY at hst
    simp only at hst hle hc
    generalize mGC held x.pt (m.proof.map MDig.bd)=cd at *
    have ha1:∀v,_:=fun v=>zcB (L:=left.map MWish.cs) (b:=56) (by rw [List.length_map];omega) (by omega) v
    have ha2:∀v,_:=fun v=>zcB (L:=al.map MAl.cs) (b:=104) (by rw [List.length_map];omega) (by omega) v
    rcases hc with ⟨rfl,rfl,rfl⟩ | ⟨hne,rfl,rfl⟩
    ·cases tk with
     | true=>
      rw [if_pos (.inl rfl)] at hst
      simp -implicitDefEqProofs only [go_sem,hlt',hg,hw,ha1,ze,zf,zg,zc,zb,za,Bool.not_true,Bool.not_false]
      refine ⟨_,by omega,i+1,.nilS,[],⟨hlt,.inl ⟨by rw [hst],rfl,rfl⟩⟩,rfl,?_⟩
      rw [hst]
      try simp only [List.map_append,List.length_append,List.length_map,List.map_cons,List.map_nil,List.length_cons,List.length_nil,List.nil_append]
      try rfl
     | false=>
      by_cases c2:x.pt.size=m.size
      ·have c2':(x.pt.size != m.size)=false:=by rw [bne_eq_false_iff_eq];exact c2
       rw [if_neg (fun h=>h.elim (by simp) (fun h=>h c2))] at hst
       simp -implicitDefEqProofs only [go_sem,hlt',hg,hw,c2',ze,zf,zg,zc,zb,za,Bool.not_true,Bool.not_false]
       refine Want.intro hgc ?_
       by_cases c3:cd=0
       ·have c3':(cd != 0)=false:=by rw [bne_eq_false_iff_eq];exact c3
        rw [if_neg (fun h=>h c3)] at hst
        simp -implicitDefEqProofs only [go_sem,hw,ha1,c3',ze,zf,zg,zc,zb,za,Bool.not_true,Bool.not_false]
        refine ⟨_,by omega,i+1,.nilS,[],⟨hlt,.inl ⟨by rw [hst],rfl,rfl⟩⟩,rfl,?_⟩
        rw [hst]
        try simp only [List.map_append,List.length_append,List.length_map,List.map_cons,List.map_nil,List.length_cons,List.length_nil,List.nil_append]
        try rfl
       ·have c3':(cd != 0)=true:=by rw [bne_iff_ne];exact c3
        rw [if_pos c3] at hst
        simp -implicitDefEqProofs only [go_sem,hw,h1m,c3',ze,zf,zg,zc,zb,za,Bool.not_true,Bool.not_false]
        refine ⟨_,by omega,i+1,_,_,⟨hlt,.inr ⟨by rw [hst];simp,rfl,rfl⟩⟩,rfl,?_⟩
        rw [hst]
        try simp only [List.map_append,List.length_append,List.length_map,List.map_cons,List.map_nil,List.length_cons,List.length_nil,List.nil_append]
        try rfl
      ·have c2':(x.pt.size != m.size)=true:=by rw [bne_iff_ne];exact c2
       rw [if_pos (.inr c2)] at hst
       simp -implicitDefEqProofs only [go_sem,hlt',hg,hw,ha1,c2',ze,zf,zg,zc,zb,za,Bool.not_true,Bool.not_false]
       refine ⟨_,by omega,i+1,.nilS,[],⟨hlt,.inl ⟨by rw [hst],rfl,rfl⟩⟩,rfl,?_⟩
       rw [hst]
       try simp only [List.map_append,List.length_append,List.length_map,List.map_cons,List.map_nil,List.length_cons,List.length_nil,List.nil_append]
       try rfl
    ·cases tk with
     | true=>
      rw [if_pos (.inl rfl)] at hst
      simp -implicitDefEqProofs only [go_sem,hlt',hg,hw,ha1,ze,zf,zg,zc,zb,za,Bool.not_true,Bool.not_false]
      refine ⟨_,by omega,i+1,_,_,⟨hlt,.inr ⟨by rw [hst];exact hne,rfl,rfl⟩⟩,rfl,?_⟩
      rw [hst]
      try simp only [List.map_append,List.length_append,List.length_map,List.map_cons,List.map_nil,List.length_cons,List.length_nil,List.nil_append]
      try rfl
     | false=>
      by_cases c2:x.pt.size=m.size
      ·have c2':(x.pt.size != m.size)=false:=by rw [bne_eq_false_iff_eq];exact c2
       rw [if_neg (fun h=>h.elim (by simp) (fun h=>h c2))] at hst
       simp -implicitDefEqProofs only [go_sem,hlt',hg,hw,c2',ze,zf,zg,zc,zb,za,Bool.not_true,Bool.not_false]
       refine Want.intro hgc ?_
       by_cases c3:cd=0
       ·have c3':(cd != 0)=false:=by rw [bne_eq_false_iff_eq];exact c3
        rw [if_neg (fun h=>h c3)] at hst
        simp -implicitDefEqProofs only [go_sem,hw,ha1,c3',ze,zf,zg,zc,zb,za,Bool.not_true,Bool.not_false]
        refine ⟨_,by omega,i+1,_,_,⟨hlt,.inr ⟨by rw [hst];exact hne,rfl,rfl⟩⟩,rfl,?_⟩
        rw [hst]
        try simp only [List.map_append,List.length_append,List.length_map,List.map_cons,List.map_nil,List.length_cons,List.length_nil,List.nil_append]
        try rfl
       ·have c3':(cd != 0)=true:=by rw [bne_iff_ne];exact c3
        rw [if_pos c3] at hst
        simp -implicitDefEqProofs only [go_sem,hw,ha2,c3',ze,zf,zg,zc,zb,za,Bool.not_true,Bool.not_false]
        refine ⟨_,by omega,i+1,_,_,⟨hlt,.inr ⟨by rw [hst];simp,rfl,rfl⟩⟩,rfl,?_⟩
        rw [hst]
        try simp only [List.map_append,List.length_append,List.length_map,List.map_cons,List.map_nil,List.length_cons,List.length_nil,List.nil_append]
        try rfl
      ·have c2':(x.pt.size != m.size)=true:=by rw [bne_iff_ne];exact c2
       rw [if_pos (.inr c2)] at hst
       simp -implicitDefEqProofs only [go_sem,hlt',hg,hw,ha1,c2',ze,zf,zg,zc,zb,za,Bool.not_true,Bool.not_false]
       refine ⟨_,by omega,i+1,_,_,⟨hlt,.inr ⟨by rw [hst];exact hne,rfl,rfl⟩⟩,rfl,?_⟩
       rw [hst]
       try simp only [List.map_append,List.length_append,List.length_map,List.map_cons,List.map_nil,List.length_cons,List.length_nil,List.nil_append]
       try rfl
   ·have hi:i=l.length:=by omega
    subst hi
    have hlt':¬((l.length:Int)<(l.length:Int)):=by omega
    have hle:=zii held m.size m.proof l
    have hlo:=gF_ok held m.size m.proof l ⟨[],false,.zero,[]⟩ hwo ⟨by simp,yy⟩
    rw [List.take_length] at hc ⊢
    have hlo:(∀x∈(gF held m.size m.proof l).left,x.pt.root.ok)∧(gF held m.size m.proof l).p.root.ok:=hlo
    generalize gF held m.size m.proof l=S at *
    obtain ⟨left,tk,p,al⟩:=S
    simp only at hle hc hlo ⊢
    obtain ⟨hlo,hpo⟩:=hlo
    cases tk with
    | false=>
     rw [if_pos rfl]
     rcases hc with ⟨rfl,rfl,rfl⟩ | ⟨hne,rfl,rfl⟩
     ·simp -implicitDefEqProofs only [go_sem,hlt',ze,zf,zg,zc,zb,za,Bool.not_true,Bool.not_false,Bool.false_eq_true]
     ·simp -implicitDefEqProofs only [go_sem,hlt',ze,zf,zg,zc,zb,za,Bool.not_true,Bool.not_false,Bool.false_eq_true]
    | true=>
     rw [if_neg (by simp)]
     have hrr:=zkX disk p.size p.root hd hpo
     have hRl:=zl6 disk p.size p.root
     generalize yT disk p.size p.root=R at *
     by_cases hR:R=[]
     ·rw [if_pos hR]
      subst hR
      have hR0:(((0:Nat):Int)==0)=true:=rfl
      rcases hc with ⟨rfl,rfl,rfl⟩ | ⟨hne,rfl,rfl⟩
      all_goals
       simp -implicitDefEqProofs only [go_sem,hlt',ze,zf,zg,zc,zb,za,Bool.not_true,Bool.not_false]
       refine Want.intro hrr ?_
       simp -implicitDefEqProofs only [go_sem,hR0,ze,zf,zg,zc,zb,za,Bool.not_true,Bool.not_false]
       refine WantM.intro hcp ?_
       simp -implicitDefEqProofs only [go_sem]
     ·rw [if_neg hR]
      have hR0:((R.length:Int)==0)=false:=by
       rw [beq_eq_false_iff_ne]
       intro h
       exact hR (List.eq_nil_of_length_eq_zero (by omega))
      have hdw:=zmG disk R (by unfold maxLen;omega)
      have hdg:=zmA m.proof [] hpl (Nat.zero_le _)
      rw [List.append_nil,List.map_nil] at hdg
      unfold wz at hdg
      generalize zF disk R=D at *
      rcases hc with ⟨rfl,rfl,rfl⟩ | ⟨hne,rfl,rfl⟩
      ·simp -implicitDefEqProofs only [go_sem,hlt',ze,zf,zg,zc,zb,za,Bool.not_true,Bool.not_false]
       refine Want.intro hrr ?_
       simp -implicitDefEqProofs only [go_sem,hR0,ze,zf,zg,zc,zb,za,Bool.not_true,Bool.not_false]
       refine Want.intro hdw ?_
       simp -implicitDefEqProofs only [go_sem]
       refine Want.intro hdg ?_
       simp -implicitDefEqProofs only [go_sem]
       refine zX (fun n z=>∃(i:Nat) (c1 c2:AV) (X:Sig) (nm:Nat),(i≤left.length∧Shp (hvF me p [] (left.take i)) m.proof 7 c1 c2 X nm)∧n=left.length - i∧z=⟨175,[(1,vI me),(6,.ptr 6 0 [] 19 0 0),(7,.ptr 7 0 [] 19 0 0),(9,.blk 9 0 [] 7 0 left.length),(11,.ptr 11 0 [] 5 0 0),(16,.blk 16 0 [] 7 0 (hvF me p [] (left.take i)).rest.length),(17,vI i)],[(6,0,one ⟨19,[yi zdisk .nilS .nilS .nilS .nilS .nilS],0,false⟩),(7,0,one ⟨19,[yi D (.blk 10007 0 [] 7 0 l.length) (.blk 20007 0 [] 3 0 R.length) (.blk 30007 0 [] 11 0 1) c1 c2],0,false⟩),(10007,0,one ⟨7,l.map MWish.cs,2,false⟩),(20007,0,one ⟨3,R.map MRaw.cs,2,false⟩),(30007,0,one ⟨11,[MKeep.cs ⟨held,p,m.proof⟩ (.blk nm 0 [] 4 0 m.proof.length)],0,false⟩)]++(X++[(9,0,one ⟨7,left.map MWish.cs,2,false⟩),(11,0,one ⟨5,[p.cs],0,false⟩),(16,0,one ⟨7,(hvF me p [] (left.take i)).rest.map MWish.cs,2,false⟩)]),1⟩) left.length ?_ ?_
       ·simp -implicitDefEqProofs only [go_sem]
        first
         | exact ⟨0,_,_,_,_,⟨Nat.zero_le _,Shp.s00 (H:=hvF me p [] (left.take 0)) rfl rfl⟩,rfl,rfl⟩
         | exact ⟨0,_,_,_,_,⟨Nat.zero_le _,Shp.s01 (H:=hvF me p [] (left.take 0)) rfl hne⟩,rfl,rfl⟩
       ·rintro n z ⟨i,c1,c2,X,nm,⟨hi,hc⟩,rfl,rfl⟩
        have hvl:=zds me p [] (left.take i)
        rw [List.length_take] at hvl
        rcases Nat.lt_or_ge i left.length with hlt | hge
        ·have hlt':(i:Int)<(left.length:Int):=by omega
         have hg:left[i]?=some left[i]:=List.getElem?_eq_getElem hlt
         have hw:=zG hlt (show left.length≤maxLen by unfold maxLen;omega)
         have hst:=zbn (me:=me) (p:=p) (al:=[]) hlt
         have h1m:1≤maxLen:=by unfold maxLen;omega
         have hxo:=hlo _ (List.getElem_mem hlt)
         generalize left[i]=x at *
         have hak:x.pt=p→CallR Tryz.prog 111 [vI me,.agg x.cs] (.agg (zbe me x.who x.session p).cs) []:=fun e=>e▸zkY me x hxo
         generalize hvF me p [] (left.take i)=H at *
         obtain ⟨le,al',rest⟩:=H
         unfold xM at hst
         simp only at hst hvl
         have ha1:∀v,_:=fun v=>zcB (L:=le.map MLet.cs) (b:=32) (by rw [List.length_map];omega) (by omega) v
         have ha2:∀v,_:=fun v=>zcB (L:=al'.map MAl.cs) (b:=104) (by rw [List.length_map];omega) (by omega) v
         have ha3:∀v,_:=fun v=>zcB (L:=rest.map MWish.cs) (b:=56) (by rw [List.length_map];omega) (by omega) v
         cases hc with
         | s00 q1 q2=>
          simp only at q1
          subst q1
          simp only at q2
          subst q2
          cases e1:yR x.pt p with
          | true=>
           rw [if_pos e1] at hst
           have e1':=e1
           unfold yR at e1'
           have e3:¬(x.pt.size>p.size):=by rw [yQ e1];omega
           have hak:=hak (yQ e1)
           simp -implicitDefEqProofs only [go_sem,hlt',hg,hw,e1',e3,ze,zf,zg,zc,zb,za,Bool.not_true,Bool.not_false]
           refine Want.intro hak ?_
           simp -implicitDefEqProofs only [go_sem,h1m,hw,ze,zf,zg,zc,zb,za,Bool.not_true,Bool.not_false]
           refine ⟨_,by omega,i+1,_,_,_,_,⟨hlt,Shp.s10 (H:=(hvF me p [] (left.take (i+1)))) (by rw [hst];simp) (by rw [hst])⟩,rfl,?_⟩
           rw [hst]
           try simp only [List.map_append,List.length_append,List.length_map,List.map_cons,List.map_nil,List.length_cons,List.length_nil,List.nil_append]
           try rfl
          | false=>
           rw [if_neg (by rw [e1];simp)] at hst
           have e1':=e1
           unfold yR at e1'
           by_cases e2:x.pt.size=p.size
           ·have e2':(x.pt.size==p.size)=true:=by rw [e2];simp
            have e3:¬(x.pt.size>p.size):=by omega
            rw [if_pos e2] at hst
            rw [e2',Bool.true_and] at e1'
            simp -implicitDefEqProofs only [go_sem,hlt',hg,hw,e1',e2',e3,h1m,ze,zf,zg,zc,zb,za,Bool.not_true,Bool.not_false]
            refine ⟨_,by omega,i+1,_,_,_,_,⟨hlt,Shp.s01 (H:=(hvF me p [] (left.take (i+1)))) (by rw [hst]) (by rw [hst];simp)⟩,rfl,?_⟩
            rw [hst]
            try simp only [List.map_append,List.length_append,List.length_map,List.map_cons,List.map_nil,List.length_cons,List.length_nil,List.nil_append]
            try rfl
           ·have e2':(x.pt.size==p.size)=false:=beq_eq_false_iff_ne.2 e2
            rw [if_neg e2] at hst
            by_cases e3:x.pt.size>p.size
            ·rw [if_pos e3] at hst
             simp -implicitDefEqProofs only [go_sem,hlt',hg,hw,e1',e2',e3,ha3,ze,zf,zg,zc,zb,za,Bool.not_true,Bool.not_false]
             refine ⟨_,by omega,i+1,_,_,_,_,⟨hlt,Shp.s00 (H:=(hvF me p [] (left.take (i+1)))) (by rw [hst]) (by rw [hst])⟩,rfl,?_⟩
             rw [hst]
             try simp only [List.map_append,List.length_append,List.length_map,List.map_cons,List.map_nil,List.length_cons,List.length_nil,List.nil_append]
             try rfl
            ·rw [if_neg e3] at hst
             simp -implicitDefEqProofs only [go_sem,hlt',hg,hw,e1',e2',e3,ze,zf,zg,zc,zb,za,Bool.not_true,Bool.not_false]
             refine ⟨_,by omega,i+1,_,_,_,_,⟨hlt,Shp.s00 (H:=(hvF me p [] (left.take (i+1)))) (by rw [hst]) (by rw [hst])⟩,rfl,?_⟩
             rw [hst]
             try simp only [List.map_append,List.length_append,List.length_map,List.map_cons,List.map_nil,List.length_cons,List.length_nil,List.nil_append]
             try rfl
         | s01 q1 q2=>
          simp only at q1
          subst q1
          cases e1:yR x.pt p with
          | true=>
           rw [if_pos e1] at hst
           have e1':=e1
           unfold yR at e1'
           have e3:¬(x.pt.size>p.size):=by rw [yQ e1];omega
           have hak:=hak (yQ e1)
           simp -implicitDefEqProofs only [go_sem,hlt',hg,hw,e1',e3,ze,zf,zg,zc,zb,za,Bool.not_true,Bool.not_false]
           refine Want.intro hak ?_
           simp -implicitDefEqProofs only [go_sem,h1m,hw,ze,zf,zg,zc,zb,za,Bool.not_true,Bool.not_false]
           refine ⟨_,by omega,i+1,_,_,_,_,⟨hlt,Shp.s11 (H:=(hvF me p [] (left.take (i+1)))) (by rw [hst];simp) (by rw [hst];exact q2)⟩,rfl,?_⟩
           rw [hst]
           try simp only [List.map_append,List.length_append,List.length_map,List.map_cons,List.map_nil,List.length_cons,List.length_nil,List.nil_append]
           try rfl
          | false=>
           rw [if_neg (by rw [e1];simp)] at hst
           have e1':=e1
           unfold yR at e1'
           by_cases e2:x.pt.size=p.size
           ·have e2':(x.pt.size==p.size)=true:=by rw [e2];simp
            have e3:¬(x.pt.size>p.size):=by omega
            rw [if_pos e2] at hst
            rw [e2',Bool.true_and] at e1'
            simp -implicitDefEqProofs only [go_sem,hlt',hg,hw,e1',e2',e3,ha2,ze,zf,zg,zc,zb,za,Bool.not_true,Bool.not_false]
            refine ⟨_,by omega,i+1,_,_,_,_,⟨hlt,Shp.s01 (H:=(hvF me p [] (left.take (i+1)))) (by rw [hst]) (by rw [hst];simp)⟩,rfl,?_⟩
            rw [hst]
            try simp only [List.map_append,List.length_append,List.length_map,List.map_cons,List.map_nil,List.length_cons,List.length_nil,List.nil_append]
            try rfl
           ·have e2':(x.pt.size==p.size)=false:=beq_eq_false_iff_ne.2 e2
            rw [if_neg e2] at hst
            by_cases e3:x.pt.size>p.size
            ·rw [if_pos e3] at hst
             simp -implicitDefEqProofs only [go_sem,hlt',hg,hw,e1',e2',e3,ha3,ze,zf,zg,zc,zb,za,Bool.not_true,Bool.not_false]
             refine ⟨_,by omega,i+1,_,_,_,_,⟨hlt,Shp.s01 (H:=(hvF me p [] (left.take (i+1)))) (by rw [hst]) (by rw [hst];exact q2)⟩,rfl,?_⟩
             rw [hst]
             try simp only [List.map_append,List.length_append,List.length_map,List.map_cons,List.map_nil,List.length_cons,List.length_nil,List.nil_append]
             try rfl
            ·rw [if_neg e3] at hst
             simp -implicitDefEqProofs only [go_sem,hlt',hg,hw,e1',e2',e3,ze,zf,zg,zc,zb,za,Bool.not_true,Bool.not_false]
             refine ⟨_,by omega,i+1,_,_,_,_,⟨hlt,Shp.s01 (H:=(hvF me p [] (left.take (i+1)))) (by rw [hst]) (by rw [hst];exact q2)⟩,rfl,?_⟩
             rw [hst]
             try simp only [List.map_append,List.length_append,List.length_map,List.map_cons,List.map_nil,List.length_cons,List.length_nil,List.nil_append]
             try rfl
         | s10 q1 q2=>
          simp only at q2
          subst q2
          cases e1:yR x.pt p with
          | true=>
           rw [if_pos e1] at hst
           have e1':=e1
           unfold yR at e1'
           have e3:¬(x.pt.size>p.size):=by rw [yQ e1];omega
           have hak:=hak (yQ e1)
           simp -implicitDefEqProofs only [go_sem,hlt',hg,hw,e1',e3,ze,zf,zg,zc,zb,za,Bool.not_true,Bool.not_false]
           refine Want.intro hak ?_
           simp -implicitDefEqProofs only [go_sem,ha1,hw,ze,zf,zg,zc,zb,za,Bool.not_true,Bool.not_false]
           refine ⟨_,by omega,i+1,_,_,_,_,⟨hlt,Shp.s10 (H:=(hvF me p [] (left.take (i+1)))) (by rw [hst];simp) (by rw [hst])⟩,rfl,?_⟩
           rw [hst]
           try simp only [List.map_append,List.length_append,List.length_map,List.map_cons,List.map_nil,List.length_cons,List.length_nil,List.nil_append]
           try rfl
          | false=>
           rw [if_neg (by rw [e1];simp)] at hst
           have e1':=e1
           unfold yR at e1'
           by_cases e2:x.pt.size=p.size
           ·have e2':(x.pt.size==p.size)=true:=by rw [e2];simp
            have e3:¬(x.pt.size>p.size):=by omega
            rw [if_pos e2] at hst
            rw [e2',Bool.true_and] at e1'
            simp -implicitDefEqProofs only [go_sem,hlt',hg,hw,e1',e2',e3,h1m,ze,zf,zg,zc,zb,za,Bool.not_true,Bool.not_false]
            refine ⟨_,by omega,i+1,_,_,_,_,⟨hlt,Shp.s11 (H:=(hvF me p [] (left.take (i+1)))) (by rw [hst];exact q1) (by rw [hst];simp)⟩,rfl,?_⟩
            rw [hst]
            try simp only [List.map_append,List.length_append,List.length_map,List.map_cons,List.map_nil,List.length_cons,List.length_nil,List.nil_append]
            try rfl
           ·have e2':(x.pt.size==p.size)=false:=beq_eq_false_iff_ne.2 e2
            rw [if_neg e2] at hst
            by_cases e3:x.pt.size>p.size
            ·rw [if_pos e3] at hst
             simp -implicitDefEqProofs only [go_sem,hlt',hg,hw,e1',e2',e3,ha3,ze,zf,zg,zc,zb,za,Bool.not_true,Bool.not_false]
             refine ⟨_,by omega,i+1,_,_,_,_,⟨hlt,Shp.s10 (H:=(hvF me p [] (left.take (i+1)))) (by rw [hst];exact q1) (by rw [hst])⟩,rfl,?_⟩
             rw [hst]
             try simp only [List.map_append,List.length_append,List.length_map,List.map_cons,List.map_nil,List.length_cons,List.length_nil,List.nil_append]
             try rfl
            ·rw [if_neg e3] at hst
             simp -implicitDefEqProofs only [go_sem,hlt',hg,hw,e1',e2',e3,ze,zf,zg,zc,zb,za,Bool.not_true,Bool.not_false]
             refine ⟨_,by omega,i+1,_,_,_,_,⟨hlt,Shp.s10 (H:=(hvF me p [] (left.take (i+1)))) (by rw [hst];exact q1) (by rw [hst])⟩,rfl,?_⟩
             rw [hst]
             try simp only [List.map_append,List.length_append,List.length_map,List.map_cons,List.map_nil,List.length_cons,List.length_nil,List.nil_append]
             try rfl
         | s11 q1 q2=>
          cases e1:yR x.pt p with
          | true=>
           rw [if_pos e1] at hst
           have e1':=e1
           unfold yR at e1'
           have e3:¬(x.pt.size>p.size):=by rw [yQ e1];omega
           have hak:=hak (yQ e1)
           simp -implicitDefEqProofs only [go_sem,hlt',hg,hw,e1',e3,ze,zf,zg,zc,zb,za,Bool.not_true,Bool.not_false]
           refine Want.intro hak ?_
           simp -implicitDefEqProofs only [go_sem,ha1,hw,ze,zf,zg,zc,zb,za,Bool.not_true,Bool.not_false]
           refine ⟨_,by omega,i+1,_,_,_,_,⟨hlt,Shp.s11 (H:=(hvF me p [] (left.take (i+1)))) (by rw [hst];simp) (by rw [hst];exact q2)⟩,rfl,?_⟩
           rw [hst]
           try simp only [List.map_append,List.length_append,List.length_map,List.map_cons,List.map_nil,List.length_cons,List.length_nil,List.nil_append]
           try rfl
          | false=>
           rw [if_neg (by rw [e1];simp)] at hst
           have e1':=e1
           unfold yR at e1'
           by_cases e2:x.pt.size=p.size
           ·have e2':(x.pt.size==p.size)=true:=by rw [e2];simp
            have e3:¬(x.pt.size>p.size):=by omega
            rw [if_pos e2] at hst
            rw [e2',Bool.true_and] at e1'
            simp -implicitDefEqProofs only [go_sem,hlt',hg,hw,e1',e2',e3,ha2,ze,zf,zg,zc,zb,za,Bool.not_true,Bool.not_false]
            refine ⟨_,by omega,i+1,_,_,_,_,⟨hlt,Shp.s11 (H:=(hvF me p [] (left.take (i+1)))) (by rw [hst];exact q1) (by rw [hst];simp)⟩,rfl,?_⟩
            rw [hst]
            try simp only [List.map_append,List.length_append,List.length_map,List.map_cons,List.map_nil,List.length_cons,List.length_nil,List.nil_append]
            try rfl
           ·have e2':(x.pt.size==p.size)=false:=beq_eq_false_iff_ne.2 e2
            rw [if_neg e2] at hst
            by_cases e3:x.pt.size>p.size
            ·rw [if_pos e3] at hst
             simp -implicitDefEqProofs only [go_sem,hlt',hg,hw,e1',e2',e3,ha3,ze,zf,zg,zc,zb,za,Bool.not_true,Bool.not_false]
             refine ⟨_,by omega,i+1,_,_,_,_,⟨hlt,Shp.s11 (H:=(hvF me p [] (left.take (i+1)))) (by rw [hst];exact q1) (by rw [hst];exact q2)⟩,rfl,?_⟩
             rw [hst]
             try simp only [List.map_append,List.length_append,List.length_map,List.map_cons,List.map_nil,List.length_cons,List.length_nil,List.nil_append]
             try rfl
            ·rw [if_neg e3] at hst
             simp -implicitDefEqProofs only [go_sem,hlt',hg,hw,e1',e2',e3,ze,zf,zg,zc,zb,za,Bool.not_true,Bool.not_false]
             refine ⟨_,by omega,i+1,_,_,_,_,⟨hlt,Shp.s11 (H:=(hvF me p [] (left.take (i+1)))) (by rw [hst];exact q1) (by rw [hst];exact q2)⟩,rfl,?_⟩
             rw [hst]
             try simp only [List.map_append,List.length_append,List.length_map,List.map_cons,List.map_nil,List.length_cons,List.length_nil,List.nil_append]
             try rfl
        ·have hi:i=left.length:=by omega
         subst hi
         have hlt':¬((left.length:Int)<(left.length:Int)):=by omega
         rw [List.take_length] at hc hvl ⊢
         generalize hvF me p [] left=H at *
         obtain ⟨le,al',rest⟩:=H
         simp only at hvl
         cases hc with
         | s00 q1 q2=>
          simp only at q1
          subst q1
          simp only at q2
          subst q2
          simp -implicitDefEqProofs only [go_sem,hlt',ze,zf,zg,zc,zb,za,Bool.not_true,Bool.not_false]
         | s01 q1 q2=>
          simp only at q1
          subst q1
          simp -implicitDefEqProofs only [go_sem,hlt',ze,zf,zg,zc,zb,za,Bool.not_true,Bool.not_false]
         | s10 q1 q2=>
          simp only at q2
          subst q2
          simp -implicitDefEqProofs only [go_sem,hlt',ze,zf,zg,zc,zb,za,Bool.not_true,Bool.not_false]
         | s11 q1 q2=>
          simp -implicitDefEqProofs only [go_sem,hlt',ze,zf,zg,zc,zb,za,Bool.not_true,Bool.not_false]
      ·simp -implicitDefEqProofs only [go_sem,hlt',ze,zf,zg,zc,zb,za,Bool.not_true,Bool.not_false]
       refine Want.intro hrr ?_
       simp -implicitDefEqProofs only [go_sem,hR0,ze,zf,zg,zc,zb,za,Bool.not_true,Bool.not_false]
       refine Want.intro hdw ?_
       simp -implicitDefEqProofs only [go_sem]
       refine Want.intro hdg ?_
       simp -implicitDefEqProofs only [go_sem]
       refine zX (fun n z=>∃(i:Nat) (c1 c2:AV) (X:Sig) (nm:Nat),(i≤left.length∧Shp (hvF me p al (left.take i)) m.proof 7 c1 c2 X nm)∧n=left.length - i∧z=⟨175,[(1,vI me),(6,.ptr 6 0 [] 19 0 0),(7,.ptr 7 0 [] 19 0 0),(9,.blk 9 0 [] 7 0 left.length),(11,.ptr 11 0 [] 5 0 0),(16,.blk 16 0 [] 7 0 (hvF me p al (left.take i)).rest.length),(17,vI i)],[(6,0,one ⟨19,[yi zdisk .nilS .nilS .nilS .nilS .nilS],0,false⟩),(7,0,one ⟨19,[yi D (.blk 10007 0 [] 7 0 l.length) (.blk 20007 0 [] 3 0 R.length) (.blk 30007 0 [] 11 0 1) c1 c2],0,false⟩),(10007,0,one ⟨7,l.map MWish.cs,2,false⟩),(20007,0,one ⟨3,R.map MRaw.cs,2,false⟩),(30007,0,one ⟨11,[MKeep.cs ⟨held,p,m.proof⟩ (.blk nm 0 [] 4 0 m.proof.length)],0,false⟩)]++(X++[(9,0,one ⟨7,left.map MWish.cs,2,false⟩),(11,0,one ⟨5,[p.cs],0,false⟩),(16,0,one ⟨7,(hvF me p al (left.take i)).rest.map MWish.cs,2,false⟩)]),1⟩) left.length ?_ ?_
       ·simp -implicitDefEqProofs only [go_sem]
        first
         | exact ⟨0,_,_,_,_,⟨Nat.zero_le _,Shp.s00 (H:=hvF me p [] (left.take 0)) rfl rfl⟩,rfl,rfl⟩
         | exact ⟨0,_,_,_,_,⟨Nat.zero_le _,Shp.s01 (H:=hvF me p al (left.take 0)) rfl hne⟩,rfl,rfl⟩
       ·rintro n z ⟨i,c1,c2,X,nm,⟨hi,hc⟩,rfl,rfl⟩
        have hvl:=zds me p al (left.take i)
        rw [List.length_take] at hvl
        rcases Nat.lt_or_ge i left.length with hlt | hge
        ·have hlt':(i:Int)<(left.length:Int):=by omega
         have hg:left[i]?=some left[i]:=List.getElem?_eq_getElem hlt
         have hw:=zG hlt (show left.length≤maxLen by unfold maxLen;omega)
         have hst:=zbn (me:=me) (p:=p) (al:=al) hlt
         have h1m:1≤maxLen:=by unfold maxLen;omega
         have hxo:=hlo _ (List.getElem_mem hlt)
         generalize left[i]=x at *
         have hak:x.pt=p→CallR Tryz.prog 111 [vI me,.agg x.cs] (.agg (zbe me x.who x.session p).cs) []:=fun e=>e▸zkY me x hxo
         generalize hvF me p al (left.take i)=H at *
         obtain ⟨le,al',rest⟩:=H
         unfold xM at hst
         simp only at hst hvl
         have ha1:∀v,_:=fun v=>zcB (L:=le.map MLet.cs) (b:=32) (by rw [List.length_map];omega) (by omega) v
         have ha2:∀v,_:=fun v=>zcB (L:=al'.map MAl.cs) (b:=104) (by rw [List.length_map];omega) (by omega) v
         have ha3:∀v,_:=fun v=>zcB (L:=rest.map MWish.cs) (b:=56) (by rw [List.length_map];omega) (by omega) v
         cases hc with
         | s00 q1 q2=>
          simp only at q1
          subst q1
          simp only at q2
          subst q2
          cases e1:yR x.pt p with
          | true=>
           rw [if_pos e1] at hst
           have e1':=e1
           unfold yR at e1'
           have e3:¬(x.pt.size>p.size):=by rw [yQ e1];omega
           have hak:=hak (yQ e1)
           simp -implicitDefEqProofs only [go_sem,hlt',hg,hw,e1',e3,ze,zf,zg,zc,zb,za,Bool.not_true,Bool.not_false]
           refine Want.intro hak ?_
           simp -implicitDefEqProofs only [go_sem,h1m,hw,ze,zf,zg,zc,zb,za,Bool.not_true,Bool.not_false]
           refine ⟨_,by omega,i+1,_,_,_,_,⟨hlt,Shp.s10 (H:=(hvF me p al (left.take (i+1)))) (by rw [hst];simp) (by rw [hst])⟩,rfl,?_⟩
           rw [hst]
           try simp only [List.map_append,List.length_append,List.length_map,List.map_cons,List.map_nil,List.length_cons,List.length_nil,List.nil_append]
           try rfl
          | false=>
           rw [if_neg (by rw [e1];simp)] at hst
           have e1':=e1
           unfold yR at e1'
           by_cases e2:x.pt.size=p.size
           ·have e2':(x.pt.size==p.size)=true:=by rw [e2];simp
            have e3:¬(x.pt.size>p.size):=by omega
            rw [if_pos e2] at hst
            rw [e2',Bool.true_and] at e1'
            simp -implicitDefEqProofs only [go_sem,hlt',hg,hw,e1',e2',e3,h1m,ze,zf,zg,zc,zb,za,Bool.not_true,Bool.not_false]
            refine ⟨_,by omega,i+1,_,_,_,_,⟨hlt,Shp.s01 (H:=(hvF me p al (left.take (i+1)))) (by rw [hst]) (by rw [hst];simp)⟩,rfl,?_⟩
            rw [hst]
            try simp only [List.map_append,List.length_append,List.length_map,List.map_cons,List.map_nil,List.length_cons,List.length_nil,List.nil_append]
            try rfl
           ·have e2':(x.pt.size==p.size)=false:=beq_eq_false_iff_ne.2 e2
            rw [if_neg e2] at hst
            by_cases e3:x.pt.size>p.size
            ·rw [if_pos e3] at hst
             simp -implicitDefEqProofs only [go_sem,hlt',hg,hw,e1',e2',e3,ha3,ze,zf,zg,zc,zb,za,Bool.not_true,Bool.not_false]
             refine ⟨_,by omega,i+1,_,_,_,_,⟨hlt,Shp.s00 (H:=(hvF me p al (left.take (i+1)))) (by rw [hst]) (by rw [hst])⟩,rfl,?_⟩
             rw [hst]
             try simp only [List.map_append,List.length_append,List.length_map,List.map_cons,List.map_nil,List.length_cons,List.length_nil,List.nil_append]
             try rfl
            ·rw [if_neg e3] at hst
             simp -implicitDefEqProofs only [go_sem,hlt',hg,hw,e1',e2',e3,ze,zf,zg,zc,zb,za,Bool.not_true,Bool.not_false]
             refine ⟨_,by omega,i+1,_,_,_,_,⟨hlt,Shp.s00 (H:=(hvF me p al (left.take (i+1)))) (by rw [hst]) (by rw [hst])⟩,rfl,?_⟩
             rw [hst]
             try simp only [List.map_append,List.length_append,List.length_map,List.map_cons,List.map_nil,List.length_cons,List.length_nil,List.nil_append]
             try rfl
         | s01 q1 q2=>
          simp only at q1
          subst q1
          cases e1:yR x.pt p with
          | true=>
           rw [if_pos e1] at hst
           have e1':=e1
           unfold yR at e1'
           have e3:¬(x.pt.size>p.size):=by rw [yQ e1];omega
           have hak:=hak (yQ e1)
           simp -implicitDefEqProofs only [go_sem,hlt',hg,hw,e1',e3,ze,zf,zg,zc,zb,za,Bool.not_true,Bool.not_false]
           refine Want.intro hak ?_
           simp -implicitDefEqProofs only [go_sem,h1m,hw,ze,zf,zg,zc,zb,za,Bool.not_true,Bool.not_false]
           refine ⟨_,by omega,i+1,_,_,_,_,⟨hlt,Shp.s11 (H:=(hvF me p al (left.take (i+1)))) (by rw [hst];simp) (by rw [hst];exact q2)⟩,rfl,?_⟩
           rw [hst]
           try simp only [List.map_append,List.length_append,List.length_map,List.map_cons,List.map_nil,List.length_cons,List.length_nil,List.nil_append]
           try rfl
          | false=>
           rw [if_neg (by rw [e1];simp)] at hst
           have e1':=e1
           unfold yR at e1'
           by_cases e2:x.pt.size=p.size
           ·have e2':(x.pt.size==p.size)=true:=by rw [e2];simp
            have e3:¬(x.pt.size>p.size):=by omega
            rw [if_pos e2] at hst
            rw [e2',Bool.true_and] at e1'
            simp -implicitDefEqProofs only [go_sem,hlt',hg,hw,e1',e2',e3,ha2,ze,zf,zg,zc,zb,za,Bool.not_true,Bool.not_false]
            refine ⟨_,by omega,i+1,_,_,_,_,⟨hlt,Shp.s01 (H:=(hvF me p al (left.take (i+1)))) (by rw [hst]) (by rw [hst];simp)⟩,rfl,?_⟩
            rw [hst]
            try simp only [List.map_append,List.length_append,List.length_map,List.map_cons,List.map_nil,List.length_cons,List.length_nil,List.nil_append]
            try rfl
           ·have e2':(x.pt.size==p.size)=false:=beq_eq_false_iff_ne.2 e2
            rw [if_neg e2] at hst
            by_cases e3:x.pt.size>p.size
            ·rw [if_pos e3] at hst
             simp -implicitDefEqProofs only [go_sem,hlt',hg,hw,e1',e2',e3,ha3,ze,zf,zg,zc,zb,za,Bool.not_true,Bool.not_false]
             refine ⟨_,by omega,i+1,_,_,_,_,⟨hlt,Shp.s01 (H:=(hvF me p al (left.take (i+1)))) (by rw [hst]) (by rw [hst];exact q2)⟩,rfl,?_⟩
             rw [hst]
             try simp only [List.map_append,List.length_append,List.length_map,List.map_cons,List.map_nil,List.length_cons,List.length_nil,List.nil_append]
             try rfl
            ·rw [if_neg e3] at hst
             simp -implicitDefEqProofs only [go_sem,hlt',hg,hw,e1',e2',e3,ze,zf,zg,zc,zb,za,Bool.not_true,Bool.not_false]
             refine ⟨_,by omega,i+1,_,_,_,_,⟨hlt,Shp.s01 (H:=(hvF me p al (left.take (i+1)))) (by rw [hst]) (by rw [hst];exact q2)⟩,rfl,?_⟩
             rw [hst]
             try simp only [List.map_append,List.length_append,List.length_map,List.map_cons,List.map_nil,List.length_cons,List.length_nil,List.nil_append]
             try rfl
         | s10 q1 q2=>
          simp only at q2
          subst q2
          cases e1:yR x.pt p with
          | true=>
           rw [if_pos e1] at hst
           have e1':=e1
           unfold yR at e1'
           have e3:¬(x.pt.size>p.size):=by rw [yQ e1];omega
           have hak:=hak (yQ e1)
           simp -implicitDefEqProofs only [go_sem,hlt',hg,hw,e1',e3,ze,zf,zg,zc,zb,za,Bool.not_true,Bool.not_false]
           refine Want.intro hak ?_
           simp -implicitDefEqProofs only [go_sem,ha1,hw,ze,zf,zg,zc,zb,za,Bool.not_true,Bool.not_false]
           refine ⟨_,by omega,i+1,_,_,_,_,⟨hlt,Shp.s10 (H:=(hvF me p al (left.take (i+1)))) (by rw [hst];simp) (by rw [hst])⟩,rfl,?_⟩
           rw [hst]
           try simp only [List.map_append,List.length_append,List.length_map,List.map_cons,List.map_nil,List.length_cons,List.length_nil,List.nil_append]
           try rfl
          | false=>
           rw [if_neg (by rw [e1];simp)] at hst
           have e1':=e1
           unfold yR at e1'
           by_cases e2:x.pt.size=p.size
           ·have e2':(x.pt.size==p.size)=true:=by rw [e2];simp
            have e3:¬(x.pt.size>p.size):=by omega
            rw [if_pos e2] at hst
            rw [e2',Bool.true_and] at e1'
            simp -implicitDefEqProofs only [go_sem,hlt',hg,hw,e1',e2',e3,h1m,ze,zf,zg,zc,zb,za,Bool.not_true,Bool.not_false]
            refine ⟨_,by omega,i+1,_,_,_,_,⟨hlt,Shp.s11 (H:=(hvF me p al (left.take (i+1)))) (by rw [hst];exact q1) (by rw [hst];simp)⟩,rfl,?_⟩
            rw [hst]
            try simp only [List.map_append,List.length_append,List.length_map,List.map_cons,List.map_nil,List.length_cons,List.length_nil,List.nil_append]
            try rfl
           ·have e2':(x.pt.size==p.size)=false:=beq_eq_false_iff_ne.2 e2
            rw [if_neg e2] at hst
            by_cases e3:x.pt.size>p.size
            ·rw [if_pos e3] at hst
             simp -implicitDefEqProofs only [go_sem,hlt',hg,hw,e1',e2',e3,ha3,ze,zf,zg,zc,zb,za,Bool.not_true,Bool.not_false]
             refine ⟨_,by omega,i+1,_,_,_,_,⟨hlt,Shp.s10 (H:=(hvF me p al (left.take (i+1)))) (by rw [hst];exact q1) (by rw [hst])⟩,rfl,?_⟩
             rw [hst]
             try simp only [List.map_append,List.length_append,List.length_map,List.map_cons,List.map_nil,List.length_cons,List.length_nil,List.nil_append]
             try rfl
            ·rw [if_neg e3] at hst
             simp -implicitDefEqProofs only [go_sem,hlt',hg,hw,e1',e2',e3,ze,zf,zg,zc,zb,za,Bool.not_true,Bool.not_false]
             refine ⟨_,by omega,i+1,_,_,_,_,⟨hlt,Shp.s10 (H:=(hvF me p al (left.take (i+1)))) (by rw [hst];exact q1) (by rw [hst])⟩,rfl,?_⟩
             rw [hst]
             try simp only [List.map_append,List.length_append,List.length_map,List.map_cons,List.map_nil,List.length_cons,List.length_nil,List.nil_append]
             try rfl
         | s11 q1 q2=>
          cases e1:yR x.pt p with
          | true=>
           rw [if_pos e1] at hst
           have e1':=e1
           unfold yR at e1'
           have e3:¬(x.pt.size>p.size):=by rw [yQ e1];omega
           have hak:=hak (yQ e1)
           simp -implicitDefEqProofs only [go_sem,hlt',hg,hw,e1',e3,ze,zf,zg,zc,zb,za,Bool.not_true,Bool.not_false]
           refine Want.intro hak ?_
           simp -implicitDefEqProofs only [go_sem,ha1,hw,ze,zf,zg,zc,zb,za,Bool.not_true,Bool.not_false]
           refine ⟨_,by omega,i+1,_,_,_,_,⟨hlt,Shp.s11 (H:=(hvF me p al (left.take (i+1)))) (by rw [hst];simp) (by rw [hst];exact q2)⟩,rfl,?_⟩
           rw [hst]
           try simp only [List.map_append,List.length_append,List.length_map,List.map_cons,List.map_nil,List.length_cons,List.length_nil,List.nil_append]
           try rfl
          | false=>
           rw [if_neg (by rw [e1];simp)] at hst
           have e1':=e1
           unfold yR at e1'
           by_cases e2:x.pt.size=p.size
           ·have e2':(x.pt.size==p.size)=true:=by rw [e2];simp
            have e3:¬(x.pt.size>p.size):=by omega
            rw [if_pos e2] at hst
            rw [e2',Bool.true_and] at e1'
            simp -implicitDefEqProofs only [go_sem,hlt',hg,hw,e1',e2',e3,ha2,ze,zf,zg,zc,zb,za,Bool.not_true,Bool.not_false]
            refine ⟨_,by omega,i+1,_,_,_,_,⟨hlt,Shp.s11 (H:=(hvF me p al (left.take (i+1)))) (by rw [hst];exact q1) (by rw [hst];simp)⟩,rfl,?_⟩
            rw [hst]
            try simp only [List.map_append,List.length_append,List.length_map,List.map_cons,List.map_nil,List.length_cons,List.length_nil,List.nil_append]
            try rfl
           ·have e2':(x.pt.size==p.size)=false:=beq_eq_false_iff_ne.2 e2
            rw [if_neg e2] at hst
            by_cases e3:x.pt.size>p.size
            ·rw [if_pos e3] at hst
             simp -implicitDefEqProofs only [go_sem,hlt',hg,hw,e1',e2',e3,ha3,ze,zf,zg,zc,zb,za,Bool.not_true,Bool.not_false]
             refine ⟨_,by omega,i+1,_,_,_,_,⟨hlt,Shp.s11 (H:=(hvF me p al (left.take (i+1)))) (by rw [hst];exact q1) (by rw [hst];exact q2)⟩,rfl,?_⟩
             rw [hst]
             try simp only [List.map_append,List.length_append,List.length_map,List.map_cons,List.map_nil,List.length_cons,List.length_nil,List.nil_append]
             try rfl
            ·rw [if_neg e3] at hst
             simp -implicitDefEqProofs only [go_sem,hlt',hg,hw,e1',e2',e3,ze,zf,zg,zc,zb,za,Bool.not_true,Bool.not_false]
             refine ⟨_,by omega,i+1,_,_,_,_,⟨hlt,Shp.s11 (H:=(hvF me p al (left.take (i+1)))) (by rw [hst];exact q1) (by rw [hst];exact q2)⟩,rfl,?_⟩
             rw [hst]
             try simp only [List.map_append,List.length_append,List.length_map,List.map_cons,List.map_nil,List.length_cons,List.length_nil,List.nil_append]
             try rfl
        ·have hi:i=left.length:=by omega
         subst hi
         have hlt':¬((left.length:Int)<(left.length:Int)):=by omega
         rw [List.take_length] at hc hvl ⊢
         generalize hvF me p al left=H at *
         obtain ⟨le,al',rest⟩:=H
         simp only at hvl
         cases hc with
         | s00 q1 q2=>
          simp only at q1
          subst q1
          simp only at q2
          subst q2
          simp -implicitDefEqProofs only [go_sem,hlt',ze,zf,zg,zc,zb,za,Bool.not_true,Bool.not_false]
         | s01 q1 q2=>
          simp only at q1
          subst q1
          simp -implicitDefEqProofs only [go_sem,hlt',ze,zf,zg,zc,zb,za,Bool.not_true,Bool.not_false]
         | s10 q1 q2=>
          simp only at q2
          subst q2
          simp -implicitDefEqProofs only [go_sem,hlt',ze,zf,zg,zc,zb,za,Bool.not_true,Bool.not_false]
         | s11 q1 q2=>
          simp -implicitDefEqProofs only [go_sem,hlt',ze,zf,zg,zc,zb,za,Bool.not_true,Bool.not_false]
 ·have c1':(m.from_ != held.size)=true:=by rw [bne_iff_ne];exact c1
  rw [if_pos c1]
  simp -implicitDefEqProofs only [go_sem,c1',ze,zf,zg,zc,zb,za,Bool.not_true,Bool.not_false]
end Go.Proofs.YtpjpkmhaffmbmaaGreat.E
end
section
namespace Go.Proofs.YtpjpkmhaffmbmaaGreat.E
open Go Go.RowKit
set_option maxHeartbeats 4000000
set_option maxRecDepth 10000
set_option linter.unusedSimpArgs false
set_option linter.unusedVariables false
set_option linter.unusedSectionVars false
def dcVC:Dec:=⟨[(49,.cm [false,false,false,false]),(50,.cm [false,false,false]),(51,.cm [false])],[9,10,11],[22,30,37,38,39,40,49,56,76,80,87,141,143,159,237,250,259],false⟩
theorem c9_c (w:MWit) (me:Int) (l:MLet) (hd:w.disk.ok) (hl:w.wishes.length≤maxLen) (hwo:∀x∈w.wishes,x.pt.root.ok):zW Tryz.prog 9 [] [w.ro,vI me,.agg l.cs] (ym w me l).av (ym w me l).out:=by
 refine zl dcVC false Tryz.f9 ?_
 conv=>enter [1];reduce
 refine jvM Tryz.f9 68 [.cell 6 42] (by kernel_rfl) (by decide +kernel) rfl ?_
 unfold ym
 simp -implicitDefEqProofs only [go_sem]
 refine Want.intro (zmH w hd hl) ?_
 cases a1:yr w with
 | false=>
  simp -implicitDefEqProofs only [go_sem,a1,Bool.not_false,Bool.false_and,Bool.false_eq_true,ze,zf,zg,zc,zb,za]
  first | done | rfl | exact ⟨rfl,rfl⟩
 | true=>
  have hw8:=zbu a1
  simp -implicitDefEqProofs only [go_sem,a1,Bool.not_true,ze,zf,zg,zc,zb,za]
  refine Want.intro (zsn l) ?_
  cases a2:qu l with
  | false=>
   simp -implicitDefEqProofs only [go_sem,Bool.not_false,Bool.and_false,Bool.false_and,Bool.false_eq_true,ze,zf,zg,zc,zb,za]
   first | done | rfl | exact ⟨rfl,rfl⟩
  | true=>
   have hsz:l.text.size≤600:=by
    simp only [qu,Bool.and_eq_true,decide_eq_true_eq] at a2
    omega
   simp -implicitDefEqProofs only [go_sem,Bool.not_true,ze,zf,zg,zc,zb,za]
   refine Want.intro (zaK me 1 20) ?_
   cases a3:mIn me 1 20 with
   | false=>
    simp -implicitDefEqProofs only [go_sem,Bool.not_false,Bool.and_false,Bool.false_and,Bool.false_eq_true,ze,zf,zg,zc,zb,za]
    first | done | rfl | exact ⟨rfl,rfl⟩
   | true=>
    have hcw:=zpf w (by omega)
    have hwr:=zph l.text (by omega)
    have hwl:=zb6 l.text
    have hwi:=qC l.text
    have hro:=zhf (s:=l.text)
    generalize hW:zj l.text=W at *
    obtain ⟨x,code,at_⟩:=W
    simp only at hwl hwi hro
    have hvo:=c49_c w me l.from_ x hw8 hd hro
    have hgr:=fun (hc:code=0)=>c50_c w me x hw8 hd (hwi hc).2.2.1 hwl.1 hwo
    simp -implicitDefEqProofs only [go_sem,Bool.not_true,Bool.and_self,if_true,ze,zf,zg,zc,zb,za]
    refine Want.intro hwr ?_
    cases b1:(code==0)<;>cases b2:(x.kind==3)<;>cases b4:(x.kind==5)<;>cases b3:(l.from_==0)<;>by_cases b5:l.from_>0
    all_goals first
     | (exfalso;simp only [beq_iff_eq] at b3;omega)
     | (exfalso;simp only [beq_iff_eq] at b2 b4;omega)
     | skip
    all_goals simp -implicitDefEqProofs only [go_sem,b1,b2,b3,b4,b5,bne,Bool.not_true,Bool.not_false,Bool.and_true,Bool.and_false,Bool.true_and,Bool.false_and,Bool.false_eq_true,if_false,if_true,ze,zf,zg,zc,zb,za]
    all_goals first
     | (refine WantM.intro hvo ?_
        generalize yh w (zx w.disk) me l.from_ x.session ⟨x.size,x.root⟩=T at *
        obtain ⟨dd,ww,rr,kk,ll,aa⟩:=T
        cases kk with
        | none=>simp -implicitDefEqProofs only [go_sem]
        | some k=>simp -implicitDefEqProofs only [go_sem])
     | (have hc0:code=0:=by simpa using b1
        refine WantM.intro (hgr hc0) ?_
        generalize zZ w (zx w.disk) me x=T at *
        obtain ⟨dd,ww,rr,kk,ll,aa⟩:=T
        cases kk with
        | none=>simp -implicitDefEqProofs only [go_sem]
        | some k=>simp -implicitDefEqProofs only [go_sem])
     | (refine WantM.intro hcw ?_
        simp -implicitDefEqProofs only [go_sem])
     | trace_state
end Go.Proofs.YtpjpkmhaffmbmaaGreat.E
end
