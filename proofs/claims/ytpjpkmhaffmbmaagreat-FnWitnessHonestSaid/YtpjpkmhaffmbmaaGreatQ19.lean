/- Contracts: wishes; witnesses that are ok. -/
import Derived.Test.YtpjpkmhaffmbmaaGreatQ16
import Derived.Test.YtpjpkmhaffmbmaaGreatQ9
namespace Go.Proofs.YtpjpkmhaffmbmaaGreat.E
open Go Go.RowKit
set_option maxHeartbeats 4000000
set_option maxRecDepth 10000
set_option linter.unusedSimpArgs false
set_option linter.unusedVariables false
set_option linter.unusedSectionVars false
def dcW4:Dec:=⟨[],[9,10,11],[22,30,37,38,39,40,49,56,76,80,87,141,143,159,237,250,259],false⟩
structure MWish where
 who:Int
 session:Int
 pt:MPt
def MWish.cs (x:MWish):List AV:=[vI x.who,vI x.session,vI x.pt.size,vU x.pt.root.a,vU x.pt.root.b,vU x.pt.root.c,vU x.pt.root.d]
attribute [go_sem] MWish.cs
theorem MWish.wide (l:List MWish):qc 7 (l.map MWish.cs)=true:=by
 induction l with
 | nil=>rfl
 | cons a l ih=>simp only [List.map_cons,qc,ih,MWish.cs];rfl
theorem MWish.flat (l:List MWish):flL (l.map MWish.cs)=2:=by
 induction l with
 | nil=>rfl
 | cons a l ih=>simp only [List.map_cons,flL,ih,MWish.cs];rfl
attribute [go_sem] MWish.wide MWish.flat
theorem MAl.wide (l:List MAl):qc 13 (l.map MAl.cs)=true:=by
 induction l with
 | nil=>rfl
 | cons a l ih=>simp only [List.map_cons,qc,ih,MAl.cs];rfl
theorem MAl.flat (l:List MAl):flL (l.map MAl.cs)=2:=by
 induction l with
 | nil=>rfl
 | cons a l ih=>simp only [List.map_cons,flL,ih,MAl.cs];rfl
attribute [go_sem] MAl.wide MAl.flat
theorem ziv (l:List MWish) (hl:l.length * 56≤140737488355328):CallR Tryz.prog 42 [.ro 7 (l.map MWish.cs)] (.blk 0 0 [] 7 0 l.length) [([],⟨7,l.map MWish.cs,2,false⟩)]:=by
 refine zl dcW4 false Tryz.f42 ?_
 conv=>enter [1];reduce
 refine jvR Tryz.f42 14 [.tmp 2] (by kernel_rfl) (by decide +kernel) rfl ?_
 simp -implicitDefEqProofs only [go_sem]
 refine zi (fun h=>?_) (fun h=>?_)
 ·have:l=[]:=by simpa using h
  subst this
  simp -implicitDefEqProofs only [go_sem]
 ·have hm:=zbS hl (by omega)
  have hmk:((56:Nat):Int) * (l.length:Int)≤281474976710656∧(l.length:Int)≤9223372036854775807:=by unfold maxLen at hm;omega
  simp -implicitDefEqProofs only [go_sem,h,hmk,List.length_replicate]
theorem copWN:CallR Tryz.prog 42 [.nilS] (.blk 0 0 [] 7 0 0) [([],⟨7,[],2,false⟩)]:=
 (ziv [] (by simp)).arg fun rd vs h=>by
  obtain ⟨v,us,rfl,hr,hp⟩:=h.uncons
  have:us=[]:=List.eq_nil_of_length_eq_zero hp.1.symm
  subst this
  exact PW.cons (hr.wk (.inr ⟨rfl,7,rfl⟩)) PW.nil
theorem zkP (l:List MAl) (hl:l.length * 104≤140737488355328):CallR Tryz.prog 47 [.ro 13 (l.map MAl.cs)] (.blk 0 0 [] 13 0 l.length) [([],⟨13,l.map MAl.cs,2,false⟩)]:=by
 refine zl dcW4 false Tryz.f47 ?_
 conv=>enter [1];reduce
 refine jvR Tryz.f47 14 [.tmp 2] (by kernel_rfl) (by decide +kernel) rfl ?_
 simp -implicitDefEqProofs only [go_sem]
 refine zi (fun h=>?_) (fun h=>?_)
 ·have:l=[]:=by simpa using h
  subst this
  simp -implicitDefEqProofs only [go_sem]
 ·have hm:=zbS hl (by omega)
  have hmk:((104:Nat):Int) * (l.length:Int)≤281474976710656∧(l.length:Int)≤9223372036854775807:=by unfold maxLen at hm;omega
  simp -implicitDefEqProofs only [go_sem,h,hmk,List.length_replicate]
theorem copAN:CallR Tryz.prog 47 [.nilS] (.blk 0 0 [] 13 0 0) [([],⟨13,[],2,false⟩)]:=
 (zkP [] (by simp)).arg fun rd vs h=>by
  obtain ⟨v,us,rfl,hr,hp⟩:=h.uncons
  have:us=[]:=List.eq_nil_of_length_eq_zero hp.1.symm
  subst this
  exact PW.cons (hr.wk (.inr ⟨rfl,13,rfl⟩)) PW.nil
structure MWit where
 disk:MDisk
 wishes:List MWish
def MWit.cs (w:MWit) (l:AV):List AV:=w.disk.cs++[l]
def MWit.ro (w:MWit):AV:=.agg (w.cs (.ro 7 (w.wishes.map MWish.cs)))
attribute [go_sem] MWit.cs MWit.ro
def xg (h:Int) (l:List MWish) (i:Nat):Bool:=match l[i]? with
 | some x=>mIn x.who 1 20&&((match i with
  | 0=>true
  | j+1=>match l[j]? with
   | some y=>decide (y.who<x.who)
   | none=>true)&&(mIn x.session 1 1000000&&mIn x.pt.size (h+1) 256))
 | none=>true
def yr (w:MWit):Bool:=decide (w.wishes.length≤8)&&(List.range w.wishes.length).all fun i=>xg (zx w.disk).size w.wishes i
theorem ziQ {w:MWit} {i:Nat} (hi:i<w.wishes.length) (h:xg (zx w.disk).size w.wishes i=false):yr w=false:=by
 unfold yr
 rw [Bool.and_eq_false_iff]
 right
 rw [List.all_eq_false]
 exact ⟨i,List.mem_range.2 hi,by rw [h];decide⟩
theorem zgT {w:MWit} (h:∀j,j<w.wishes.length→xg (zx w.disk).size w.wishes j=true):yr w=decide (w.wishes.length≤8):=by
 unfold yr
 have:((List.range w.wishes.length).all fun i=>xg (zx w.disk).size w.wishes i)=true:=by
  rw [List.all_eq_true]
  exact fun j hj=>h j (List.mem_range.1 hj)
 rw [this,Bool.and_true]
theorem c40_c (w:MWit) (h:w.disk.ok) (hl:w.wishes.length≤maxLen):CallR Tryz.prog 40 [w.ro] (vB (yr w)) []:=by
 refine zl dcW4 false Tryz.f40 ?_
 conv=>enter [1];reduce
 refine jvR Tryz.f40 58 [.tmp 2] (by kernel_rfl) (by decide +kernel) rfl ?_
 have hH:=ziw w.disk h
 have hbd:=wN w.disk
 have hbad:=@ziQ w
 have hgood:=@zgT w
 obtain ⟨disk,l⟩:=w
 simp only at *
 generalize zx disk=H at *
 obtain ⟨hs,hr⟩:=H
 simp only at *
 have w1:IntKind.i64.wrap (hs+1)=hs+1:=wrS (by omega)
 simp -implicitDefEqProofs only [go_sem]
 refine Want.intro hH ?_
 simp -implicitDefEqProofs only [go_sem]
 refine zX (fun m z=>∃i,(i≤l.length∧∀j,j<i→xg hs l j=true)∧m=l.length - i∧z=⟨58,[(1,.ptr 1 0 [] 15 0 0),(3,.ptr 3 0 [] 5 0 0),(10,.ro 7 (l.map MWish.cs)),(11,vI l.length),(12,vI i)],[(1,0,one ⟨15,[MWit.cs ⟨disk,l⟩ (.ro 7 (l.map MWish.cs))],0,false⟩),(3,0,one ⟨5,[MPt.cs ⟨hs,hr⟩],0,false⟩)],1⟩) l.length ?_ ?_
 ·simp -implicitDefEqProofs only [go_sem]
  exact ⟨0,⟨Nat.zero_le _,fun j hj=>absurd hj (Nat.not_lt_zero _)⟩,rfl,rfl⟩
 ·rintro m z ⟨i,⟨hi,hall⟩,rfl,rfl⟩
  rcases Nat.lt_or_ge i l.length with hlt | hge
  ·have hlt':(i:Int)<(l.length:Int):=by omega
   have hg:l[i]?=some l[i]:=List.getElem?_eq_getElem hlt
   have hw:=zG hlt hl
   have hb:=hbad hlt
   have hat:xg hs l i=xg hs l i:=rfl
   conv at hat=>rhs;unfold xg
   rw [hg] at hat
   simp only at hat
   generalize l[i]=x at *
   simp -implicitDefEqProofs only [go_sem,hlt',hg,zb,za]
   refine Want.intro (qy x.who 1 20) ?_
   cases a1:mIn x.who 1 20 with
   | false=>
    have hf:xg hs l i=false:=by rw [hat];simp [a1]
    rw [hb hf]
    simp -implicitDefEqProofs only [go_sem,a1,ze,zf,zg,zc,zb,za,Bool.not_true,Bool.not_false,Bool.false_eq_true]
   | true=>
    cases i with
    | zero=>
     have q0:¬(((0:Nat):Int)>0):=by decide
     simp -implicitDefEqProofs only [go_sem,a1,q0,ze,zf,zg,zc,zb,za,Bool.not_true,Bool.not_false,Bool.false_eq_true]
     refine Want.intro (qy x.session 1 1000000) ?_
     cases a3:mIn x.session 1 1000000 with
     | false=>
      have hf:xg hs l 0=false:=by rw [hat];simp [a1,a3]
      rw [hb hf]
      simp -implicitDefEqProofs only [go_sem,a3,q0,ze,zf,zg,zc,zb,za,Bool.not_true,Bool.not_false,Bool.false_eq_true]
     | true=>
      simp -implicitDefEqProofs only [go_sem,a3,w1,ze,zf,zg,zc,zb,za,Bool.not_true,Bool.not_false]
      refine Want.intro (qy x.pt.size (hs+1) 256) ?_
      cases a4:mIn x.pt.size (hs+1) 256 with
      | false=>
       have hf:xg hs l 0=false:=by rw [hat];simp [a1,a3,a4]
       rw [hb hf]
       simp -implicitDefEqProofs only [go_sem,a4,ze,zf,zg,zc,zb,za,Bool.not_true,Bool.not_false,Bool.false_eq_true]
      | true=>
       have hf:xg hs l 0=true:=by rw [hat];simp [a1,a3,a4]
       simp -implicitDefEqProofs only [go_sem,a4,w1,hw,q0,ze,zf,zg,zc,zb,za,Bool.not_true,Bool.not_false,Bool.false_eq_true]
       exact ⟨_,by omega,0+1,⟨hlt,fun k hk=>by rcases Nat.lt_succ_iff_lt_or_eq.1 hk with hk | rfl;exact hall k hk;exact hf⟩,rfl,rfl⟩
    | succ j=>
     have q0:(((j+1:Nat):Int)>0):=by omega
     have w5:IntKind.i64.wrap (((j+1:Nat):Int) - 1)=(j:Int):=by rw [wrS (by unfold maxLen at hl;omega)];omega
     have hj:j<l.length:=by omega
     have hj':(j:Int)<(l.length:Int):=by omega
     have hgj:l[j]?=some l[j]:=List.getElem?_eq_getElem hj
     simp only [hgj] at hat
     generalize l[j]=y at *
     by_cases a2:y.who≥x.who
     ·have a2':decide (y.who<x.who)=false:=decide_eq_false (by omega)
      have hf:xg hs l (j+1)=false:=by rw [hat];simp [a1,a2']
      rw [hb hf]
      simp -implicitDefEqProofs only [go_sem,a1,q0,w5,hj',hgj,a2,ze,zf,zg,zc,zb,za,Bool.not_true,Bool.not_false,Bool.false_eq_true]
     ·have a2':decide (y.who<x.who)=true:=decide_eq_true (by omega)
      simp -implicitDefEqProofs only [go_sem,a1,q0,w5,hj',hgj,a2,ze,zf,zg,zc,zb,za,Bool.not_true,Bool.not_false,Bool.false_eq_true]
      refine Want.intro (qy x.session 1 1000000) ?_
      cases a3:mIn x.session 1 1000000 with
      | false=>
       have hf:xg hs l (j+1)=false:=by rw [hat];simp [a1,a2',a3]
       rw [hb hf]
       simp -implicitDefEqProofs only [go_sem,a3,a1,ze,zf,zg,zc,zb,za,Bool.not_true,Bool.not_false,Bool.false_eq_true]
      | true=>
       simp -implicitDefEqProofs only [go_sem,a3,w1,ze,zf,zg,zc,zb,za,Bool.not_true,Bool.not_false]
       refine Want.intro (qy x.pt.size (hs+1) 256) ?_
       cases a4:mIn x.pt.size (hs+1) 256 with
       | false=>
        have hf:xg hs l (j+1)=false:=by rw [hat];simp [a1,a2',a3,a4]
        rw [hb hf]
        simp -implicitDefEqProofs only [go_sem,a4,ze,zf,zg,zc,zb,za,Bool.not_true,Bool.not_false,Bool.false_eq_true]
       | true=>
        have hf:xg hs l (j+1)=true:=by rw [hat];simp [a1,a2',a3,a4]
        simp -implicitDefEqProofs only [go_sem,a4,w1,hw,a1,ze,zf,zg,zc,zb,za,Bool.not_true,Bool.not_false,Bool.false_eq_true]
        exact ⟨_,by omega,(j+1)+1,⟨hlt,fun k hk=>by rcases Nat.lt_succ_iff_lt_or_eq.1 hk with hk | rfl;exact hall k hk;exact hf⟩,rfl,rfl⟩
  ·have hi:i=l.length:=by omega
   subst hi
   have hlt':¬((l.length:Int)<(l.length:Int)):=by omega
   rw [hgood hall]
   have e8:decide ((l.length:Int)≤8)=decide (l.length≤8):=by simp only [decide_eq_decide];omega
   simp -implicitDefEqProofs only [go_sem,hlt',e8]
theorem zmH (w:MWit) (h:w.disk.ok) (hl:w.wishes.length≤maxLen):CallR Tryz.prog 10 [w.ro] (vB (yr w)) []:=by
 refine zl dcW4 false Tryz.f10 ?_
 conv=>enter [1];reduce
 refine jvR Tryz.f10 59 [.tmp 2] (by kernel_rfl) (by decide +kernel) rfl ?_
 have hH:=zix w.disk h
 have hbd:=wN w.disk
 have hbad:=@ziQ w
 have hgood:=@zgT w
 obtain ⟨disk,l⟩:=w
 simp only at *
 generalize zx disk=H at *
 obtain ⟨hs,hr⟩:=H
 simp only at *
 have w1:IntKind.i64.wrap (hs+1)=hs+1:=wrS (by omega)
 rcases Nat.lt_or_ge 8 l.length with h8 | h8
 ·have h8':(l.length:Int)>8:=by omega
  have e8:yr ⟨disk,l⟩=false:=by unfold yr;rw [decide_eq_false (by show ¬l.length≤8;omega)];rfl
  rw [e8]
  simp -implicitDefEqProofs only [go_sem,h8',ze,zf,zg,zc,zb,za,Bool.not_true,Bool.not_false]
 have h8':¬((l.length:Int)>8):=by omega
 simp -implicitDefEqProofs only [go_sem,h8',ze,zf,zg,zc,zb,za,Bool.not_true,Bool.not_false]
 refine Want.intro hH ?_
 simp -implicitDefEqProofs only [go_sem]
 refine zX (fun m z=>∃i,(i≤l.length∧∀j,j<i→xg hs l j=true)∧m=l.length - i∧z=⟨59,[(1,.ptr 1 0 [] 15 0 0),(3,.ptr 3 0 [] 5 0 0),(4,vI i)],[(1,0,one ⟨15,[MWit.cs ⟨disk,l⟩ (.ro 7 (l.map MWish.cs))],0,false⟩),(3,0,one ⟨5,[MPt.cs ⟨hs,hr⟩],0,false⟩)],1⟩) l.length ?_ ?_
 ·simp -implicitDefEqProofs only [go_sem]
  exact ⟨0,⟨Nat.zero_le _,fun j hj=>absurd hj (Nat.not_lt_zero _)⟩,rfl,rfl⟩
 ·rintro m z ⟨i,⟨hi,hall⟩,rfl,rfl⟩
  rcases Nat.lt_or_ge i l.length with hlt | hge
  ·have hlt':(i:Int)<(l.length:Int):=by omega
   have hg:l[i]?=some l[i]:=List.getElem?_eq_getElem hlt
   have hw:=zG hlt hl
   have hb:=hbad hlt
   have hat:xg hs l i=xg hs l i:=rfl
   conv at hat=>rhs;unfold xg
   rw [hg] at hat
   simp only at hat
   generalize l[i]=x at *
   simp -implicitDefEqProofs only [go_sem,hlt',hg,zb,za]
   refine Want.intro (zaK x.who 1 20) ?_
   cases a1:mIn x.who 1 20 with
   | false=>
    have hf:xg hs l i=false:=by rw [hat];simp [a1]
    rw [hb hf]
    simp -implicitDefEqProofs only [go_sem,a1,ze,zf,zg,zc,zb,za,Bool.not_true,Bool.not_false,Bool.false_eq_true]
   | true=>
    simp -implicitDefEqProofs only [go_sem,a1,ze,zf,zg,zc,zb,za,Bool.not_true,Bool.not_false]
    refine Want.intro (zaK x.session 1 1000000) ?_
    cases a3:mIn x.session 1 1000000 with
    | false=>
     have hf:xg hs l i=false:=by rw [hat];simp [a1,a3]
     rw [hb hf]
     simp -implicitDefEqProofs only [go_sem,a3,ze,zf,zg,zc,zb,za,Bool.not_true,Bool.not_false,Bool.false_eq_true]
    | true=>
     simp -implicitDefEqProofs only [go_sem,a3,w1,ze,zf,zg,zc,zb,za,Bool.not_true,Bool.not_false]
     refine Want.intro (zaK x.pt.size (hs+1) 256) ?_
     cases a4:mIn x.pt.size (hs+1) 256 with
     | false=>
      have hf:xg hs l i=false:=by rw [hat];simp [a1,a3,a4]
      rw [hb hf]
      simp -implicitDefEqProofs only [go_sem,a4,ze,zf,zg,zc,zb,za,Bool.not_true,Bool.not_false,Bool.false_eq_true]
     | true=>
      cases i with
      | zero=>
       have q0:¬(((0:Nat):Int)>0):=by decide
       have hf:xg hs l 0=true:=by rw [hat];simp [a1,a3,a4]
       simp -implicitDefEqProofs only [go_sem,a4,q0,hw,ze,zf,zg,zc,zb,za,Bool.not_true,Bool.not_false,Bool.false_eq_true]
       exact ⟨_,by omega,0+1,⟨hlt,fun k hk=>by rcases Nat.lt_succ_iff_lt_or_eq.1 hk with hk | rfl;exact hall k hk;exact hf⟩,rfl,rfl⟩
      | succ j=>
       have q0:(((j+1:Nat):Int)>0):=by omega
       have w5:IntKind.i64.wrap (((j+1:Nat):Int) - 1)=(j:Int):=by rw [wrS (by unfold maxLen at hl;omega)];omega
       have hj:j<l.length:=by omega
       have hj':(j:Int)<(l.length:Int):=by omega
       have hgj:l[j]?=some l[j]:=List.getElem?_eq_getElem hj
       simp only [hgj] at hat
       generalize l[j]=y at *
       by_cases a2:y.who≥x.who
       ·have a2':decide (y.who<x.who)=false:=decide_eq_false (by omega)
        have hf:xg hs l (j+1)=false:=by rw [hat];simp [a1,a2',a3,a4]
        rw [hb hf]
        simp -implicitDefEqProofs only [go_sem,a4,q0,w5,hj',hgj,a2,ze,zf,zg,zc,zb,za,Bool.not_true,Bool.not_false,Bool.false_eq_true]
       ·have a2':decide (y.who<x.who)=true:=decide_eq_true (by omega)
        have hf:xg hs l (j+1)=true:=by rw [hat];simp [a1,a2',a3,a4]
        simp -implicitDefEqProofs only [go_sem,a4,q0,w5,hj',hgj,a2,hw,ze,zf,zg,zc,zb,za,Bool.not_true,Bool.not_false,Bool.false_eq_true]
        exact ⟨_,by omega,j+1+1,⟨hlt,fun k hk=>by rcases Nat.lt_succ_iff_lt_or_eq.1 hk with hk | rfl;exact hall k hk;exact hf⟩,rfl,rfl⟩
  ·have hi:i=l.length:=by omega
   subst hi
   have hlt':¬((l.length:Int)<(l.length:Int)):=by omega
   rw [hgood hall,decide_eq_true h8]
   simp -implicitDefEqProofs only [go_sem,hlt']
end Go.Proofs.YtpjpkmhaffmbmaaGreat.E
