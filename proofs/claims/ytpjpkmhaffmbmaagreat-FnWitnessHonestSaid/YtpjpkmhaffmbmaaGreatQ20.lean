/- Contracts: wishes put in; acknowledgements; witnesses copied. -/
import Derived.Test.YtpjpkmhaffmbmaaGreatQ19
import Derived.Test.YtpjpkmhaffmbmaaGreatQ9
namespace Go.Proofs.YtpjpkmhaffmbmaaGreat.E
open Go Go.RowKit
set_option maxHeartbeats 4000000
set_option maxRecDepth 10000
set_option linter.unusedSimpArgs false
set_option linter.unusedVariables false
set_option linter.unusedSectionVars false
def zrH:Dec:=⟨[],[9,10,11],[22,30,37,38,39,40,49,56,76,80,87,141,143,159,237,250,259],false⟩
theorem zcB {L:List (List AV)} {b:Nat} (h:L.length≤9000) (hb:b≤1000) (v:List AV):(L++[v]).length≤maxLen∧(L++[v]).length * b≤140737488355328:=by
 rw [List.length_append]
 have e:L.length+[v].length≤9001:=by simp;omega
 have:=Nat.mul_le_mul e hb
 unfold maxLen
 omega
theorem zhe {n:Nat}:decide ((n:Int)≤8)=decide (n≤8):=by simp only [decide_eq_decide];omega
def ya (x:MWish) (st:List MWish × Bool) (y:MWish):List MWish × Bool:=
 if st.2=false∧y.who≥x.who then (if y.who=x.who then (st.1++[x],true) else (st.1++[x]++[y],true)) else (if y.who=x.who then st else (st.1++[y],st.2))
def jh (x:MWish) (l:List MWish):List MWish × Bool:=l.foldl (ya x) ([],false)
def yE (l:List MWish) (x:MWish):List MWish:=if (jh x l).2 then (jh x l).1 else (jh x l).1++[x]
theorem zc0 {x:MWish} {l:List MWish} {i:Nat} (h:i<l.length):jh x (l.take (i+1))=ya x (jh x (l.take i)) l[i]:=by
 unfold jh
 rw [List.take_succ_eq_append_getElem h,List.foldl_append]
 rfl
theorem ziR (x:MWish) (l:List MWish):∀st:List MWish × Bool,(l.foldl (ya x) st).1.length≤st.1.length+2 * l.length:=by
 induction l with
 | nil=>intro st;simp
 | cons a l ih=>
  intro st
  have:=ih (ya x st a)
  simp only [List.foldl_cons,List.length_cons]
  have e:(ya x st a).1.length≤st.1.length+2:=by
   unfold ya
   split
   ·split<;>simp
   ·split<;>simp
  omega
theorem zdK (x:MWish) (l:List MWish):(jh x l).1.length≤2 * l.length:=by
 have:=ziR x l ([],false)
 simp only [List.length_nil,Nat.zero_add] at this
 exact this
theorem zsu (l:List MWish) (x:MWish) (hl:l.length≤8):CallR Tryz.prog 107 [.ro 7 (l.map MWish.cs),.agg x.cs] (.blk 0 0 [] 7 0 (yE l x).length) [([],⟨7,(yE l x).map MWish.cs,2,false⟩)]:=by
 refine zl zrH false Tryz.f107 ?_
 conv=>enter [1];reduce
 refine jvR Tryz.f107 45 [.tmp 4] (by kernel_rfl) (by decide +kernel) rfl ?_
 have hlm:l.length≤maxLen:=by unfold maxLen;omega
 simp -implicitDefEqProofs only [go_sem]
 refine qv [(5,7)] (fun m z=>∃i,i≤l.length∧m=l.length - i∧z=⟨45,[(3,.ptr 3 0 [] 7 0 0),(5,.blk 5 0 [] 7 0 (jh x (l.take i)).1.length),(6,vB (jh x (l.take i)).2),(9,.ro 7 (l.map MWish.cs)),(10,vI l.length),(11,vI i)],[(3,0,one ⟨7,[x.cs],0,false⟩),(5,0,one ⟨7,(jh x (l.take i)).1.map MWish.cs,2,false⟩)],1⟩) l.length ?_ ?_
 ·simp -implicitDefEqProofs only [go_sem]
  exact ⟨0,Nat.zero_le _,rfl,rfl⟩
 ·rintro m z ⟨i,hi,rfl,rfl⟩
  have hle:=zdK x (l.take i)
  rw [List.length_take] at hle
  rcases Nat.lt_or_ge i l.length with hlt | hge
  ·have hlt':(i:Int)<(l.length:Int):=by omega
   have hg:l[i]?=some l[i]:=List.getElem?_eq_getElem hlt
   have hw:=zG hlt hlm
   have hst:=zc0 (x:=x) hlt
   generalize l[i]=y at *
   generalize jh x (l.take i)=S at *
   obtain ⟨out,put⟩:=S
   unfold ya at hst
   simp only at hle hst
   have ha1:∀v,_:=fun v=>zcB (L:=out.map MWish.cs) (b:=56) (by rw [List.length_map];omega) (by omega) v
   have ha2:∀c v,_:=fun c v=>zcB (L:=out.map MWish.cs++[c]) (b:=56) (by simp;omega) (by omega) v
   by_cases q2:y.who=x.who
   ·have f2:(y.who != x.who)=false:=by rw [bne_eq_false_iff_eq];exact q2
    have q1:y.who≥x.who:=by omega
    cases put with
    | true=>
     rw [if_neg (by simp),if_pos q2] at hst
     simp -implicitDefEqProofs only [go_sem,hlt',hg,hw,q1,f2,Bool.not_true,Bool.not_false,ze,zf,zg,zc,zb,za]
     exact ⟨_,by omega,i+1,hlt,rfl,by rw [hst]⟩
    | false=>
     rw [if_pos ⟨rfl,q1⟩,if_pos q2] at hst
     simp -implicitDefEqProofs only [go_sem,hlt',hg,hw,q1,f2,ha1,Bool.not_true,Bool.not_false,ze,zf,zg,zc,zb,za]
     exact ⟨_,by omega,i+1,hlt,rfl,by rw [hst];simp only [List.map_append,List.length_append,List.length_map,List.map_cons,List.map_nil,List.length_cons,List.length_nil];try rfl⟩
   ·have f2:(y.who != x.who)=true:=by rw [bne_iff_ne];exact q2
    cases put with
    | true=>
     rw [if_neg (by simp),if_neg q2] at hst
     simp -implicitDefEqProofs only [go_sem,hlt',hg,hw,f2,ha1,Bool.not_true,Bool.not_false,ze,zf,zg,zc,zb,za]
     exact ⟨_,by omega,i+1,hlt,rfl,by rw [hst];simp only [List.map_append,List.length_append,List.length_map,List.map_cons,List.map_nil,List.length_cons,List.length_nil];try rfl⟩
    | false=>
     by_cases q1:y.who≥x.who
     ·rw [if_pos ⟨rfl,q1⟩,if_neg q2] at hst
      simp -implicitDefEqProofs only [go_sem,hlt',hg,hw,q1,f2,ha1,ha2,Bool.not_true,Bool.not_false,ze,zf,zg,zc,zb,za]
      exact ⟨_,by omega,i+1,hlt,rfl,by rw [hst];simp only [List.map_append,List.length_append,List.length_map,List.map_cons,List.map_nil,List.length_cons,List.length_nil];try rfl⟩
     ·rw [if_neg (fun h=>q1 h.2),if_neg q2] at hst
      simp -implicitDefEqProofs only [go_sem,hlt',hg,hw,q1,f2,ha1,Bool.not_true,Bool.not_false,ze,zf,zg,zc,zb,za]
      exact ⟨_,by omega,i+1,hlt,rfl,by rw [hst];simp only [List.map_append,List.length_append,List.length_map,List.map_cons,List.map_nil,List.length_cons,List.length_nil];try rfl⟩
  ·have hi:i=l.length:=by omega
   subst hi
   have hlt':¬((l.length:Int)<(l.length:Int)):=by omega
   rw [List.take_length] at hle ⊢
   unfold yE
   generalize jh x l=S at *
   obtain ⟨out,put⟩:=S
   simp only at hle
   have ha1:∀v,_:=fun v=>zcB (L:=out.map MWish.cs) (b:=56) (by rw [List.length_map];omega) (by omega) v
   cases put with
   | true=>
    simp -implicitDefEqProofs only [go_sem,hlt',Bool.not_true,zb,za]
    all_goals
     simp only [List.map_append,List.length_append,List.length_map,List.map_cons,List.map_nil,List.length_cons,List.length_nil,zhe]
     first | done | exact ⟨rfl,rfl⟩ | exact ⟨trivial,rfl⟩ | exact ⟨rfl,trivial⟩
   | false=>
    simp -implicitDefEqProofs only [go_sem,hlt',ha1,Bool.not_false,zb,za,Bool.false_eq_true]
    all_goals
     simp only [List.map_append,List.length_append,List.length_map,List.map_cons,List.map_nil,List.length_cons,List.length_nil,zhe]
     first | done | exact ⟨rfl,rfl⟩ | exact ⟨trivial,rfl⟩ | exact ⟨rfl,trivial⟩
theorem zsq (l:List MWish) (x:MWish) (hl:l.length≤8):zW Tryz.prog 112 [] [.ro 7 (l.map MWish.cs),.agg x.cs] (.tup [.blk 0 0 [] 7 0 (yE l x).length,vB (decide ((yE l x).length≤8))]) [(0,0,one ⟨7,(yE l x).map MWish.cs,2,false⟩)]:=by
 refine zl zrH false Tryz.f112 ?_
 conv=>enter [1];reduce
 refine jvM Tryz.f112 57 [.tmp 4,.tmp 5] (by kernel_rfl) (by decide +kernel) rfl ?_
 have hlm:l.length≤maxLen:=by unfold maxLen;omega
 simp -implicitDefEqProofs only [go_sem]
 refine zX (fun m z=>∃i,i≤l.length∧m=l.length - i∧z=⟨57,[(0,.ro 7 (l.map MWish.cs)),(3,.ptr 3 0 [] 7 0 0),(6,.blk 6 0 [] 7 0 (jh x (l.take i)).1.length),(7,vB (jh x (l.take i)).2),(8,vI i)],[(3,0,one ⟨7,[x.cs],0,false⟩),(6,0,one ⟨7,(jh x (l.take i)).1.map MWish.cs,2,false⟩)],1⟩) l.length ?_ ?_
 ·simp -implicitDefEqProofs only [go_sem]
  exact ⟨0,Nat.zero_le _,rfl,rfl⟩
 ·rintro m z ⟨i,hi,rfl,rfl⟩
  have hle:=zdK x (l.take i)
  rw [List.length_take] at hle
  rcases Nat.lt_or_ge i l.length with hlt | hge
  ·have hlt':(i:Int)<(l.length:Int):=by omega
   have hg:l[i]?=some l[i]:=List.getElem?_eq_getElem hlt
   have hw:=zG hlt hlm
   have hst:=zc0 (x:=x) hlt
   generalize l[i]=y at *
   generalize jh x (l.take i)=S at *
   obtain ⟨out,put⟩:=S
   unfold ya at hst
   simp only at hle hst
   have ha1:∀v,_:=fun v=>zcB (L:=out.map MWish.cs) (b:=56) (by rw [List.length_map];omega) (by omega) v
   have ha2:∀c v,_:=fun c v=>zcB (L:=out.map MWish.cs++[c]) (b:=56) (by simp;omega) (by omega) v
   by_cases q2:y.who=x.who
   ·have f2:(y.who != x.who)=false:=by rw [bne_eq_false_iff_eq];exact q2
    have q1:y.who≥x.who:=by omega
    cases put with
    | true=>
     rw [if_neg (by simp),if_pos q2] at hst
     simp -implicitDefEqProofs only [go_sem,hlt',hg,hw,q1,f2,Bool.not_true,Bool.not_false,ze,zf,zg,zc,zb,za]
     exact ⟨_,by omega,i+1,hlt,rfl,by rw [hst]⟩
    | false=>
     rw [if_pos ⟨rfl,q1⟩,if_pos q2] at hst
     simp -implicitDefEqProofs only [go_sem,hlt',hg,hw,q1,f2,ha1,Bool.not_true,Bool.not_false,ze,zf,zg,zc,zb,za]
     exact ⟨_,by omega,i+1,hlt,rfl,by rw [hst];simp only [List.map_append,List.length_append,List.length_map,List.map_cons,List.map_nil,List.length_cons,List.length_nil];try rfl⟩
   ·have f2:(y.who != x.who)=true:=by rw [bne_iff_ne];exact q2
    cases put with
    | true=>
     rw [if_neg (by simp),if_neg q2] at hst
     simp -implicitDefEqProofs only [go_sem,hlt',hg,hw,f2,ha1,Bool.not_true,Bool.not_false,ze,zf,zg,zc,zb,za]
     exact ⟨_,by omega,i+1,hlt,rfl,by rw [hst];simp only [List.map_append,List.length_append,List.length_map,List.map_cons,List.map_nil,List.length_cons,List.length_nil];try rfl⟩
    | false=>
     by_cases q1:y.who≥x.who
     ·rw [if_pos ⟨rfl,q1⟩,if_neg q2] at hst
      simp -implicitDefEqProofs only [go_sem,hlt',hg,hw,q1,f2,ha1,ha2,Bool.not_true,Bool.not_false,ze,zf,zg,zc,zb,za]
      exact ⟨_,by omega,i+1,hlt,rfl,by rw [hst];simp only [List.map_append,List.length_append,List.length_map,List.map_cons,List.map_nil,List.length_cons,List.length_nil];try rfl⟩
     ·rw [if_neg (fun h=>q1 h.2),if_neg q2] at hst
      simp -implicitDefEqProofs only [go_sem,hlt',hg,hw,q1,f2,ha1,Bool.not_true,Bool.not_false,ze,zf,zg,zc,zb,za]
      exact ⟨_,by omega,i+1,hlt,rfl,by rw [hst];simp only [List.map_append,List.length_append,List.length_map,List.map_cons,List.map_nil,List.length_cons,List.length_nil];try rfl⟩
  ·have hi:i=l.length:=by omega
   subst hi
   have hlt':¬((l.length:Int)<(l.length:Int)):=by omega
   rw [List.take_length] at hle ⊢
   unfold yE
   generalize jh x l=S at *
   obtain ⟨out,put⟩:=S
   simp only at hle
   have ha1:∀v,_:=fun v=>zcB (L:=out.map MWish.cs) (b:=56) (by rw [List.length_map];omega) (by omega) v
   cases put with
   | true=>
    simp -implicitDefEqProofs only [go_sem,hlt',Bool.not_true,zb,za]
    all_goals
     simp only [List.map_append,List.length_append,List.length_map,List.map_cons,List.map_nil,List.length_cons,List.length_nil,zhe]
     first | done | exact ⟨rfl,rfl⟩ | exact ⟨trivial,rfl⟩ | exact ⟨rfl,trivial⟩
   | false=>
    simp -implicitDefEqProofs only [go_sem,hlt',ha1,Bool.not_false,zb,za,Bool.false_eq_true]
    all_goals
     simp only [List.map_append,List.length_append,List.length_map,List.map_cons,List.map_nil,List.length_cons,List.length_nil,zhe]
     first | done | exact ⟨rfl,rfl⟩ | exact ⟨trivial,rfl⟩ | exact ⟨rfl,trivial⟩
def zkb (s:Int) (p:MPt):MMsg:=⟨6,s,0,p.size,p.root,0,[],[]⟩
def zbe (me who s:Int) (p:MPt):MLet:=⟨me,who,zr (zkb s p)⟩
theorem zkZ (me who s:Int) (p:MPt):CallR Tryz.prog 106 [vI me,vI who,vI s,.agg p.cs] (.agg (zbe me who s p).cs) []:=by
 refine zl zrH false Tryz.f106 ?_
 conv=>enter [1];reduce
 refine jvR Tryz.f106 18 [.cell 8 34] (by kernel_rfl) (by decide +kernel) rfl ?_
 have hl:=znA me who (zkb s p) rfl rfl
 simp -implicitDefEqProofs only [go_sem]
 refine Want.intro hl ?_
 simp -implicitDefEqProofs only [go_sem]
 rfl
theorem zkY (me:Int) (x:MWish) (h:x.pt.root.ok):CallR Tryz.prog 111 [vI me,.agg x.cs] (.agg (zbe me x.who x.session x.pt).cs) []:=by
 refine zl zrH false Tryz.f111 ?_
 conv=>enter [1];reduce
 refine jvR Tryz.f111 21 [.cell 4 34] (by kernel_rfl) (by decide +kernel) rfl ?_
 have hl:=wbS (zkb x.session x.pt) rfl rfl h
 simp -implicitDefEqProofs only [go_sem]
 refine Want.intro hl ?_
 simp -implicitDefEqProofs only [go_sem]
 rfl
theorem zpf (w:MWit) (hl:w.wishes.length≤100):zW Tryz.prog 51 [] [w.ro] (.agg (w.cs (.blk 0 0 [] 7 0 w.wishes.length))) [(0,0,one ⟨7,w.wishes.map MWish.cs,2,false⟩)]:=by
 refine zl zrH false Tryz.f51 ?_
 conv=>enter [1];reduce
 refine jvM Tryz.f51 26 [.cell 2 32] (by kernel_rfl) (by decide +kernel) rfl ?_
 obtain ⟨disk,l⟩:=w
 simp only at hl
 have hlm:l.length≤maxLen:=by unfold maxLen;omega
 simp -implicitDefEqProofs only [go_sem]
 refine zX (fun m z=>∃(i:Nat) (c:AV) (R:Sig),(i≤l.length∧(i=0∧c=.nilS∧R=[]∨0<i∧c=.blk 10003 0 [] 7 0 (l.take i).length∧R=[(10003,0,one ⟨7,(l.take i).map MWish.cs,2,false⟩)]))∧m=l.length - i∧z=⟨26,[(1,.ptr 1 0 [] 15 0 0),(2,.ptr 2 0 [] 15 0 0),(3,.ptr 3 0 [] 15 0 0),(4,vI i)],[(1,0,one ⟨15,[MWit.cs ⟨disk,l⟩ (.ro 7 (l.map MWish.cs))],0,false⟩),(2,0,one ⟨15,[MWit.cs ⟨zdisk,l⟩ .nilS],0,false⟩),(3,0,one ⟨15,[MWit.cs ⟨disk,l⟩ c],0,false⟩)]++R,1⟩) l.length ?_ ?_
 ·simp -implicitDefEqProofs only [go_sem]
  exact ⟨0,.nilS,[],⟨Nat.zero_le _,.inl ⟨rfl,rfl,rfl⟩⟩,rfl,rfl⟩
 ·rintro m z ⟨i,c,R,⟨hi,hc⟩,rfl,rfl⟩
  rcases Nat.lt_or_ge i l.length with hlt | hge
  ·have hlt':(i:Int)<(l.length:Int):=by omega
   have hg:l[i]?=some l[i]:=List.getElem?_eq_getElem hlt
   have hw:=zG hlt hlm
   have hlx:(l.take (i+1)).map MWish.cs=(l.take i).map MWish.cs++[l[i].cs]:=by rw [List.take_succ_eq_append_getElem hlt,List.map_append];rfl
   have hll:(l.take (i+1)).length=(l.take i).length+1:=by rw [List.take_succ_eq_append_getElem hlt,List.length_append];rfl
   have ha:∀v,_:=fun v=>zcB (L:=(l.take i).map MWish.cs) (b:=56) (by rw [List.length_map,List.length_take];omega) (by omega) v
   rcases hc with ⟨rfl,rfl,rfl⟩ | ⟨h0,rfl,rfl⟩
   ·have h1m:1≤maxLen:=by unfold maxLen;omega
    simp -implicitDefEqProofs only [go_sem,hlt',hg,hw,h1m,zb,za]
    refine ⟨_,by omega,0+1,_,_,⟨hlt,.inr ⟨by omega,rfl,rfl⟩⟩,rfl,?_⟩
    rw [hlx,hll]
    try simp only [List.length_append,List.length_map,List.length_cons,List.length_nil]
    rfl
   ·simp -implicitDefEqProofs only [go_sem,hlt',hg,hw,ha,zb,za]
    refine ⟨_,by omega,i+1,_,_,⟨hlt,.inr ⟨by omega,rfl,rfl⟩⟩,rfl,?_⟩
    rw [hlx,hll]
    try simp only [List.length_append,List.length_map,List.length_cons,List.length_nil]
    rfl
  ·have hi:i=l.length:=by omega
   subst hi
   have hlt':¬((l.length:Int)<(l.length:Int)):=by omega
   rcases hc with ⟨e0,rfl,rfl⟩ | ⟨h0,rfl,rfl⟩
   ·have:l=[]:=List.eq_nil_of_length_eq_zero e0
    subst this
    have z0':¬(((0:Nat):Int)<((0:Nat):Int)):=by decide
    simp -implicitDefEqProofs only [go_sem,z0',zb,za]
   ·simp -implicitDefEqProofs only [go_sem,hlt',List.take_length,zb,za]
end Go.Proofs.YtpjpkmhaffmbmaaGreat.E
