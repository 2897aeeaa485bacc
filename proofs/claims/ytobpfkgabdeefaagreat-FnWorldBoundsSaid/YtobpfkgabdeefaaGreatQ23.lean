/- Contracts: wishes put in; acknowledgements; witnesses copied. -/
import Derived.Test.YtobpfkgabdeefaaGreatQ15
namespace Go.Proofs.YtobpfkgabdeefaaGreat.E
open Go Go.RowKit
set_option maxHeartbeats 4000000
set_option maxRecDepth 10000
set_option linter.unusedSimpArgs false
set_option linter.unusedVariables false
set_option linter.unusedSectionVars false
def Dl:cc:=⟨[],cw,cz,false⟩
theorem nh {L:List (List AV)}{b:Nat}(h:L.length<=9000) (hb:b<=1000) (v:List AV):(L++[v]).length<=maxLen/\(L++[v]).length * b<=140737488355328:=by
 rw[List.length_append];have e:L.length+[v].length<=9001:=by simp;omega
 have:=Nat.mul_le_mul e hb;unfold maxLen;omega
theorem FG {n:Nat}:decide ((n:Int)<=8)=decide (n<=8):=by simp only[decide_eq_decide];omega
def kS (x:bD) (st:List bD × Bool) (y:bD):List bD × Bool:=
 if st.2=false/\y.bh>=x.bh then(if y.bh=x.bh then(st.1++[x],true) else(st.1++[x]++[y],true)) else(if y.bh=x.bh then st else(st.1++[y],st.2))
def mH (x:bD) (l:List bD):List bD × Bool:=l.foldl (kS x) ([],false)
def mb (l:List bD) (x:bD):List bD:=if (mH x l).2 then(mH x l).1 else(mH x l).1++[x]
theorem Oc {x:bD}{l:List bD}{i:Nat}(h:i<l.length):mH x (l.take (i+1))=kS x (mH x (l.take i)) l[i]:=by
 unfold mH;rw[List.take_succ_eq_append_getElem h,List.foldl_append];rfl
theorem Xp (x:bD) (l:List bD):∀st:List bD × Bool,(l.foldl (kS x) st).1.length<=st.1.length+2 * l.length:=by
 induction l with
 | nil=>intro st;simp
 | cons a l ih=>
  intro st;have:=ih (kS x st a);simp only[List.foldl_cons,List.length_cons];have e:(kS x st a).1.length<=st.1.length+2:=by
   unfold kS;split
   ·split<;>simp
   split<;>simp
  omega
theorem Is (x:bD) (l:List bD):(mH x l).1.length<=2 * l.length:=by
 have:=Xp x l ([],false);simp only[List.length_nil,Nat.zero_add]at this;exact this
theorem agf (l:List bD) (x:bD) (hl:l.length<=8):ba Tryz.prog 259 [.ro 7 (l.map bD.cs),.agg x.cs] (.aw 0 0 [] 7 0 (mb l x).length) [([],⟨7,(mb l x).map bD.cs,2,false⟩)]:=by
 refine aF Dl false Tryz.f259 ?_;conv=>enter[1];reduce
 refine bu Tryz.f259 45 [.tmp 4] (by kernel_rfl) (by decide +kernel) rfl ?_;have pK:l.length<=maxLen:=by unfold maxLen;omega
 refine au ?_;refine mj [(5,7)] (fun m z=>∃i,i<=l.length/\m=l.length - i/\z=⟨45,[(3,.ptr 3 0 [] 7 0 0),(5,.aw 5 0 [] 7 0 (mH x (l.take i)).1.length),(6,vB (mH x (l.take i)).2),(9,.ro 7 (l.map bD.cs)),(10,vI l.length),(11,vI i)],[(3,0,one ⟨7,[x.cs],0,false⟩),(5,0,one ⟨7,(mH x (l.take i)).1.map bD.cs,2,false⟩)],1⟩) l.length ?_ ?_
 ·refine au ?_;exact⟨0,aR _,rfl,rfl⟩
 rintro m z ⟨i,hi,rfl,rfl⟩;have hle:=Is x (l.take i);rw[List.length_take]at hle;rcases bp i l.length with ab|bM
 ·have ah:(i:Int)<(l.length:Int):=by omega
  have hg:l[i]?=some l[i]:=bm ab;have hw:=dx ab pK;have aD:=Oc (x:=x) ab;generalize l[i]=y at *;generalize mH x (l.take i)=S at *;obtain⟨out,put⟩:=S;unfold kS at aD;simp only at hle aD;have cQ:∀v,_:=fun v=>nh (L:=out.map bD.cs) (b:=56) (by rw[List.length_map];omega) (by omega) v
  have cN:∀c v,_:=fun c v=>nh (L:=out.map bD.cs++[c]) (b:=56) (by simp;omega) (by omega) v
  by_cases q2:y.bh=x.bh
  ·have f2:(y.bh != x.bh)=false:=by rw[bne_eq_false_iff_eq];exact q2
   have q1:y.bh>=x.bh:=by omega
   cases put with
   | true=>
    rw[if_neg (by simp),if_pos q2]at aD;refine Et ah hg hw q1 f2 ?_;exact⟨_,by omega,i+1,ab,rfl,by rw[aD]⟩
   | false=>
    rw[if_pos ⟨rfl,q1⟩,if_pos q2]at aD;refine yN ah hg hw q1 f2 cQ ?_;exact⟨_,by omega,i+1,ab,rfl,by rw[aD];simp only[gj];try rfl⟩
  have f2:(y.bh != x.bh)=true:=by rw[bne_iff_ne];exact q2
  cases put with
  | true=>
   rw[if_neg (by simp),if_neg q2]at aD;refine Et ah hg hw f2 cQ ?_;exact⟨_,by omega,i+1,ab,rfl,by rw[aD];simp only[gj];try rfl⟩
  | false=>
   by_cases q1:y.bh>=x.bh
   ·rw[if_pos ⟨rfl,q1⟩,if_neg q2]at aD;simp -implicitDefEqProofs only[go_sem,ah,hg,hw,q1,f2,cQ,cN,Bool.not_true,Bool.not_false,bb];exact⟨_,by omega,i+1,ab,rfl,by rw[aD];simp only[gj];try rfl⟩
   rw[if_neg (fun h=>q1 h.2),if_neg q2]at aD;refine yN ah hg hw q1 f2 cQ ?_;exact⟨_,by omega,i+1,ab,rfl,by rw[aD];simp only[gj];try rfl⟩
 have hi:i=l.length:=by omega
 subst hi;have ah:¬((l.length:Int)<(l.length:Int)):=by omega
 rw[List.take_length]at hle ⊢;unfold mb;generalize mH x l=S at *;obtain⟨out,put⟩:=S;simp only at hle;have cQ:∀v,_:=fun v=>nh (L:=out.map bD.cs) (b:=56) (by rw[List.length_map];omega) (by omega) v
 cases put with
 | true=>
  simp -implicitDefEqProofs only[go_sem,ah,Bool.not_true,aT,aV];all_goals
   simp only[gj,FG]
   first|done|exact⟨rfl,rfl⟩|exact⟨trivial,rfl⟩|exact⟨rfl,trivial⟩
 | false=>
  simp -implicitDefEqProofs only[go_sem,ah,cQ,Bool.not_false,aT,aV,Bool.false_eq_true];all_goals
   simp only[gj,FG]
   first|done|exact⟨rfl,rfl⟩|exact⟨trivial,rfl⟩|exact⟨rfl,trivial⟩
theorem aga (l:List bD) (x:bD) (hl:l.length<=8):aY Tryz.prog 274 [] [.ro 7 (l.map bD.cs),.agg x.cs] (.aZ [.aw 0 0 [] 7 0 (mb l x).length,vB (decide ((mb l x).length<=8))]) [(0,0,one ⟨7,(mb l x).map bD.cs,2,false⟩)]:=by
 refine aF Dl false Tryz.f274 ?_;conv=>enter[1];reduce
 refine bI Tryz.f274 57 [.tmp 4,.tmp 5] (by kernel_rfl) (by decide +kernel) rfl ?_;have pK:l.length<=maxLen:=by unfold maxLen;omega
 refine au ?_;refine dq (fun m z=>∃i,i<=l.length/\m=l.length - i/\z=⟨57,[(0,.ro 7 (l.map bD.cs)),(3,.ptr 3 0 [] 7 0 0),(6,.aw 6 0 [] 7 0 (mH x (l.take i)).1.length),(7,vB (mH x (l.take i)).2),(8,vI i)],[(3,0,one ⟨7,[x.cs],0,false⟩),(6,0,one ⟨7,(mH x (l.take i)).1.map bD.cs,2,false⟩)],1⟩) l.length ?_ ?_
 ·refine au ?_;exact⟨0,aR _,rfl,rfl⟩
 rintro m z ⟨i,hi,rfl,rfl⟩;have hle:=Is x (l.take i);rw[List.length_take]at hle;rcases bp i l.length with ab|bM
 ·have ah:(i:Int)<(l.length:Int):=by omega
  have hg:l[i]?=some l[i]:=bm ab;have hw:=dx ab pK;have aD:=Oc (x:=x) ab;generalize l[i]=y at *;generalize mH x (l.take i)=S at *;obtain⟨out,put⟩:=S;unfold kS at aD;simp only at hle aD;have cQ:∀v,_:=fun v=>nh (L:=out.map bD.cs) (b:=56) (by rw[List.length_map];omega) (by omega) v
  have cN:∀c v,_:=fun c v=>nh (L:=out.map bD.cs++[c]) (b:=56) (by simp;omega) (by omega) v
  by_cases q2:y.bh=x.bh
  ·have f2:(y.bh != x.bh)=false:=by rw[bne_eq_false_iff_eq];exact q2
   have q1:y.bh>=x.bh:=by omega
   cases put with
   | true=>
    rw[if_neg (by simp),if_pos q2]at aD;refine Et ah hg hw q1 f2 ?_;exact⟨_,by omega,i+1,ab,rfl,by rw[aD]⟩
   | false=>
    rw[if_pos ⟨rfl,q1⟩,if_pos q2]at aD;refine yN ah hg hw q1 f2 cQ ?_;exact⟨_,by omega,i+1,ab,rfl,by rw[aD];simp only[gj];try rfl⟩
  have f2:(y.bh != x.bh)=true:=by rw[bne_iff_ne];exact q2
  cases put with
  | true=>
   rw[if_neg (by simp),if_neg q2]at aD;refine Et ah hg hw f2 cQ ?_;exact⟨_,by omega,i+1,ab,rfl,by rw[aD];simp only[gj];try rfl⟩
  | false=>
   by_cases q1:y.bh>=x.bh
   ·rw[if_pos ⟨rfl,q1⟩,if_neg q2]at aD;simp -implicitDefEqProofs only[go_sem,ah,hg,hw,q1,f2,cQ,cN,Bool.not_true,Bool.not_false,bb];exact⟨_,by omega,i+1,ab,rfl,by rw[aD];simp only[gj];try rfl⟩
   rw[if_neg (fun h=>q1 h.2),if_neg q2]at aD;refine yN ah hg hw q1 f2 cQ ?_;exact⟨_,by omega,i+1,ab,rfl,by rw[aD];simp only[gj];try rfl⟩
 have hi:i=l.length:=by omega
 subst hi;have ah:¬((l.length:Int)<(l.length:Int)):=by omega
 rw[List.take_length]at hle ⊢;unfold mb;generalize mH x l=S at *;obtain⟨out,put⟩:=S;simp only at hle;have cQ:∀v,_:=fun v=>nh (L:=out.map bD.cs) (b:=56) (by rw[List.length_map];omega) (by omega) v
 cases put with
 | true=>
  simp -implicitDefEqProofs only[go_sem,ah,Bool.not_true,aT,aV];all_goals
   simp only[gj,FG]
   first|done|exact⟨rfl,rfl⟩|exact⟨trivial,rfl⟩|exact⟨rfl,trivial⟩
 | false=>
  simp -implicitDefEqProofs only[go_sem,ah,cQ,Bool.not_false,aT,aV,Bool.false_eq_true];all_goals
   simp only[gj,FG]
   first|done|exact⟨rfl,rfl⟩|exact⟨trivial,rfl⟩|exact⟨rfl,trivial⟩
def B4 (s:Int) (p:cg):aJ:=⟨6,s,0,p.size,p.root,0,[],[]⟩
def rk (me bh s:Int) (p:cg):aC:=⟨me,bh,gy (B4 s p)⟩
theorem Vc (me bh s:Int) (p:cg):ba Tryz.prog 258 [vI me,vI bh,vI s,.agg p.cs] (.agg (rk me bh s p).cs) []:=by
 refine aF Dl false Tryz.f258 ?_;conv=>enter[1];reduce
 refine bu Tryz.f258 18 [.cell 8 116] (by kernel_rfl) (by decide +kernel) rfl ?_;have hl:=Dv me bh (B4 s p) rfl rfl;refine au ?_;refine cT hl ?_;rfl
theorem U9 (me:Int) (x:bD) (h:x.pt.root.ok):ba Tryz.prog 273 [vI me,.agg x.cs] (.agg (rk me x.bh x.bU x.pt).cs) []:=by
 refine aF Dl false Tryz.f273 ?_;conv=>enter[1];reduce
 refine bu Tryz.f273 21 [.cell 4 116] (by kernel_rfl) (by decide +kernel) rfl ?_;have hl:=wL (B4 x.bU x.pt) rfl rfl h;refine au ?_;refine cT hl ?_;rfl
theorem MP (w:bz) (hl:w.aQ.length<=100):aY Tryz.prog 238 [] [w.ro] (.agg (w.cs (.aw 0 0 [] 7 0 w.aQ.length))) [(0,0,one ⟨7,w.aQ.map bD.cs,2,false⟩)]:=by
 refine aF Dl false Tryz.f238 ?_;conv=>enter[1];reduce
 refine bI Tryz.f238 26 [.cell 2 78] (by kernel_rfl) (by decide +kernel) rfl ?_;obtain⟨aH,l⟩:=w;simp only at hl;have pK:l.length<=maxLen:=by unfold maxLen;omega
 refine au ?_;refine dq (fun m z=>∃(i:Nat) (c:AV) (R:ak),(i<=l.length/\(i=0/\c=.aG/\R=[]\/0<i/\c=.aw 10003 0 [] 7 0 (l.take i).length/\R=[(10003,0,one ⟨7,(l.take i).map bD.cs,2,false⟩)]))/\m=l.length - i/\z=⟨26,[(1,.ptr 1 0 [] 15 0 0),(2,.ptr 2 0 [] 15 0 0),(3,.ptr 3 0 [] 15 0 0),(4,vI i)],[(1,0,one ⟨15,[bz.cs ⟨aH,l⟩ (.ro 7 (l.map bD.cs))],0,false⟩),(2,0,one ⟨15,[bz.cs ⟨qb,l⟩ .aG],0,false⟩),(3,0,one ⟨15,[bz.cs ⟨aH,l⟩ c],0,false⟩)]++R,1⟩) l.length ?_ ?_
 ·refine au ?_;exact⟨0,.aG,[],⟨aR _,.inl ⟨rfl,rfl,rfl⟩⟩,rfl,rfl⟩
 rintro m z ⟨i,c,R,⟨hi,hc⟩,rfl,rfl⟩;rcases bp i l.length with ab|bM
 ·have ah:(i:Int)<(l.length:Int):=by omega
  have hg:l[i]?=some l[i]:=bm ab;have hw:=dx ab pK;have dX:(l.take (i+1)).map bD.cs=(l.take i).map bD.cs++[l[i].cs]:=by rw[List.take_succ_eq_append_getElem ab,List.map_append];rfl
  have dY:(l.take (i+1)).length=(l.take i).length+1:=by rw[List.take_succ_eq_append_getElem ab,List.length_append];rfl
  have ha:∀v,_:=fun v=>nh (L:=(l.take i).map bD.cs) (b:=56) (by rw[List.length_map,List.length_take];omega) (by omega) v
  rcases hc with ⟨rfl,rfl,rfl⟩|⟨h0,rfl,rfl⟩
  ·have h1m:1<=maxLen:=by unfold maxLen;omega
   simp -implicitDefEqProofs only[go_sem,ah,hg,hw,h1m,aT,aV];refine⟨_,by omega,0+1,_,_,⟨ab,.inr ⟨by omega,rfl,rfl⟩⟩,rfl,?_⟩;rw[dX,dY];try simp only[List.length_append,List.length_map,List.length_cons,List.length_nil]
   rfl
  simp -implicitDefEqProofs only[go_sem,ah,hg,hw,ha,aT,aV];refine⟨_,by omega,i+1,_,_,⟨ab,.inr ⟨by omega,rfl,rfl⟩⟩,rfl,?_⟩;rw[dX,dY];try simp only[List.length_append,List.length_map,List.length_cons,List.length_nil]
  rfl
 have hi:i=l.length:=by omega
 subst hi;have ah:¬((l.length:Int)<(l.length:Int)):=by omega
 rcases hc with ⟨e0,rfl,rfl⟩|⟨h0,rfl,rfl⟩
 ·have:l=[]:=List.eq_nil_of_length_eq_zero e0;subst this;have Xg:¬(((0:Nat):Int)<((0:Nat):Int)):=by decide
  simp -implicitDefEqProofs only[go_sem,Xg,aT,aV]
 simp -implicitDefEqProofs only[go_sem,ah,List.take_length,aT,aV]
end Go.Proofs.YtobpfkgabdeefaaGreat.E
