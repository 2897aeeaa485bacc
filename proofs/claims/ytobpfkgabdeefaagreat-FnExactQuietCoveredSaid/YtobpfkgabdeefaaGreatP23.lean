/- Contracts: wishes put in; acknowledgements; witnesses copied. -/
import Derived.Test.YtobpfkgabdeefaaGreatP15
import Derived.Test.YtobpfkgabdeefaaGreatP11
namespace Go.Proofs.YtobpfkgabdeefaaGreat.E
open Go Go.RowKit
set_option maxHeartbeats 4000000
set_option maxRecDepth 10000
set_option linter.unusedSimpArgs false
set_option linter.unusedVariables false
set_option linter.unusedSectionVars false
def Dk:bX:=⟨[],[9,10,11],[24,26,30,44,47,50,51,52,57,58,59,62,76,88,138,185,186,187,253,254,297,311],false⟩
theorem mQ {L:List (List AV)}{b:Nat}(h:L.length≤9000) (hb:b≤1000) (v:List AV):(L++[v]).length≤maxLen∧(L++[v]).length * b≤140737488355328:=by
 rw[List.length_append];have e:L.length+[v].length≤9001:=by simp;omega
 have:=Nat.mul_le_mul e hb;unfold maxLen;omega
theorem FF {n:Nat}:decide ((n:Int)≤8)=decide (n≤8):=by simp only[decide_eq_decide];omega
def kF (x:bG) (st:List bG × Bool) (y:bG):List bG × Bool:=
 if st.2=false∧y.br≥x.br then(if y.br=x.br then(st.1++[x],true) else(st.1++[x]++[y],true)) else(if y.br=x.br then st else(st.1++[y],st.2))
def mg (x:bG) (l:List bG):List bG × Bool:=l.foldl (kF x) ([],false)
def lV (l:List bG) (x:bG):List bG:=if (mg x l).2 then(mg x l).1 else(mg x l).1++[x]
theorem Ot {x:bG}{l:List bG}{i:Nat}(h:i<l.length):mg x (l.take (i+1))=kF x (mg x (l.take i)) l[i]:=by
 unfold mg;rw[List.take_succ_eq_append_getElem h,List.foldl_append];rfl
theorem Xg (x:bG) (l:List bG):∀st:List bG × Bool,(l.foldl (kF x) st).1.length≤st.1.length+2 * l.length:=by
 induction l with
 | nil=>intro st;simp
 | cons a l ih=>
  intro st;have:=ih (kF x st a);simp only[List.foldl_cons,List.length_cons];have e:(kF x st a).1.length≤st.1.length+2:=by
   unfold kF;split
   ·split<;>simp
   split<;>simp
  omega
theorem Iv (x:bG) (l:List bG):(mg x l).1.length≤2 * l.length:=by
 have:=Xg x l ([],false);simp only[List.length_nil,Nat.zero_add]at this;exact this
theorem af7 (l:List bG) (x:bG) (hl:l.length≤8):aR Tryz.prog 259 [.ro 7 (l.map bG.cs),.agg x.cs] (.au 0 0 [] 7 0 (lV l x).length) [([],⟨7,(lV l x).map bG.cs,2,false⟩)]:=by
 refine aA Dk false Tryz.f259 ?_;conv=>enter[1];reduce
 refine bf Tryz.f259 45 [.tmp 4] (by kernel_rfl) (by decide +kernel) rfl ?_;have lI:l.length≤maxLen:=by unfold maxLen;omega
 refine aw ?_;refine jX [(5,7)] (fun m z=>∃i,i≤l.length∧m=l.length - i∧z=⟨45,[(3,.ptr 3 0 [] 7 0 0),(5,.au 5 0 [] 7 0 (mg x (l.take i)).1.length),(6,vB (mg x (l.take i)).2),(9,.ro 7 (l.map bG.cs)),(10,vI l.length),(11,vI i)],[(3,0,one ⟨7,[x.cs],0,false⟩),(5,0,one ⟨7,(mg x (l.take i)).1.map bG.cs,2,false⟩)],1⟩) l.length ?_ ?_
 ·refine aw ?_;exact⟨0,aQ _,rfl,rfl⟩
 rintro m z ⟨i,hi,rfl,rfl⟩;have hle:=Iv x (l.take i);rw[List.length_take]at hle;rcases bm i l.length with ab|bH
 ·have ae:(i:Int)<(l.length:Int):=by omega
  have hg:l[i]?=some l[i]:=bz ab;have hw:=df ab lI;have aE:=Ot (x:=x) ab;generalize l[i]=y at *;generalize mg x (l.take i)=S at *;obtain⟨out,put⟩:=S;unfold kF at aE;simp only at hle aE;have cN:∀v,_:=fun v=>mQ (L:=out.map bG.cs) (b:=56) (by rw[List.length_map];omega) (by omega) v
  have cA:∀c v,_:=fun c v=>mQ (L:=out.map bG.cs++[c]) (b:=56) (by simp;omega) (by omega) v
  by_cases q2:y.br=x.br
  ·have f2:(y.br != x.br)=false:=by rw[bne_eq_false_iff_eq];exact q2
   have q1:y.br≥x.br:=by omega
   cases put with
   | true=>
    rw[if_neg (by simp),if_pos q2]at aE;refine Ep ae hg hw q1 f2 ?_;exact⟨_,by omega,i+1,ab,rfl,by rw[aE]⟩
   | false=>
    rw[if_pos ⟨rfl,q1⟩,if_pos q2]at aE;refine yR ae hg hw q1 f2 cN ?_;exact⟨_,by omega,i+1,ab,rfl,by rw[aE];simp only[gj];try rfl⟩
  have f2:(y.br != x.br)=true:=by rw[bne_iff_ne];exact q2
  cases put with
  | true=>
   rw[if_neg (by simp),if_neg q2]at aE;refine Ep ae hg hw f2 cN ?_;exact⟨_,by omega,i+1,ab,rfl,by rw[aE];simp only[gj];try rfl⟩
  | false=>
   by_cases q1:y.br≥x.br
   ·rw[if_pos ⟨rfl,q1⟩,if_neg q2]at aE;simp -implicitDefEqProofs only[go_sem,ae,hg,hw,q1,f2,cN,cA,Bool.not_true,Bool.not_false,bc];exact⟨_,by omega,i+1,ab,rfl,by rw[aE];simp only[gj];try rfl⟩
   rw[if_neg (fun h=>q1 h.2),if_neg q2]at aE;refine yR ae hg hw q1 f2 cN ?_;exact⟨_,by omega,i+1,ab,rfl,by rw[aE];simp only[gj];try rfl⟩
 have hi:i=l.length:=by omega
 subst hi;have ae:¬((l.length:Int)<(l.length:Int)):=by omega
 rw[List.take_length]at hle ⊢;unfold lV;generalize mg x l=S at *;obtain⟨out,put⟩:=S;simp only at hle;have cN:∀v,_:=fun v=>mQ (L:=out.map bG.cs) (b:=56) (by rw[List.length_map];omega) (by omega) v
 cases put with
 | true=>
  simp -implicitDefEqProofs only[go_sem,ae,Bool.not_true,aZ,aY];all_goals
   simp only[gj,FF]
   first|done|exact⟨rfl,rfl⟩|exact⟨trivial,rfl⟩|exact⟨rfl,trivial⟩
 | false=>
  simp -implicitDefEqProofs only[go_sem,ae,cN,Bool.not_false,aZ,aY,Bool.false_eq_true];all_goals
   simp only[gj,FF]
   first|done|exact⟨rfl,rfl⟩|exact⟨trivial,rfl⟩|exact⟨rfl,trivial⟩
theorem af1 (l:List bG) (x:bG) (hl:l.length≤8):bb Tryz.prog 274 [] [.ro 7 (l.map bG.cs),.agg x.cs] (.ba [.au 0 0 [] 7 0 (lV l x).length,vB (decide ((lV l x).length≤8))]) [(0,0,one ⟨7,(lV l x).map bG.cs,2,false⟩)]:=by
 refine aA Dk false Tryz.f274 ?_;conv=>enter[1];reduce
 refine bT Tryz.f274 57 [.tmp 4,.tmp 5] (by kernel_rfl) (by decide +kernel) rfl ?_;have lI:l.length≤maxLen:=by unfold maxLen;omega
 refine aw ?_;refine cR (fun m z=>∃i,i≤l.length∧m=l.length - i∧z=⟨57,[(0,.ro 7 (l.map bG.cs)),(3,.ptr 3 0 [] 7 0 0),(6,.au 6 0 [] 7 0 (mg x (l.take i)).1.length),(7,vB (mg x (l.take i)).2),(8,vI i)],[(3,0,one ⟨7,[x.cs],0,false⟩),(6,0,one ⟨7,(mg x (l.take i)).1.map bG.cs,2,false⟩)],1⟩) l.length ?_ ?_
 ·refine aw ?_;exact⟨0,aQ _,rfl,rfl⟩
 rintro m z ⟨i,hi,rfl,rfl⟩;have hle:=Iv x (l.take i);rw[List.length_take]at hle;rcases bm i l.length with ab|bH
 ·have ae:(i:Int)<(l.length:Int):=by omega
  have hg:l[i]?=some l[i]:=bz ab;have hw:=df ab lI;have aE:=Ot (x:=x) ab;generalize l[i]=y at *;generalize mg x (l.take i)=S at *;obtain⟨out,put⟩:=S;unfold kF at aE;simp only at hle aE;have cN:∀v,_:=fun v=>mQ (L:=out.map bG.cs) (b:=56) (by rw[List.length_map];omega) (by omega) v
  have cA:∀c v,_:=fun c v=>mQ (L:=out.map bG.cs++[c]) (b:=56) (by simp;omega) (by omega) v
  by_cases q2:y.br=x.br
  ·have f2:(y.br != x.br)=false:=by rw[bne_eq_false_iff_eq];exact q2
   have q1:y.br≥x.br:=by omega
   cases put with
   | true=>
    rw[if_neg (by simp),if_pos q2]at aE;refine Ep ae hg hw q1 f2 ?_;exact⟨_,by omega,i+1,ab,rfl,by rw[aE]⟩
   | false=>
    rw[if_pos ⟨rfl,q1⟩,if_pos q2]at aE;refine yR ae hg hw q1 f2 cN ?_;exact⟨_,by omega,i+1,ab,rfl,by rw[aE];simp only[gj];try rfl⟩
  have f2:(y.br != x.br)=true:=by rw[bne_iff_ne];exact q2
  cases put with
  | true=>
   rw[if_neg (by simp),if_neg q2]at aE;refine Ep ae hg hw f2 cN ?_;exact⟨_,by omega,i+1,ab,rfl,by rw[aE];simp only[gj];try rfl⟩
  | false=>
   by_cases q1:y.br≥x.br
   ·rw[if_pos ⟨rfl,q1⟩,if_neg q2]at aE;simp -implicitDefEqProofs only[go_sem,ae,hg,hw,q1,f2,cN,cA,Bool.not_true,Bool.not_false,bc];exact⟨_,by omega,i+1,ab,rfl,by rw[aE];simp only[gj];try rfl⟩
   rw[if_neg (fun h=>q1 h.2),if_neg q2]at aE;refine yR ae hg hw q1 f2 cN ?_;exact⟨_,by omega,i+1,ab,rfl,by rw[aE];simp only[gj];try rfl⟩
 have hi:i=l.length:=by omega
 subst hi;have ae:¬((l.length:Int)<(l.length:Int)):=by omega
 rw[List.take_length]at hle ⊢;unfold lV;generalize mg x l=S at *;obtain⟨out,put⟩:=S;simp only at hle;have cN:∀v,_:=fun v=>mQ (L:=out.map bG.cs) (b:=56) (by rw[List.length_map];omega) (by omega) v
 cases put with
 | true=>
  simp -implicitDefEqProofs only[go_sem,ae,Bool.not_true,aZ,aY];all_goals
   simp only[gj,FF]
   first|done|exact⟨rfl,rfl⟩|exact⟨trivial,rfl⟩|exact⟨rfl,trivial⟩
 | false=>
  simp -implicitDefEqProofs only[go_sem,ae,cN,Bool.not_false,aZ,aY,Bool.false_eq_true];all_goals
   simp only[gj,FF]
   first|done|exact⟨rfl,rfl⟩|exact⟨trivial,rfl⟩|exact⟨rfl,trivial⟩
def B9 (s:Int) (p:bh):aM:=⟨6,s,0,p.size,p.root,0,[],[]⟩
def qU (me br s:Int) (p:bh):aB:=⟨me,br,i6 (B9 s p)⟩
theorem Vb (me br s:Int) (p:bh):aR Tryz.prog 258 [vI me,vI br,vI s,.agg p.cs] (.agg (qU me br s p).cs) []:=by
 refine aA Dk false Tryz.f258 ?_;conv=>enter[1];reduce
 refine bf Tryz.f258 18 [.cell 8 116] (by kernel_rfl) (by decide +kernel) rfl ?_;have hl:=Dz me br (B9 s p) rfl rfl;refine aw ?_;refine cz hl ?_;rfl
theorem U7 (me:Int) (x:bG) (h:x.pt.root.ok):aR Tryz.prog 273 [vI me,.agg x.cs] (.agg (qU me x.br x.bR x.pt).cs) []:=by
 refine aA Dk false Tryz.f273 ?_;conv=>enter[1];reduce
 refine bf Tryz.f273 21 [.cell 4 116] (by kernel_rfl) (by decide +kernel) rfl ?_;have hl:=yT (B9 x.bR x.pt) rfl rfl h;refine aw ?_;refine cz hl ?_;rfl
theorem M4 (w:bE) (hl:w.aS.length≤100):bb Tryz.prog 238 [] [w.ro] (.agg (w.cs (.au 0 0 [] 7 0 w.aS.length))) [(0,0,one ⟨7,w.aS.map bG.cs,2,false⟩)]:=by
 refine aA Dk false Tryz.f238 ?_;conv=>enter[1];reduce
 refine bT Tryz.f238 26 [.cell 2 78] (by kernel_rfl) (by decide +kernel) rfl ?_;obtain⟨aH,l⟩:=w;simp only at hl;have lI:l.length≤maxLen:=by unfold maxLen;omega
 refine aw ?_;refine cR (fun m z=>∃(i:Nat) (c:AV) (R:aj),(i≤l.length∧(i=0∧c=.aG∧R=[]∨0<i∧c=.au 10003 0 [] 7 0 (l.take i).length∧R=[(10003,0,one ⟨7,(l.take i).map bG.cs,2,false⟩)]))∧m=l.length - i∧z=⟨26,[(1,.ptr 1 0 [] 15 0 0),(2,.ptr 2 0 [] 15 0 0),(3,.ptr 3 0 [] 15 0 0),(4,vI i)],[(1,0,one ⟨15,[bE.cs ⟨aH,l⟩ (.ro 7 (l.map bG.cs))],0,false⟩),(2,0,one ⟨15,[bE.cs ⟨pN,l⟩ .aG],0,false⟩),(3,0,one ⟨15,[bE.cs ⟨aH,l⟩ c],0,false⟩)]++R,1⟩) l.length ?_ ?_
 ·refine aw ?_;exact⟨0,.aG,[],⟨aQ _,.inl ⟨rfl,rfl,rfl⟩⟩,rfl,rfl⟩
 rintro m z ⟨i,c,R,⟨hi,hc⟩,rfl,rfl⟩;rcases bm i l.length with ab|bH
 ·have ae:(i:Int)<(l.length:Int):=by omega
  have hg:l[i]?=some l[i]:=bz ab;have hw:=df ab lI;have dR:(l.take (i+1)).map bG.cs=(l.take i).map bG.cs++[l[i].cs]:=by rw[List.take_succ_eq_append_getElem ab,List.map_append];rfl
  have dW:(l.take (i+1)).length=(l.take i).length+1:=by rw[List.take_succ_eq_append_getElem ab,List.length_append];rfl
  have ha:∀v,_:=fun v=>mQ (L:=(l.take i).map bG.cs) (b:=56) (by rw[List.length_map,List.length_take];omega) (by omega) v
  rcases hc with ⟨rfl,rfl,rfl⟩|⟨h0,rfl,rfl⟩
  ·have h1m:1≤maxLen:=by unfold maxLen;omega
   simp -implicitDefEqProofs only[go_sem,ae,hg,hw,h1m,aZ,aY];refine⟨_,by omega,0+1,_,_,⟨ab,.inr ⟨by omega,rfl,rfl⟩⟩,rfl,?_⟩;rw[dR,dW];try simp only[List.length_append,List.length_map,List.length_cons,List.length_nil]
   rfl
  simp -implicitDefEqProofs only[go_sem,ae,hg,hw,ha,aZ,aY];refine⟨_,by omega,i+1,_,_,⟨ab,.inr ⟨by omega,rfl,rfl⟩⟩,rfl,?_⟩;rw[dR,dW];try simp only[List.length_append,List.length_map,List.length_cons,List.length_nil]
  rfl
 have hi:i=l.length:=by omega
 subst hi;have ae:¬((l.length:Int)<(l.length:Int)):=by omega
 rcases hc with ⟨e0,rfl,rfl⟩|⟨h0,rfl,rfl⟩
 ·have:l=[]:=List.eq_nil_of_length_eq_zero e0;subst this;have W8:¬(((0:Nat):Int)<((0:Nat):Int)):=by decide
  simp -implicitDefEqProofs only[go_sem,W8,aZ,aY]
 simp -implicitDefEqProofs only[go_sem,ae,List.take_length,aZ,aY]
end Go.Proofs.YtobpfkgabdeefaaGreat.E
