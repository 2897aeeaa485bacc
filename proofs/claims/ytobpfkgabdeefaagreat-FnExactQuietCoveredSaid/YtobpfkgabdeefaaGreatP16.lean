/- Contracts: trees; Nodes of a growth, in plain lists: what falls into old and new; the old ones are the peaks; how many there are; Contracts: growths, in the program: what falls into old nodes and new ones -/
import Derived.Test.YtobpfkgabdeefaaGreatP10
import Derived.Test.YtobpfkgabdeefaaGreatP7
import Derived.Test.YtobpfkgabdeefaaGreatP11
namespace Go.Proofs.YtobpfkgabdeefaaGreat.E
open Go Go.RowKit
set_option linter.unusedVariables false
section
set_option maxHeartbeats 4000000
set_option maxRecDepth 10000
set_option linter.unusedSimpArgs false
set_option linter.unusedSectionVars false
def vG:bX:=⟨[],[9,10,11],[24,26,30,44,47,50,51,52,57,58,59,62,76,88,138,185,186,187,253,254,297,311],false⟩
def eF (l:List ByteArray):Bool:=decide ((l.length:Int)≤256)&&dX l
def cB (n:Nat):Nat:=2 ^ (n - 1).log2
theorem O9 {n j:Nat}(h1:2 ^ j<n) (h2:n≤2 * 2 ^ j):cB n=2 ^ j:=by
 unfold cB;rw[(Nat.log2_eq_iff (k:=j) (by omega)).2 ⟨by omega,by rw[Nat.pow_succ];omega⟩]
theorem og {n:Nat}(h:2≤n):1≤cB n∧cB n<n:=by
 have h1:n - 1≠0:=by omega
 have:=(Nat.log2_eq_iff (k:=(n - 1).log2) h1).1 rfl;have h3:0<2 ^ (n - 1).log2:=Nat.pow_pos (by omega);unfold cB;omega
theorem U4 (n:Nat) (h:2≤n) (h2:n≤256):aR Tryz.prog 284 [vI n] (vI (cB n)) []:=by
 refine aA vG false Tryz.f284 ?_;conv=>enter[1];reduce
 refine bf Tryz.f284 14 [.tmp 2] (by kernel_rfl) (by decide +kernel) rfl ?_;refine aw ?_;refine aq.intro (dG _ _ _) ?_;have cc:aT (n:Int) 2 256=true:=by simp[aT];omega
 refine uH cc ?_;refine cR (fun m s=>∃j:Nat,2 ^ j<n∧m=n - 2 ^ j∧s=⟨14,[(0,vI n),(3,vI ((2 ^ j:Nat):Int))],[],1⟩) (n - 1) ?_ ?_
 ·refine aw ?_;exact⟨0,by simp;omega,rfl,rfl⟩
 rintro m s ⟨j,hj,rfl,rfl⟩;have e:2 ^ (j+1)=2 * 2 ^ j:=by rw[Nat.pow_succ];omega
 have hp:0<2 ^ j:=Nat.pow_pos (by omega);have hS:=fun h2=>O9 (n:=n) (j:=j) hj h2
 generalize hq:2 ^ j=q at *;have w1:IntKind.i64.wrap (2 * (q:Int))=((2 * q:Nat):Int):=by rw[aV (by omega)];omega
 have w2:IntKind.i64.wrap ((q:Int) * 2)=((2 * q:Nat):Int):=by rw[aV (by omega)];omega
 rcases bm (2 * q) n with ab|bH
 ·have ae:((2 * q:Nat):Int)<(n:Int):=by omega
  refine ez w1 ae w2 ?_;exact⟨_,by omega,j+1,by omega,rfl,by rw[e]⟩
 have ae:¬((2 * q:Nat):Int)<(n:Int):=by omega
 refine cg w1 ae ?_;rw[hS (by omega)]
theorem HM (n:Nat) (h:2≤n) (h2:n≤256):aR Tryz.prog 141 [vI n] (vI (cB n)) []:=by
 refine aA vG false Tryz.f141 ?_;conv=>enter[1];reduce
 refine bf Tryz.f141 14 [.tmp 2] (by kernel_rfl) (by decide +kernel) rfl ?_;refine aw ?_;refine aq.intro (e9 _ _ _) ?_;have cc:aT (n:Int) 2 256=true:=by simp[aT];omega
 refine uH cc ?_;refine cR (fun m s=>∃j:Nat,2 ^ j<n∧m=n - 2 ^ j∧s=⟨14,[(0,vI n),(3,vI ((2 ^ j:Nat):Int))],[],1⟩) (n - 1) ?_ ?_
 ·refine aw ?_;exact⟨0,by simp;omega,rfl,rfl⟩
 rintro m s ⟨j,hj,rfl,rfl⟩;have e:2 ^ (j+1)=2 * 2 ^ j:=by rw[Nat.pow_succ];omega
 have hp:0<2 ^ j:=Nat.pow_pos (by omega);have hS:=fun h2=>O9 (n:=n) (j:=j) hj h2
 generalize hq:2 ^ j=q at *;have w1:IntKind.i64.wrap (2 * (q:Int))=((2 * q:Nat):Int):=by rw[aV (by omega)];omega
 have w2:IntKind.i64.wrap ((q:Int) * 2)=((2 * q:Nat):Int):=by rw[aV (by omega)];omega
 rcases bm (2 * q) n with ab|bH
 ·have ae:((2 * q:Nat):Int)<(n:Int):=by omega
  refine ez w1 ae w2 ?_;exact⟨_,by omega,j+1,by omega,rfl,by rw[e]⟩
 have ae:¬((2 * q:Nat):Int)<(n:Int):=by omega
 refine cg w1 ae ?_;rw[hS (by omega)]
def fC (l:List ByteArray):BD:=
 match l with
 | []=>fY []
 | [a]=>CR a
 | a::b::l=>rh (fC ((a::b::l).take (cB (l.length+2)))) (fC ((a::b::l).drop (cB (l.length+2))))
termination_by l.length
decreasing_by
 all_goals
  have:=og (n:=l.length+2) (by omega)
  simp only[List.length_take,List.length_drop,List.length_cons]
  omega
theorem Aw (l:List ByteArray) (hl:l.length≤maxLen):aR Tryz.prog 158 [.ro 1 (l.map cY)] (vB (eF l)) []:=by
 refine aA vG false Tryz.f158 ?_;conv=>enter[1];reduce
 refine bf Tryz.f158 18 [.tmp 2] (by kernel_rfl) (by decide +kernel) rfl ?_;unfold eF;refine aw ?_;refine cR (fun m s=>∃i:Nat,i≤l.length∧m=l.length - i∧dX (l.drop i)=dX l∧s=⟨18,[(0,.ro 1 (l.map cY)),(5,.ro 1 (l.map cY)),(6,vI l.length),(7,vI i)],[],1⟩) l.length ?_ ?_
 ·refine aw ?_;exact⟨0,aQ _,rfl,rfl,rfl⟩
 rintro m s ⟨i,hi,rfl,hx,rfl⟩;rcases bm i l.length with ab|bH
 ·have ae:(i:Int)<(l.length:Int):=by omega
  have hg:l[i]?=some l[i]:=bz ab;have hw:=df ab hl;rw[F5 ab]at hx;refine cg ae hg ?_;refine b8 (fun h=>?_) (fun h=>?_)
  ·refine aC h ?_;have:¬l[i].size≤40:=by have:=of_decide_eq_true h;omega
   rw[←hx];simp[this]
  refine cg h hw ?_;have:l[i].size≤40:=by have:=of_decide_eq_false h;omega
  exact⟨_,by omega,i+1,ab,rfl,by rw[←hx];simp[this],rfl⟩
 have hi:i=l.length:=by omega
 subst hi;have ae:¬((l.length:Int)<(l.length:Int)):=by omega
 rw[List.drop_length]at hx;refine aC ae ?_;rw[←hx];simp[dX]
theorem yD (l:List ByteArray) (hl:l.length≤maxLen):aR Tryz.prog 37 [.ro 1 (l.map cY)] (vB (eF l)) []:=by
 refine aA vG false Tryz.f37 ?_;conv=>enter[1];reduce
 refine bf Tryz.f37 19 [.tmp 2] (by kernel_rfl) (by decide +kernel) rfl ?_;unfold eF;refine aw ?_;refine b8 (fun h=>?_) (fun h=>?_)
 ·refine aC h ?_;have:¬l.length≤256:=by have:=of_decide_eq_true h;omega
  simp;omega
 have CU:l.length≤256:=by have:=of_decide_eq_false h;omega
 refine aC h ?_;refine cR (fun m s=>∃i:Nat,i≤l.length∧m=l.length - i∧dX (l.drop i)=dX l∧s=⟨19,[(0,.ro 1 (l.map cY)),(3,vI i)],[],1⟩) l.length ?_ ?_
 ·refine aw ?_;exact⟨0,aQ _,rfl,rfl,rfl⟩
 rintro m s ⟨i,hi,rfl,hx,rfl⟩;have h2:(l.length:Int)≤256:=by omega
 rcases bm i l.length with ab|bH
 ·have ae:(i:Int)<(l.length:Int):=by omega
  have hg:l[i]?=some l[i]:=bz ab;have hw:=df ab hl;rw[F5 ab]at hx;refine cg ae hg ?_;refine b8 (fun h=>?_) (fun h=>?_)
  ·refine aC h ?_;have:¬l[i].size≤40:=by have:=of_decide_eq_true h;omega
   rw[←hx];simp[this]
  refine cg h hw ?_;have:l[i].size≤40:=by have:=of_decide_eq_false h;omega
  exact⟨_,by omega,i+1,ab,rfl,by rw[←hx];simp[this],rfl⟩
 have hi:i=l.length:=by omega
 subst hi;have ae:¬((l.length:Int)<(l.length:Int)):=by omega
 rw[List.drop_length]at hx;refine aC ae ?_;rw[←hx];simp[dX];omega
theorem gI {l:List ByteArray}(h:eF l=true):l.length≤256∧∀b∈l,b.size≤40:=by
 simp only[eF,Bool.and_eq_true,decide_eq_true_eq,dX,List.all_eq_true]at h;exact⟨by omega,h.2⟩
theorem Rs {l:List ByteArray}(h:2≤l.length):fC l=rh (fC (l.take (cB l.length))) (fC (l.drop (cB l.length))):=by
 match l,h with
 | a::b::l,_=>rw[fC];rfl
theorem z0:((0:Nat):Int)=0:=rfl
theorem z1:((1:Nat):Int)=1:=rfl
theorem MZ:∀(n:Nat) (l:List ByteArray),l.length≤n→l.length≤256→(∀b∈l,b.size≤1000)→aR Tryz.prog 255 [.ro 1 (l.map cY)] (.agg (fC l).cs) []
 | 0,l,hn,h2,hb=>by
  have:l=[]:=List.eq_nil_of_length_eq_zero (by omega);subst this;refine aA vG false Tryz.f255 ?_;conv=>enter[1];reduce
  refine bf Tryz.f255 27 [.cell 2 39] (by kernel_rfl) (by decide +kernel) rfl ?_;have h0:=vN ⟨#[]⟩ (by decide);refine aC z0 ?_;refine aq.intro h0 ?_;simp -implicitDefEqProofs only[go_sem,fC];try rfl
 | n+1,l,hn,h2,hb=>by
  refine aA vG false Tryz.f255 ?_;conv=>enter[1];reduce
  refine bf Tryz.f255 27 [.cell 2 39] (by kernel_rfl) (by decide +kernel) rfl ?_
  match l,hn,h2,hb with
  | [],_,_,_=>
   have h0:=vN ⟨#[]⟩ (by decide);refine aC z0 ?_;refine aq.intro h0 ?_;simp -implicitDefEqProofs only[go_sem,fC];try rfl
  | [a],_,_,hb=>
   have ha:=hb a (by simp);refine aC z1 ?_;refine aq.intro (afV a (by omega)) ?_;simp -implicitDefEqProofs only[go_sem,fC]
  | a::b::l,hn,h2,hb=>
   obtain⟨L,hL⟩:∃L,a::b::l=L:=⟨_,rfl⟩;rw[hL]at hn h2 hb ⊢;have h3:2≤L.length:=by rw[←hL];simp
   rw[Rs h3];have hs:=og h3;have e0:((L.length:Int)==0)=false:=by rw[beq_eq_false_iff_ne];omega
   have e1:((L.length:Int)==1)=false:=by rw[beq_eq_false_iff_ne];omega
   have l1:(L.take (cB L.length)).length≤n∧(L.take (cB L.length)).length≤256:=by rw[List.length_take];omega
   have l2:(L.drop (cB L.length)).length≤n∧(L.drop (cB L.length)).length≤256:=by rw[List.length_drop];omega
   have hT:=MZ n (L.take (cB L.length)) l1.1 l1.2 (fun b h=>hb b (List.mem_of_mem_take h));have hD:=MZ n (L.drop (cB L.length)) l2.1 l2.2 (fun b h=>hb b (List.mem_of_mem_drop h));refine Eu e0 e1 ?_;refine aq.intro (U4 L.length h3 h2) ?_;generalize cB L.length=k at *;have k1:(0:Int)≤(k:Int)∧(k:Int)≤(L.length:Int):=by omega
   have k2:(k:Int)≤(L.length:Int)∧(L.length:Int)≤(L.length:Int):=by omega
   have k3:List.take (L.length - k) (List.drop k L)=List.drop k L:=List.take_of_length_le (by simp);simp -implicitDefEqProofs only[go_sem,k1,k2,k3,Nat.sub_zero,List.drop_zero];refine cz hT ?_;refine cz hD ?_;refine aq.intro (MV _ _) ?_;exact dt
theorem HD (l:List ByteArray) (h:eF l=true):aR Tryz.prog 255 [.ro 1 (l.map cY)] (.agg (fC l).cs) []:=by
 obtain⟨h1,h2⟩:=gI h;exact MZ l.length l (Nat.le_refl _) h1 fun b hb=>by have:=h2 b hb;omega
theorem MH:∀(n:Nat) (l:List ByteArray),l.length≤n→l.length≤256→(∀b∈l,b.size≤1000)→aR Tryz.prog 83 [.ro 1 (l.map cY)] (.agg (fC l).cs) []
 | 0,l,hn,h2,hb=>by
  have:l=[]:=List.eq_nil_of_length_eq_zero (by omega);subst this;refine aA vG false Tryz.f83 ?_;conv=>enter[1];reduce
  refine bf Tryz.f83 27 [.cell 2 39] (by kernel_rfl) (by decide +kernel) rfl ?_;have h0:=vO ⟨#[]⟩ (by decide);refine aC z0 ?_;refine aq.intro h0 ?_;simp -implicitDefEqProofs only[go_sem,fC];try rfl
 | n+1,l,hn,h2,hb=>by
  refine aA vG false Tryz.f83 ?_;conv=>enter[1];reduce
  refine bf Tryz.f83 27 [.cell 2 39] (by kernel_rfl) (by decide +kernel) rfl ?_
  match l,hn,h2,hb with
  | [],_,_,_=>
   have h0:=vO ⟨#[]⟩ (by decide);refine aC z0 ?_;refine aq.intro h0 ?_;simp -implicitDefEqProofs only[go_sem,fC];try rfl
  | [a],_,_,hb=>
   have ha:=hb a (by simp);refine aC z1 ?_;refine aq.intro (agH a (by omega)) ?_;simp -implicitDefEqProofs only[go_sem,fC]
  | a::b::l,hn,h2,hb=>
   obtain⟨L,hL⟩:∃L,a::b::l=L:=⟨_,rfl⟩;rw[hL]at hn h2 hb ⊢;have h3:2≤L.length:=by rw[←hL];simp
   rw[Rs h3];have hs:=og h3;have e0:((L.length:Int)==0)=false:=by rw[beq_eq_false_iff_ne];omega
   have e1:((L.length:Int)==1)=false:=by rw[beq_eq_false_iff_ne];omega
   have l1:(L.take (cB L.length)).length≤n∧(L.take (cB L.length)).length≤256:=by rw[List.length_take];omega
   have l2:(L.drop (cB L.length)).length≤n∧(L.drop (cB L.length)).length≤256:=by rw[List.length_drop];omega
   have hT:=MH n (L.take (cB L.length)) l1.1 l1.2 (fun b h=>hb b (List.mem_of_mem_take h));have hD:=MH n (L.drop (cB L.length)) l2.1 l2.2 (fun b h=>hb b (List.mem_of_mem_drop h));refine Eu e0 e1 ?_;refine aq.intro (HM L.length h3 h2) ?_;generalize cB L.length=k at *;have k1:(0:Int)≤(k:Int)∧(k:Int)≤(L.length:Int):=by omega
   have k2:(k:Int)≤(L.length:Int)∧(L.length:Int)≤(L.length:Int):=by omega
   have k3:List.take (L.length - k) (List.drop k L)=List.drop k L:=List.take_of_length_le (by simp);simp -implicitDefEqProofs only[go_sem,k1,k2,k3,Nat.sub_zero,List.drop_zero];refine cz hT ?_;refine cz hD ?_;refine aq.intro (Nh _ _) ?_;exact dt
theorem Dv (l:List ByteArray) (h:eF l=true):aR Tryz.prog 83 [.ro 1 (l.map cY)] (.agg (fC l).cs) []:=by
 obtain⟨h1,h2⟩:=gI h;exact MH l.length l (Nat.le_refl _) h1 fun b hb=>by have:=h2 b hb;omega
end
theorem IW {α:Type}{l:List α}{i:Nat}(h:i<l.length):l.take (i+1)=l.take i++[l[i]]:=List.take_succ_eq_append_getElem h
theorem Kh {l:List ByteArray}(h:eF l=true) (n:Nat):eF (l.take n)=true:=by
 obtain⟨h1,h2⟩:=gI h;simp only[eF,Bool.and_eq_true,decide_eq_true_eq,dX,List.all_eq_true,List.length_take];exact⟨by omega,fun b hb=>h2 b (List.mem_of_mem_take hb)⟩
def half (n:Nat):Nat:=2 ^ n.log2
theorem S2 {n j:Nat}(h1:2 ^ j≤n) (h2:n<2 * 2 ^ j):half n=2 ^ j:=by
 have:0<2 ^ j:=Nat.pow_pos (by omega);unfold half;rw[(Nat.log2_eq_iff (k:=j) (by omega)).2 ⟨h1,by rw[Nat.pow_succ];omega⟩]
theorem z8 {n:Nat}(h:1≤n):1≤half n∧half n≤n∧n<2 * half n:=by
 have h1:n≠0:=by omega
 have:=(Nat.log2_eq_iff (k:=n.log2) h1).1 rfl;have h3:0<2 ^ n.log2:=Nat.pow_pos (by omega);unfold half;rw[Nat.pow_succ]at this;omega
theorem YF {n:Nat}(h:2≤n):n≤2 * cB n:=by
 have h1:n - 1≠0:=by omega
 have:=(Nat.log2_eq_iff (k:=(n - 1).log2) h1).1 rfl;unfold cB;rw[Nat.pow_succ]at this;omega
abbrev Nd:=Nat × Nat
def gN (m:Nat):Nat→Nat→Nat→List Nd × List Nd
 | 0,_,_=>([],[])
 | k+1,lo,hi=>
  if hi≤m then([(lo,hi)],[])
  else if m≤lo then([],[(lo,hi)])
  else((gN m k lo (lo+cB (hi - lo))).1++(gN m k (lo+cB (hi - lo)) hi).1,(gN m k lo (lo+cB (hi - lo))).2++(gN m k (lo+cB (hi - lo)) hi).2)
theorem qt {m k lo hi:Nat}(h:hi≤m):gN m (k+1) lo hi=([(lo,hi)],[]):=by rw[gN,if_pos h]
theorem pD {m k lo hi:Nat}(h1:¬hi≤m) (h:m≤lo):gN m (k+1) lo hi=([],[(lo,hi)]):=by rw[gN,if_neg h1,if_pos h]
theorem qu {m k lo hi:Nat}(h1:¬hi≤m) (h:¬m≤lo):gN m (k+1) lo hi=((gN m k lo (lo+cB (hi - lo))).1++(gN m k (lo+cB (hi - lo)) hi).1,(gN m k lo (lo+cB (hi - lo))).2++(gN m k (lo+cB (hi - lo)) hi).2):=by rw[gN,if_neg h1,if_neg h]
theorem vu {m:Nat}:∀(k lo hi:Nat),lo<hi→hi - lo≤k→∀x,x∈(gN m k lo hi).1∨x∈(gN m k lo hi).2→lo≤x.1∧x.1<x.2∧x.2≤hi
 | 0,lo,hi,h,hk,x,hx=>by omega
 | k+1,lo,hi,h,hk,x,hx=>by
  by_cases h1:hi≤m
  ·rw[qt h1]at hx;simp at hx;subst hx;exact⟨Nat.le_refl _,h,Nat.le_refl _⟩
  by_cases h2:m≤lo
  ·rw[pD h1 h2]at hx;simp at hx;subst hx;exact⟨Nat.le_refl _,h,Nat.le_refl _⟩
  rw[qu h1 h2]at hx;have hs:=og (n:=hi - lo) (by omega);have a:=vu (m:=m) k lo (lo+cB (hi - lo)) (by omega) (by omega) x;have b:=vu (m:=m) k (lo+cB (hi - lo)) hi (by omega) (by omega) x;simp only[List.mem_append]at hx;rcases hx with (hx|hx)|(hx|hx)
  ·have:=a (.inl hx);omega
  ·have:=b (.inl hx);omega
  ·have:=a (.inr hx);omega
  have:=b (.inr hx);omega
theorem pE {m:Nat}:∀(k lo hi:Nat),lo<hi→hi - lo≤k→(gN m k lo hi).1.length≤hi - lo∧(gN m k lo hi).2.length≤hi - lo
 | 0,lo,hi,h,hk=>by omega
 | k+1,lo,hi,h,hk=>by
  by_cases h1:hi≤m
  ·rw[qt h1];simp;omega
  by_cases h2:m≤lo
  ·rw[pD h1 h2];simp;omega
  rw[qu h1 h2];have hs:=og (n:=hi - lo) (by omega);have a:=pE (m:=m) k lo (lo+cB (hi - lo)) (by omega) (by omega);have b:=pE (m:=m) k (lo+cB (hi - lo)) hi (by omega) (by omega);simp only[List.length_append];omega
def fU:Nat→Nat→Nat→List Nd
 | 0,_,_=>[]
 | k+1,lo,m=>if lo<m then(lo,lo+half (m - lo))::fU k (lo+half (m - lo)) m else []
theorem uP {k lo m:Nat}(h:m≤lo):fU k lo m=[]:=by
 cases k with
 | zero=>rfl
 | succ k=>rw[fU,if_neg (by omega)]
theorem CZ {m:Nat}:∀(k j lo hi:Nat),lo<m→m<hi→hi - lo≤k→m - lo≤j→(gN m k lo hi).1=fU j lo m
 | 0,j,lo,hi,h1,h2,hk,hj=>by omega
 | k+1,0,lo,hi,h1,h2,hk,hj=>by omega
 | k+1,j+1,lo,hi,h1,h2,hk,hj=>by
  rw[qu (by omega) (by omega)];have hs:=og (n:=hi - lo) (by omega);have hu:=YF (n:=hi - lo) (by omega);obtain⟨e,he⟩:∃e,cB (hi - lo)=2 ^ e:=⟨_,rfl⟩;by_cases hm:m<lo+cB (hi - lo)
  ·rw[CZ k (j+1) lo (lo+cB (hi - lo)) h1 hm (by omega) hj];cases k with
   | zero=>omega
   | succ k=>rw[pD (by omega) (by omega)];simp
  have hh:half (m - lo)=cB (hi - lo):=by
   have cM:=hu;have hm':=hm;rw[he]at cM hm' ⊢;exact S2 (by omega) (by omega)
  rw[fU,if_pos h1,hh];cases k with
  | zero=>omega
  | succ k=>
   rw[qt (m:=m) (lo:=lo) (by omega)];by_cases heq:m=lo+cB (hi - lo)
   ·rw[pD (by omega) (by omega),uP (by omega)];rfl
   rw[CZ (k+1) j (lo+cB (hi - lo)) hi (by omega) h2 (by omega) (by omega)];rfl
def fT:Nat→Nat→Nat
 | 0,_=>0
 | k+1,n=>n%2+fT k (n/2)
theorem BF:∀k,fT k 0=0
 | 0=>rfl
 | k+1=>by rw[fT,BF k]
theorem Qc:∀(j k r:Nat),r<2 ^ j→j<k→fT k (2 ^ j+r)=1+fT k r
 | j,0,r,h,hk=>by omega
 | 0,k+1,r,h,hk=>by
  have:r=0:=by simp at h;omega
  subst this;simp[fT,BF]
 | j+1,k+1,r,h,hk=>by
  rw[Nat.pow_succ]at h ⊢;rw[fT,fT,show(2 ^ j * 2+r)%2=r%2 by omega,show(2 ^ j * 2+r)/2=2 ^ j+r/2 by omega,Qc j k (r/2) (by omega) (by omega)];omega
theorem Qh:∀(j lo m k:Nat),m - lo≤j→m - lo<2 ^ k→(fU j lo m).length=fT k (m - lo)
 | 0,lo,m,k,h,hk=>by rw[show m - lo=0 by omega,BF];rfl
 | j+1,lo,m,k,h,hk=>by
  by_cases h1:lo<m
  ·have hb:=z8 (n:=m - lo) (by omega);obtain⟨e,he⟩:∃e,half (m - lo)=2 ^ e:=⟨_,rfl⟩;rw[fU,if_pos h1,List.length_cons,Qh j (lo+half (m - lo)) m k (by omega) (by omega)];rw[he]at hb ⊢;have hek:e<k:=(Nat.pow_lt_pow_iff_right (a:=2) (by omega)).1 (by omega);have e2:fT k (m - lo)=1+fT k (m - lo - 2 ^ e):=by
    have:=Qc e k (m - lo - 2 ^ e) (by omega) hek;rw[show 2 ^ e+(m - lo - 2 ^ e)=m - lo by omega]at this;exact this
   rw[e2,show m - (lo+2 ^ e)=m - lo - 2 ^ e by omega];omega
  rw[show m - lo=0 by omega,BF,uP (by omega)];rfl
section
set_option maxHeartbeats 4000000
set_option maxRecDepth 10000
set_option linter.unusedSimpArgs false
set_option linter.unusedSectionVars false
def Ap:bX:=⟨[(287,.cm [false,false]),(306,.cm [false,false,true,true])],[9,10,11],[24,26,30,44,47,50,51,52,57,58,59,62,76,88,138,185,186,187,253,254,297,311],false⟩
def nC (x:Nd):List AV:=[vI x.1,vI x.2]
def xd (l:List Nd):Row:=⟨2,l.map nC,2,false⟩
attribute [go_sem] xd
theorem aaY (l:List Nd):fp 2 (l.map nC)=true:=by
 induction l with
 | nil=>rfl
 | cons a l ih=>simp only[List.map_cons,fp,ih,nC];rfl
theorem aaZ (l:List Nd):dx (l.map nC)=2:=by
 induction l with
 | nil=>rfl
 | cons a l ih=>simp only[List.map_cons,dx,ih,nC];rfl
attribute [go_sem] aaY aaZ
def m6 (m n:Int):Bool:=aT n 0 256&&aT m 0 n
theorem MU (m n:Int):aR Tryz.prog 286 [vI m,vI n] (vB (m6 m n)) []:=by
 refine aA Ap false Tryz.f286 ?_;conv=>enter[1];reduce
 refine bf Tryz.f286 12 [.tmp 4] (by kernel_rfl) (by decide +kernel) rfl ?_;unfold m6;refine aw ?_;refine aq.intro (dG _ _ _) ?_;cases h:aT n 0 256 with
 | false=>simp -implicitDefEqProofs only[go_sem,bc,Bool.false_and]
 | true=>
  simp -implicitDefEqProofs only[go_sem,bc,Bool.true_and];refine aq.intro (dG _ _ _) ?_;exact dt
theorem ML (lo hi:Nat) (h:lo+2≤hi) (h2:hi≤256):aR Tryz.prog 308 [.agg [vI lo,vI hi]] (.ba [.agg [vI lo,vI ((lo+cB (hi - lo):Nat):Int)],.agg [vI ((lo+cB (hi - lo):Nat):Int),vI hi]]) []:=by
 refine aA Ap false Tryz.f308 ?_;conv=>enter[1];reduce
 refine bf Tryz.f308 22 [.cell 2 301,.cell 3 301] (by kernel_rfl) (by decide +kernel) rfl ?_;have hs:=og (n:=hi - lo) (by omega);have w1:IntKind.i64.wrap ((hi:Int) - (lo:Int))=((hi - lo:Nat):Int):=by rw[aV (by omega)];omega
 have w2:IntKind.i64.wrap ((lo:Int)+((cB (hi - lo):Nat):Int))=((lo+cB (hi - lo):Nat):Int):=by rw[aV (by omega)];omega
 refine aC w1 ?_;refine aq.intro (U4 (hi - lo) (by omega) (by omega)) ?_;exact er w2
def QY (a b:List Nd):aj:=[(1000000,0,one (xd a)),(1000001,0,one (xd b))]
def FG (a b:List Nd):aj:=[(0,0,one (xd a)),(1,0,one (xd b))]
attribute [go_sem] QY FG
theorem QV (l:List Nd) (h:l.length≤100000):∀x,(l.map nC++[x]).length≤maxLen∧(l.map nC++[x]).length * 16≤140737488355328:=fun x=>du (E:=nC) (l:=l) (xs:=[x]) (b:=16) (n:=1000000) (by simp;omega) (by omega) (by omega)
theorem L7 (m:Nat):∀(k lo hi:Nat) (a b:List Nd),lo<hi→hi≤256→hi - lo≤k→a.length+(hi - lo)≤10000→b.length+(hi - lo)≤10000→bb Tryz.prog 306 (QY a b) [.agg [vI lo,vI hi],vI m,.au 1000000 0 [] 2 0 a.length,.au 1000001 0 [] 2 0 b.length]
  (.ba [.au 0 0 [] 2 0 (a++(gN m k lo hi).1).length,.au 1 0 [] 2 0 (b++(gN m k lo hi).2).length]) (FG (a++(gN m k lo hi).1) (b++(gN m k lo hi).2))
 | 0,lo,hi,a,b,h,h2,hk,ha,hb=>by omega
 | k+1,lo,hi,a,b,h,h2,hk,ha,hb=>by
  have hA:=QV a (by omega);have hB:=QV b (by omega);refine aA Ap false Tryz.f306 ?_;conv=>enter[1];reduce
  refine bT Tryz.f306 52 [.tmp 8,.tmp 9] (by kernel_rfl) (by decide +kernel) rfl ?_;by_cases c1:hi≤m
  ·have dU:(hi:Int)≤(m:Int):=by omega
   rw[qt c1,List.append_nil];refine cg dU hA ?_;simp[nC]
  have dU:¬(hi:Int)≤(m:Int):=by omega
  by_cases c2:m≤lo
  ·have iA:(lo:Int)≥(m:Int):=by omega
   rw[pD c1 c2,List.append_nil];refine ez dU iA hB ?_;simp[nC]
  have iA:¬(lo:Int)≥(m:Int):=by omega
  have hs:=og (n:=hi - lo) (by omega);rw[qu c1 c2];refine cg dU iA ?_;refine cz (ML lo hi (by omega) h2) ?_;have hl:=pE (m:=m) k lo (lo+cB (hi - lo)) (by omega) (by omega);refine eP (L7 m k lo (lo+cB (hi - lo)) a b (by omega) (by omega) (by omega) (by omega) (by omega)) ?_;refine aD.intro (L7 m k (lo+cB (hi - lo)) hi _ _ (by omega) (by omega) (by omega) (by rw[List.length_append];omega) (by rw[List.length_append];omega)) ?_;simp -implicitDefEqProofs only[go_sem,List.append_assoc]
theorem TE (m:Nat):∀(k lo hi:Nat),lo<hi→hi≤256→hi - lo≤k→bb Tryz.prog 306 [] [.agg [vI lo,vI hi],vI m,.aG,.aG]
  (.ba [.au 0 0 [] 2 0 (gN m k lo hi).1.length,.au 1 0 [] 2 0 (gN m k lo hi).2.length]) (FG (gN m k lo hi).1 (gN m k lo hi).2)
 | 0,lo,hi,h,h2,hk=>by omega
 | k+1,lo,hi,h,h2,hk=>by
  have hA:1≤maxLen:=by unfold maxLen;omega
  refine aA Ap false Tryz.f306 ?_;conv=>enter[1];reduce
  refine bT Tryz.f306 52 [.tmp 8,.tmp 9] (by kernel_rfl) (by decide +kernel) rfl ?_;by_cases c1:hi≤m
  ·have dU:(hi:Int)≤(m:Int):=by omega
   rw[qt c1];refine cg dU hA ?_;simp[nC]
  have dU:¬(hi:Int)≤(m:Int):=by omega
  by_cases c2:m≤lo
  ·have iA:(lo:Int)≥(m:Int):=by omega
   rw[pD c1 c2];refine ez dU iA hA ?_;simp[nC]
  have iA:¬(lo:Int)≥(m:Int):=by omega
  have hs:=og (n:=hi - lo) (by omega);rw[qu c1 c2];refine cg dU iA ?_;refine cz (ML lo hi (by omega) h2) ?_;have hl:=pE (m:=m) k lo (lo+cB (hi - lo)) (by omega) (by omega);refine eP (TE m k lo (lo+cB (hi - lo)) (by omega) (by omega) (by omega)) ?_;refine aD.intro (L7 m k (lo+cB (hi - lo)) hi _ _ (by omega) (by omega) (by omega) (by omega) (by omega)) ?_;exact dt
theorem MT (m n:Nat) (h:1≤n) (h2:n≤256):bb Tryz.prog 287 [] [vI m,vI n] (.ba [.au 0 0 [] 2 0 (gN m n 0 n).1.length,.au 1 0 [] 2 0 (gN m n 0 n).2.length]) (FG (gN m n 0 n).1 (gN m n 0 n).2):=by
 refine aA Ap false Tryz.f287 ?_;conv=>enter[1];reduce
 refine bT Tryz.f287 12 [.tmp 4,.tmp 5] (by kernel_rfl) (by decide +kernel) rfl ?_;refine aw ?_;refine aD.intro (TE m n 0 n (by omega) h2 (by omega)) ?_;exact dt
def lB (m n:Int):Int:=if m6 m n then(if m=0∨m=n then 0 else(((gN m.toNat n.toNat 0 n.toNat).1.length+(gN m.toNat n.toNat 0 n.toNat).2.length:Nat):Int)) else -1
theorem xl {m n:Int}(h:m6 m n=true):(0≤n∧n≤256)∧(0≤m∧m≤n):=by
 simp only[m6,Bool.and_eq_true,cf]at h;exact h
theorem afT (m n:Int):aR Tryz.prog 290 [vI m,vI n] (vI (lB m n)) []:=by
 refine aA Ap false Tryz.f290 ?_;conv=>enter[1];reduce
 refine bf Tryz.f290 29 [.tmp 4] (by kernel_rfl) (by decide +kernel) rfl ?_;unfold lB;refine aw ?_;refine aq.intro (MU _ _) ?_;cases h:m6 m n with
 | false=>simp -implicitDefEqProofs only[go_sem,Bool.not_false,aZ,aY,Bool.false_eq_true]
 | true=>
  obtain⟨hn,hm⟩:=xl h;by_cases h0:m=0
  ·subst h0;exact Of true_or
  have ug:(m==0)=false:=by simpa using h0
  by_cases h1:m=n
  ·subst h1;simp -implicitDefEqProofs only[go_sem,ug,Bool.not_true,aZ,aY,eo,bU,eO,ek,or_true]
  have oM:(m==n)=false:=by simpa using h1
  obtain⟨M,rfl⟩:∃M:Nat,m=M:=⟨m.toNat,by omega⟩;obtain⟨N,rfl⟩:∃N:Nat,n=N:=⟨n.toNat,by omega⟩;have eH:¬((M:Int)=0∨(M:Int)=(N:Int)):=fun h=>h.elim h0 h1
  have hl:=pE (m:=M) N 0 N (by omega) (by omega);have w1:∀x y:Nat,x≤1000→y≤1000→IntKind.i64.wrap ((x:Int)+(y:Int))=((x+y:Nat):Int):=fun x y _ _=>by rw[aV (by omega)];omega
  have w1:=w1 (gN M N 0 N).1.length (gN M N 0 N).2.length (by omega) (by omega);simp -implicitDefEqProofs only[go_sem,ug,oM,eH,Bool.not_true,aZ,aY,eo,bU,eO,ek];refine aD.intro (MT M N (by omega) (by omega)) ?_;exact er w1
end
end Go.Proofs.YtobpfkgabdeefaaGreat.E
