/- Contracts: trees; Nodes of a growth, in plain lists: what falls into old and new; the old ones are the peaks; how many there are; Contracts: growths, in the program: what falls into old nodes and new ones -/
import Derived.Test.YtobpfkgabdeefaaGreatQ11
namespace Go.Proofs.YtobpfkgabdeefaaGreat.E
open Go Go.RowKit
set_option linter.unusedVariables false
section
set_option maxHeartbeats 4000000
set_option maxRecDepth 10000
set_option linter.unusedSimpArgs false
set_option linter.unusedSectionVars false
def vX:cc:=⟨[],cw,cz,false⟩
def eJ (l:List ByteArray):Bool:=decide ((l.length:Int)<=256)&&ec l
def cH (n:Nat):Nat:=2 ^ (n - 1).log2
theorem O1 {n j:Nat}(h1:2 ^ j<n) (h2:n<=2 * 2 ^ j):cH n=2 ^ j:=by
 unfold cH;rw[(Nat.log2_eq_iff (k:=j) (by omega)).2 ⟨by omega,by rw[Nat.pow_succ];omega⟩]
theorem oH {n:Nat}(h:2<=n):1<=cH n/\cH n<n:=by
 have h1:n - 1≠0:=by omega
 have:=(Nat.log2_eq_iff (k:=(n - 1).log2) h1).1 rfl;have h3:0<2 ^ (n - 1).log2:=Nat.pow_pos (by omega);unfold cH;omega
theorem U6 (n:Nat) (h:2<=n) (h2:n<=256):ba Tryz.prog 284 [vI n] (vI (cH n)) []:=by
 refine aF vX false Tryz.f284 ?_;conv=>enter[1];reduce
 refine bu Tryz.f284 14 [.tmp 2] (by kernel_rfl) (by decide +kernel) rfl ?_;refine au ?_;refine aq.intro (dQ _ _ _) ?_;have cq:aS (n:Int) 2 256=true:=by simp[aS];omega
 refine yQ cq ?_;refine dq (fun m s=>∃j:Nat,2 ^ j<n/\m=n - 2 ^ j/\s=⟨14,[(0,vI n),(3,vI ((2 ^ j:Nat):Int))],[],1⟩) (n - 1) ?_ ?_
 ·refine au ?_;exact⟨0,by simp;omega,rfl,rfl⟩
 rintro m s ⟨j,hj,rfl,rfl⟩;have e:2 ^ (j+1)=2 * 2 ^ j:=by rw[Nat.pow_succ];omega
 have hp:0<2 ^ j:=Nat.pow_pos (by omega);have hS:=fun h2=>O1 (n:=n) (j:=j) hj h2
 generalize hq:2 ^ j=q at *;have w1:IntKind.i64.wrap (2 * (q:Int))=((2 * q:Nat):Int):=by rw[aN (by omega)];omega
 have w2:IntKind.i64.wrap ((q:Int) * 2)=((2 * q:Nat):Int):=by rw[aN (by omega)];omega
 rcases bp (2 * q) n with ab|bM
 ·have ah:((2 * q:Nat):Int)<(n:Int):=by omega
  refine eV w1 ah w2 ?_;exact⟨_,by omega,j+1,by omega,rfl,by rw[e]⟩
 have ah:¬((2 * q:Nat):Int)<(n:Int):=by omega
 refine b8 w1 ah ?_;rw[hS (by omega)]
theorem HL (n:Nat) (h:2<=n) (h2:n<=256):ba Tryz.prog 141 [vI n] (vI (cH n)) []:=by
 refine aF vX false Tryz.f141 ?_;conv=>enter[1];reduce
 refine bu Tryz.f141 14 [.tmp 2] (by kernel_rfl) (by decide +kernel) rfl ?_;refine au ?_;refine aq.intro (fG _ _ _) ?_;have cq:aS (n:Int) 2 256=true:=by simp[aS];omega
 refine yQ cq ?_;refine dq (fun m s=>∃j:Nat,2 ^ j<n/\m=n - 2 ^ j/\s=⟨14,[(0,vI n),(3,vI ((2 ^ j:Nat):Int))],[],1⟩) (n - 1) ?_ ?_
 ·refine au ?_;exact⟨0,by simp;omega,rfl,rfl⟩
 rintro m s ⟨j,hj,rfl,rfl⟩;have e:2 ^ (j+1)=2 * 2 ^ j:=by rw[Nat.pow_succ];omega
 have hp:0<2 ^ j:=Nat.pow_pos (by omega);have hS:=fun h2=>O1 (n:=n) (j:=j) hj h2
 generalize hq:2 ^ j=q at *;have w1:IntKind.i64.wrap (2 * (q:Int))=((2 * q:Nat):Int):=by rw[aN (by omega)];omega
 have w2:IntKind.i64.wrap ((q:Int) * 2)=((2 * q:Nat):Int):=by rw[aN (by omega)];omega
 rcases bp (2 * q) n with ab|bM
 ·have ah:((2 * q:Nat):Int)<(n:Int):=by omega
  refine eV w1 ah w2 ?_;exact⟨_,by omega,j+1,by omega,rfl,by rw[e]⟩
 have ah:¬((2 * q:Nat):Int)<(n:Int):=by omega
 refine b8 w1 ah ?_;rw[hS (by omega)]
def fp (l:List ByteArray):BD:=
 match l with
 | []=>gu []
 | [a]=>CT a
 | a::b::l=>rI (fp ((a::b::l).take (cH (l.length+2)))) (fp ((a::b::l).drop (cH (l.length+2))))
termination_by l.length
decreasing_by
 all_goals
  have:=oH (n:=l.length+2) (by omega)
  simp only[List.length_take,List.length_drop,List.length_cons]
  omega
theorem Aq (l:List ByteArray) (hl:l.length<=maxLen):ba Tryz.prog 158 [.ro 1 (l.map cF)] (vB (eJ l)) []:=by
 refine aF vX false Tryz.f158 ?_;conv=>enter[1];reduce
 refine bu Tryz.f158 18 [.tmp 2] (by kernel_rfl) (by decide +kernel) rfl ?_;unfold eJ;refine au ?_;refine dq (fun m s=>∃i:Nat,i<=l.length/\m=l.length - i/\ec (l.drop i)=ec l/\s=⟨18,[(0,.ro 1 (l.map cF)),(5,.ro 1 (l.map cF)),(6,vI l.length),(7,vI i)],[],1⟩) l.length ?_ ?_
 ·refine au ?_;exact⟨0,aR _,rfl,rfl,rfl⟩
 rintro m s ⟨i,hi,rfl,hx,rfl⟩;rcases bp i l.length with ab|bM
 ·have ah:(i:Int)<(l.length:Int):=by omega
  have hg:l[i]?=some l[i]:=bm ab;have hw:=dx ab hl;rw[F7 ab]at hx;refine b8 ah hg ?_;refine bX (fun h=>?_) (fun h=>?_)
  ·refine aA h ?_;have:¬l[i].size<=40:=by have:=of_decide_eq_true h;omega
   rw[<-hx];simp[this]
  refine b8 h hw ?_;have:l[i].size<=40:=by have:=of_decide_eq_false h;omega
  exact⟨_,by omega,i+1,ab,rfl,by rw[<-hx];simp[this],rfl⟩
 have hi:i=l.length:=by omega
 subst hi;have ah:¬((l.length:Int)<(l.length:Int)):=by omega
 rw[List.drop_length]at hx;refine aA ah ?_;rw[<-hx];simp[ec]
theorem tp (l:List ByteArray) (hl:l.length<=maxLen):ba Tryz.prog 37 [.ro 1 (l.map cF)] (vB (eJ l)) []:=by
 refine aF vX false Tryz.f37 ?_;conv=>enter[1];reduce
 refine bu Tryz.f37 19 [.tmp 2] (by kernel_rfl) (by decide +kernel) rfl ?_;unfold eJ;refine au ?_;refine bX (fun h=>?_) (fun h=>?_)
 ·refine aA h ?_;have:¬l.length<=256:=by have:=of_decide_eq_true h;omega
  simp;omega
 have CV:l.length<=256:=by have:=of_decide_eq_false h;omega
 refine aA h ?_;refine dq (fun m s=>∃i:Nat,i<=l.length/\m=l.length - i/\ec (l.drop i)=ec l/\s=⟨19,[(0,.ro 1 (l.map cF)),(3,vI i)],[],1⟩) l.length ?_ ?_
 ·refine au ?_;exact⟨0,aR _,rfl,rfl,rfl⟩
 rintro m s ⟨i,hi,rfl,hx,rfl⟩;have h2:(l.length:Int)<=256:=by omega
 rcases bp i l.length with ab|bM
 ·have ah:(i:Int)<(l.length:Int):=by omega
  have hg:l[i]?=some l[i]:=bm ab;have hw:=dx ab hl;rw[F7 ab]at hx;refine b8 ah hg ?_;refine bX (fun h=>?_) (fun h=>?_)
  ·refine aA h ?_;have:¬l[i].size<=40:=by have:=of_decide_eq_true h;omega
   rw[<-hx];simp[this]
  refine b8 h hw ?_;have:l[i].size<=40:=by have:=of_decide_eq_false h;omega
  exact⟨_,by omega,i+1,ab,rfl,by rw[<-hx];simp[this],rfl⟩
 have hi:i=l.length:=by omega
 subst hi;have ah:¬((l.length:Int)<(l.length:Int)):=by omega
 rw[List.drop_length]at hx;refine aA ah ?_;rw[<-hx];simp[ec];omega
theorem gB {l:List ByteArray}(h:eJ l=true):l.length<=256/\∀b∈l,b.size<=40:=by
 simp only[eJ,Bool.and_eq_true,decide_eq_true_eq,ec,List.all_eq_true]at h;exact⟨by omega,h.2⟩
theorem Rt {l:List ByteArray}(h:2<=l.length):fp l=rI (fp (l.take (cH l.length))) (fp (l.drop (cH l.length))):=by
 match l,h with
 | a::b::l,_=>rw[fp];rfl
theorem z0:((0:Nat):Int)=0:=rfl
theorem z1:((1:Nat):Int)=1:=rfl
theorem MM:∀(n:Nat) (l:List ByteArray),l.length<=n->l.length<=256->(∀b∈l,b.size<=1000)->ba Tryz.prog 255 [.ro 1 (l.map cF)] (.agg (fp l).cs) []
 | 0,l,hn,h2,hb=>by
  have:l=[]:=List.eq_nil_of_length_eq_zero (by omega);subst this;refine aF vX false Tryz.f255 ?_;conv=>enter[1];reduce
  refine bu Tryz.f255 27 [.cell 2 39] (by kernel_rfl) (by decide +kernel) rfl ?_;have h0:=v8 ⟨#[]⟩ (by decide);refine aA z0 ?_;refine aq.intro h0 ?_;simp -implicitDefEqProofs only[go_sem,fp];try rfl
 | n+1,l,hn,h2,hb=>by
  refine aF vX false Tryz.f255 ?_;conv=>enter[1];reduce
  refine bu Tryz.f255 27 [.cell 2 39] (by kernel_rfl) (by decide +kernel) rfl ?_
  match l,hn,h2,hb with
  | [],_,_,_=>
   have h0:=v8 ⟨#[]⟩ (by decide);refine aA z0 ?_;refine aq.intro h0 ?_;simp -implicitDefEqProofs only[go_sem,fp];try rfl
  | [a],_,_,hb=>
   have ha:=hb a (by simp);refine aA z1 ?_;refine aq.intro (af5 a (by omega)) ?_;simp -implicitDefEqProofs only[go_sem,fp]
  | a::b::l,hn,h2,hb=>
   obtain⟨L,hL⟩:∃L,a::b::l=L:=⟨_,rfl⟩;rw[hL]at hn h2 hb ⊢;have h3:2<=L.length:=by rw[<-hL];simp
   rw[Rt h3];have hs:=oH h3;have e0:((L.length:Int)==0)=false:=by rw[beq_eq_false_iff_ne];omega
   have e1:((L.length:Int)==1)=false:=by rw[beq_eq_false_iff_ne];omega
   have l1:(L.take (cH L.length)).length<=n/\(L.take (cH L.length)).length<=256:=by rw[List.length_take];omega
   have l2:(L.drop (cH L.length)).length<=n/\(L.drop (cH L.length)).length<=256:=by rw[List.length_drop];omega
   have hT:=MM n (L.take (cH L.length)) l1.1 l1.2 (fun b h=>hb b (List.mem_of_mem_take h));have hD:=MM n (L.drop (cH L.length)) l2.1 l2.2 (fun b h=>hb b (List.mem_of_mem_drop h));refine Ew e0 e1 ?_;refine aq.intro (U6 L.length h3 h2) ?_;generalize cH L.length=k at *;have k1:(0:Int)<=(k:Int)/\(k:Int)<=(L.length:Int):=by omega
   have k2:(k:Int)<=(L.length:Int)/\(L.length:Int)<=(L.length:Int):=by omega
   have k3:List.take (L.length - k) (List.drop k L)=List.drop k L:=List.take_of_length_le (by simp);simp -implicitDefEqProofs only[go_sem,k1,k2,k3,Nat.sub_zero,List.drop_zero];refine cT hT ?_;refine cT hD ?_;refine aq.intro (MH _ _) ?_;exact dy
theorem HE (l:List ByteArray) (h:eJ l=true):ba Tryz.prog 255 [.ro 1 (l.map cF)] (.agg (fp l).cs) []:=by
 obtain⟨h1,h2⟩:=gB h;exact MM l.length l (Nat.le_refl _) h1 fun b hb=>by have:=h2 b hb;omega
theorem Mt:∀(n:Nat) (l:List ByteArray),l.length<=n->l.length<=256->(∀b∈l,b.size<=1000)->ba Tryz.prog 83 [.ro 1 (l.map cF)] (.agg (fp l).cs) []
 | 0,l,hn,h2,hb=>by
  have:l=[]:=List.eq_nil_of_length_eq_zero (by omega);subst this;refine aF vX false Tryz.f83 ?_;conv=>enter[1];reduce
  refine bu Tryz.f83 27 [.cell 2 39] (by kernel_rfl) (by decide +kernel) rfl ?_;have h0:=v9 ⟨#[]⟩ (by decide);refine aA z0 ?_;refine aq.intro h0 ?_;simp -implicitDefEqProofs only[go_sem,fp];try rfl
 | n+1,l,hn,h2,hb=>by
  refine aF vX false Tryz.f83 ?_;conv=>enter[1];reduce
  refine bu Tryz.f83 27 [.cell 2 39] (by kernel_rfl) (by decide +kernel) rfl ?_
  match l,hn,h2,hb with
  | [],_,_,_=>
   have h0:=v9 ⟨#[]⟩ (by decide);refine aA z0 ?_;refine aq.intro h0 ?_;simp -implicitDefEqProofs only[go_sem,fp];try rfl
  | [a],_,_,hb=>
   have ha:=hb a (by simp);refine aA z1 ?_;refine aq.intro (agU a (by omega)) ?_;simp -implicitDefEqProofs only[go_sem,fp]
  | a::b::l,hn,h2,hb=>
   obtain⟨L,hL⟩:∃L,a::b::l=L:=⟨_,rfl⟩;rw[hL]at hn h2 hb ⊢;have h3:2<=L.length:=by rw[<-hL];simp
   rw[Rt h3];have hs:=oH h3;have e0:((L.length:Int)==0)=false:=by rw[beq_eq_false_iff_ne];omega
   have e1:((L.length:Int)==1)=false:=by rw[beq_eq_false_iff_ne];omega
   have l1:(L.take (cH L.length)).length<=n/\(L.take (cH L.length)).length<=256:=by rw[List.length_take];omega
   have l2:(L.drop (cH L.length)).length<=n/\(L.drop (cH L.length)).length<=256:=by rw[List.length_drop];omega
   have hT:=Mt n (L.take (cH L.length)) l1.1 l1.2 (fun b h=>hb b (List.mem_of_mem_take h));have hD:=Mt n (L.drop (cH L.length)) l2.1 l2.2 (fun b h=>hb b (List.mem_of_mem_drop h));refine Ew e0 e1 ?_;refine aq.intro (HL L.length h3 h2) ?_;generalize cH L.length=k at *;have k1:(0:Int)<=(k:Int)/\(k:Int)<=(L.length:Int):=by omega
   have k2:(k:Int)<=(L.length:Int)/\(L.length:Int)<=(L.length:Int):=by omega
   have k3:List.take (L.length - k) (List.drop k L)=List.drop k L:=List.take_of_length_le (by simp);simp -implicitDefEqProofs only[go_sem,k1,k2,k3,Nat.sub_zero,List.drop_zero];refine cT hT ?_;refine cT hD ?_;refine aq.intro (M0 _ _) ?_;exact dy
theorem An (l:List ByteArray) (h:eJ l=true):ba Tryz.prog 83 [.ro 1 (l.map cF)] (.agg (fp l).cs) []:=by
 obtain⟨h1,h2⟩:=gB h;exact Mt l.length l (Nat.le_refl _) h1 fun b hb=>by have:=h2 b hb;omega
end
theorem IN {α:Type}{l:List α}{i:Nat}(h:i<l.length):l.take (i+1)=l.take i++[l[i]]:=List.take_succ_eq_append_getElem h
theorem Kb {l:List ByteArray}(h:eJ l=true) (n:Nat):eJ (l.take n)=true:=by
 obtain⟨h1,h2⟩:=gB h;simp only[eJ,Bool.and_eq_true,decide_eq_true_eq,ec,List.all_eq_true,List.length_take];exact⟨by omega,fun b hb=>h2 b (List.mem_of_mem_take hb)⟩
def half (n:Nat):Nat:=2 ^ n.log2
theorem S4 {n j:Nat}(h1:2 ^ j<=n) (h2:n<2 * 2 ^ j):half n=2 ^ j:=by
 have:0<2 ^ j:=Nat.pow_pos (by omega);unfold half;rw[(Nat.log2_eq_iff (k:=j) (by omega)).2 ⟨h1,by rw[Nat.pow_succ];omega⟩]
theorem zV {n:Nat}(h:1<=n):1<=half n/\half n<=n/\n<2 * half n:=by
 have h1:n≠0:=by omega
 have:=(Nat.log2_eq_iff (k:=n.log2) h1).1 rfl;have h3:0<2 ^ n.log2:=Nat.pow_pos (by omega);unfold half;rw[Nat.pow_succ]at this;omega
theorem YP {n:Nat}(h:2<=n):n<=2 * cH n:=by
 have h1:n - 1≠0:=by omega
 have:=(Nat.log2_eq_iff (k:=(n - 1).log2) h1).1 rfl;unfold cH;rw[Nat.pow_succ]at this;omega
abbrev Nd:=Nat × Nat
def gN (m:Nat):Nat->Nat->Nat->List Nd × List Nd
 | 0,_,_=>([],[])
 | k+1,lo,hi=>
  if hi<=m then([(lo,hi)],[])
  else if m<=lo then([],[(lo,hi)])
  else((gN m k lo (lo+cH (hi - lo))).1++(gN m k (lo+cH (hi - lo)) hi).1,(gN m k lo (lo+cH (hi - lo))).2++(gN m k (lo+cH (hi - lo)) hi).2)
theorem qH {m k lo hi:Nat}(h:hi<=m):gN m (k+1) lo hi=([(lo,hi)],[]):=by rw[gN,if_pos h]
theorem pW {m k lo hi:Nat}(h1:¬hi<=m) (h:m<=lo):gN m (k+1) lo hi=([],[(lo,hi)]):=by rw[gN,if_neg h1,if_pos h]
theorem qI {m k lo hi:Nat}(h1:¬hi<=m) (h:¬m<=lo):gN m (k+1) lo hi=((gN m k lo (lo+cH (hi - lo))).1++(gN m k (lo+cH (hi - lo)) hi).1,(gN m k lo (lo+cH (hi - lo))).2++(gN m k (lo+cH (hi - lo)) hi).2):=by rw[gN,if_neg h1,if_neg h]
theorem vK {m:Nat}:∀(k lo hi:Nat),lo<hi->hi - lo<=k->∀x,x∈(gN m k lo hi).1\/x∈(gN m k lo hi).2->lo<=x.1/\x.1<x.2/\x.2<=hi
 | 0,lo,hi,h,hk,x,hx=>by omega
 | k+1,lo,hi,h,hk,x,hx=>by
  by_cases h1:hi<=m
  ·rw[qH h1]at hx;simp at hx;subst hx;exact⟨Nat.le_refl _,h,Nat.le_refl _⟩
  by_cases h2:m<=lo
  ·rw[pW h1 h2]at hx;simp at hx;subst hx;exact⟨Nat.le_refl _,h,Nat.le_refl _⟩
  rw[qI h1 h2]at hx;have hs:=oH (n:=hi - lo) (by omega);have a:=vK (m:=m) k lo (lo+cH (hi - lo)) (by omega) (by omega) x;have b:=vK (m:=m) k (lo+cH (hi - lo)) hi (by omega) (by omega) x;simp only[List.mem_append]at hx;rcases hx with (hx|hx)|(hx|hx)
  ·have:=a (.inl hx);omega
  ·have:=b (.inl hx);omega
  ·have:=a (.inr hx);omega
  have:=b (.inr hx);omega
theorem o7 {m:Nat}:∀(k lo hi:Nat),lo<hi->hi - lo<=k->(gN m k lo hi).1.length<=hi - lo/\(gN m k lo hi).2.length<=hi - lo
 | 0,lo,hi,h,hk=>by omega
 | k+1,lo,hi,h,hk=>by
  by_cases h1:hi<=m
  ·rw[qH h1];simp;omega
  by_cases h2:m<=lo
  ·rw[pW h1 h2];simp;omega
  rw[qI h1 h2];have hs:=oH (n:=hi - lo) (by omega);have a:=o7 (m:=m) k lo (lo+cH (hi - lo)) (by omega) (by omega);have b:=o7 (m:=m) k (lo+cH (hi - lo)) hi (by omega) (by omega);simp only[List.length_append];omega
def gn:Nat->Nat->Nat->List Nd
 | 0,_,_=>[]
 | k+1,lo,m=>if lo<m then(lo,lo+half (m - lo))::gn k (lo+half (m - lo)) m else []
theorem u3 {k lo m:Nat}(h:m<=lo):gn k lo m=[]:=by
 cases k with
 | zero=>rfl
 | succ k=>rw[gn,if_neg (by omega)]
theorem C1 {m:Nat}:∀(k j lo hi:Nat),lo<m->m<hi->hi - lo<=k->m - lo<=j->(gN m k lo hi).1=gn j lo m
 | 0,j,lo,hi,h1,h2,hk,hj=>by omega
 | k+1,0,lo,hi,h1,h2,hk,hj=>by omega
 | k+1,j+1,lo,hi,h1,h2,hk,hj=>by
  rw[qI (by omega) (by omega)];have hs:=oH (n:=hi - lo) (by omega);have hu:=YP (n:=hi - lo) (by omega);obtain⟨e,he⟩:∃e,cH (hi - lo)=2 ^ e:=⟨_,rfl⟩;by_cases hm:m<lo+cH (hi - lo)
  ·rw[C1 k (j+1) lo (lo+cH (hi - lo)) h1 hm (by omega) hj];cases k with
   | zero=>omega
   | succ k=>rw[pW (by omega) (by omega)];simp
  have hh:half (m - lo)=cH (hi - lo):=by
   have cU:=hu;have hm':=hm;rw[he]at cU hm' ⊢;exact S4 (by omega) (by omega)
  rw[gn,if_pos h1,hh];cases k with
  | zero=>omega
  | succ k=>
   rw[qH (m:=m) (lo:=lo) (by omega)];by_cases heq:m=lo+cH (hi - lo)
   ·rw[pW (by omega) (by omega),u3 (by omega)];rfl
   rw[C1 (k+1) j (lo+cH (hi - lo)) hi (by omega) h2 (by omega) (by omega)];rfl
def gm:Nat->Nat->Nat
 | 0,_=>0
 | k+1,n=>n%2+gm k (n/2)
theorem Bx:∀k,gm k 0=0
 | 0=>rfl
 | k+1=>by rw[gm,Bx k]
theorem Qi:∀(j k r:Nat),r<2 ^ j->j<k->gm k (2 ^ j+r)=1+gm k r
 | j,0,r,h,hk=>by omega
 | 0,k+1,r,h,hk=>by
  have:r=0:=by simp at h;omega
  subst this;simp[gm,Bx]
 | j+1,k+1,r,h,hk=>by
  rw[Nat.pow_succ]at h ⊢;rw[gm,gm,show(2 ^ j * 2+r)%2=r%2 by omega,show(2 ^ j * 2+r)/2=2 ^ j+r/2 by omega,Qi j k (r/2) (by omega) (by omega)];omega
theorem Qo:∀(j lo m k:Nat),m - lo<=j->m - lo<2 ^ k->(gn j lo m).length=gm k (m - lo)
 | 0,lo,m,k,h,hk=>by rw[show m - lo=0 by omega,Bx];rfl
 | j+1,lo,m,k,h,hk=>by
  by_cases h1:lo<m
  ·have hb:=zV (n:=m - lo) (by omega);obtain⟨e,he⟩:∃e,half (m - lo)=2 ^ e:=⟨_,rfl⟩;rw[gn,if_pos h1,List.length_cons,Qo j (lo+half (m - lo)) m k (by omega) (by omega)];rw[he]at hb ⊢;have hek:e<k:=(Nat.pow_lt_pow_iff_right (a:=2) (by omega)).1 (by omega);have e2:gm k (m - lo)=1+gm k (m - lo - 2 ^ e):=by
    have:=Qi e k (m - lo - 2 ^ e) (by omega) hek;rw[show 2 ^ e+(m - lo - 2 ^ e)=m - lo by omega]at this;exact this
   rw[e2,show m - (lo+2 ^ e)=m - lo - 2 ^ e by omega];omega
  rw[show m - lo=0 by omega,Bx,u3 (by omega)];rfl
section
set_option maxHeartbeats 4000000
set_option maxRecDepth 10000
set_option linter.unusedSimpArgs false
set_option linter.unusedSectionVars false
def Ak:cc:=⟨[(287,.cm [false,false]),(306,.cm [false,false,true,true])],cw,cz,false⟩
def nC (x:Nd):List AV:=[vI x.1,vI x.2]
def xo (l:List Nd):Row:=⟨2,l.map nC,2,false⟩
attribute [go_sem] xo
theorem abd (l:List Nd):fN 2 (l.map nC)=true:=by
 induction l with
 | nil=>rfl
 | cons a l ih=>simp only[List.map_cons,fN,ih,nC];rfl
theorem abe (l:List Nd):dJ (l.map nC)=2:=by
 induction l with
 | nil=>rfl
 | cons a l ih=>simp only[List.map_cons,dJ,ih,nC];rfl
attribute [go_sem] abd abe
def nz (m n:Int):Bool:=aS n 0 256&&aS m 0 n
theorem MG (m n:Int):ba Tryz.prog 286 [vI m,vI n] (vB (nz m n)) []:=by
 refine aF Ak false Tryz.f286 ?_;conv=>enter[1];reduce
 refine bu Tryz.f286 12 [.tmp 4] (by kernel_rfl) (by decide +kernel) rfl ?_;unfold nz;refine au ?_;refine aq.intro (dQ _ _ _) ?_;cases h:aS n 0 256 with
 | false=>simp -implicitDefEqProofs only[go_sem,bb,Bool.false_and]
 | true=>
  simp -implicitDefEqProofs only[go_sem,bb,Bool.true_and];refine aq.intro (dQ _ _ _) ?_;exact dy
theorem Mw (lo hi:Nat) (h:lo+2<=hi) (h2:hi<=256):ba Tryz.prog 308 [.agg [vI lo,vI hi]] (.aZ [.agg [vI lo,vI ((lo+cH (hi - lo):Nat):Int)],.agg [vI ((lo+cH (hi - lo):Nat):Int),vI hi]]) []:=by
 refine aF Ak false Tryz.f308 ?_;conv=>enter[1];reduce
 refine bu Tryz.f308 22 [.cell 2 301,.cell 3 301] (by kernel_rfl) (by decide +kernel) rfl ?_;have hs:=oH (n:=hi - lo) (by omega);have w1:IntKind.i64.wrap ((hi:Int) - (lo:Int))=((hi - lo:Nat):Int):=by rw[aN (by omega)];omega
 have w2:IntKind.i64.wrap ((lo:Int)+((cH (hi - lo):Nat):Int))=((lo+cH (hi - lo):Nat):Int):=by rw[aN (by omega)];omega
 refine aA w1 ?_;refine aq.intro (U6 (hi - lo) (by omega) (by omega)) ?_;exact eE w2
def Q4 (a b:List Nd):ak:=[(1000000,0,one (xo a)),(1000001,0,one (xo b))]
def FH (a b:List Nd):ak:=[(0,0,one (xo a)),(1,0,one (xo b))]
attribute [go_sem] Q4 FH
theorem Q2 (l:List Nd) (h:l.length<=100000):∀x,(l.map nC++[x]).length<=maxLen/\(l.map nC++[x]).length * 16<=140737488355328:=fun x=>ed (E:=nC) (l:=l) (xs:=[x]) (b:=16) (n:=1000000) (by simp;omega) (by omega) (by omega)
theorem LY (m:Nat):∀(k lo hi:Nat) (a b:List Nd),lo<hi->hi<=256->hi - lo<=k->a.length+(hi - lo)<=10000->b.length+(hi - lo)<=10000->aY Tryz.prog 306 (Q4 a b) [.agg [vI lo,vI hi],vI m,.aw 1000000 0 [] 2 0 a.length,.aw 1000001 0 [] 2 0 b.length]
  (.aZ [.aw 0 0 [] 2 0 (a++(gN m k lo hi).1).length,.aw 1 0 [] 2 0 (b++(gN m k lo hi).2).length]) (FH (a++(gN m k lo hi).1) (b++(gN m k lo hi).2))
 | 0,lo,hi,a,b,h,h2,hk,ha,hb=>by omega
 | k+1,lo,hi,a,b,h,h2,hk,ha,hb=>by
  have hA:=Q2 a (by omega);have hB:=Q2 b (by omega);refine aF Ak false Tryz.f306 ?_;conv=>enter[1];reduce
  refine bI Tryz.f306 52 [.tmp 8,.tmp 9] (by kernel_rfl) (by decide +kernel) rfl ?_;by_cases c1:hi<=m
  ·have d6:(hi:Int)<=(m:Int):=by omega
   rw[qH c1,List.append_nil];refine b8 d6 hA ?_;simp[nC]
  have d6:¬(hi:Int)<=(m:Int):=by omega
  by_cases c2:m<=lo
  ·have iK:(lo:Int)>=(m:Int):=by omega
   rw[pW c1 c2,List.append_nil];refine eV d6 iK hB ?_;simp[nC]
  have iK:¬(lo:Int)>=(m:Int):=by omega
  have hs:=oH (n:=hi - lo) (by omega);rw[qI c1 c2];refine b8 d6 iK ?_;refine cT (Mw lo hi (by omega) h2) ?_;have hl:=o7 (m:=m) k lo (lo+cH (hi - lo)) (by omega) (by omega);refine ep (LY m k lo (lo+cH (hi - lo)) a b (by omega) (by omega) (by omega) (by omega) (by omega)) ?_;refine aE.intro (LY m k (lo+cH (hi - lo)) hi _ _ (by omega) (by omega) (by omega) (by rw[List.length_append];omega) (by rw[List.length_append];omega)) ?_;simp -implicitDefEqProofs only[go_sem,List.append_assoc]
theorem TM (m:Nat):∀(k lo hi:Nat),lo<hi->hi<=256->hi - lo<=k->aY Tryz.prog 306 [] [.agg [vI lo,vI hi],vI m,.aG,.aG]
  (.aZ [.aw 0 0 [] 2 0 (gN m k lo hi).1.length,.aw 1 0 [] 2 0 (gN m k lo hi).2.length]) (FH (gN m k lo hi).1 (gN m k lo hi).2)
 | 0,lo,hi,h,h2,hk=>by omega
 | k+1,lo,hi,h,h2,hk=>by
  have hA:1<=maxLen:=by unfold maxLen;omega
  refine aF Ak false Tryz.f306 ?_;conv=>enter[1];reduce
  refine bI Tryz.f306 52 [.tmp 8,.tmp 9] (by kernel_rfl) (by decide +kernel) rfl ?_;by_cases c1:hi<=m
  ·have d6:(hi:Int)<=(m:Int):=by omega
   rw[qH c1];refine b8 d6 hA ?_;simp[nC]
  have d6:¬(hi:Int)<=(m:Int):=by omega
  by_cases c2:m<=lo
  ·have iK:(lo:Int)>=(m:Int):=by omega
   rw[pW c1 c2];refine eV d6 iK hA ?_;simp[nC]
  have iK:¬(lo:Int)>=(m:Int):=by omega
  have hs:=oH (n:=hi - lo) (by omega);rw[qI c1 c2];refine b8 d6 iK ?_;refine cT (Mw lo hi (by omega) h2) ?_;have hl:=o7 (m:=m) k lo (lo+cH (hi - lo)) (by omega) (by omega);refine ep (TM m k lo (lo+cH (hi - lo)) (by omega) (by omega) (by omega)) ?_;refine aE.intro (LY m k (lo+cH (hi - lo)) hi _ _ (by omega) (by omega) (by omega) (by omega) (by omega)) ?_;exact dy
theorem ME (m n:Nat) (h:1<=n) (h2:n<=256):aY Tryz.prog 287 [] [vI m,vI n] (.aZ [.aw 0 0 [] 2 0 (gN m n 0 n).1.length,.aw 1 0 [] 2 0 (gN m n 0 n).2.length]) (FH (gN m n 0 n).1 (gN m n 0 n).2):=by
 refine aF Ak false Tryz.f287 ?_;conv=>enter[1];reduce
 refine bI Tryz.f287 12 [.tmp 4,.tmp 5] (by kernel_rfl) (by decide +kernel) rfl ?_;refine au ?_;refine aE.intro (TM m n 0 n (by omega) h2 (by omega)) ?_;exact dy
def lN (m n:Int):Int:=if nz m n then(if m=0\/m=n then 0 else(((gN m.toNat n.toNat 0 n.toNat).1.length+(gN m.toNat n.toNat 0 n.toNat).2.length:Nat):Int)) else -1
theorem vg {m n:Int}(h:nz m n=true):(0<=n/\n<=256)/\(0<=m/\m<=n):=by
 simp only[nz,Bool.and_eq_true,cr]at h;exact h
theorem af4 (m n:Int):ba Tryz.prog 290 [vI m,vI n] (vI (lN m n)) []:=by
 refine aF Ak false Tryz.f290 ?_;conv=>enter[1];reduce
 refine bu Tryz.f290 29 [.tmp 4] (by kernel_rfl) (by decide +kernel) rfl ?_;unfold lN;refine au ?_;refine aq.intro (MG _ _) ?_;cases h:nz m n with
 | false=>simp -implicitDefEqProofs only[go_sem,Bool.not_false,aT,aV,Bool.false_eq_true]
 | true=>
  obtain⟨hn,hm⟩:=vg h;by_cases h0:m=0
  ·subst h0;exact N0
  have pV:(m==0)=false:=by simpa using h0
  by_cases h1:m=n
  ·subst h1;exact NZ pV
  have o6:(m==n)=false:=by simpa using h1
  obtain⟨M,rfl⟩:∃M:Nat,m=M:=⟨m.toNat,by omega⟩;obtain⟨N,rfl⟩:∃N:Nat,n=N:=⟨n.toNat,by omega⟩;have eU:¬((M:Int)=0\/(M:Int)=(N:Int)):=fun h=>h.elim h0 h1
  have hl:=o7 (m:=M) N 0 N (by omega) (by omega);have w1:∀x y:Nat,x<=1000->y<=1000->IntKind.i64.wrap ((x:Int)+(y:Int))=((x+y:Nat):Int):=fun x y _ _=>by rw[aN (by omega)];omega
  have w1:=w1 (gN M N 0 N).1.length (gN M N 0 N).2.length (by omega) (by omega);simp -implicitDefEqProofs only[go_sem,pV,o6,eU,Bool.not_true,aT,aV,eD,bW,fg,eC];refine aE.intro (ME M N (by omega) (by omega)) ?_;exact eE w1
end
end Go.Proofs.YtobpfkgabdeefaaGreat.E
