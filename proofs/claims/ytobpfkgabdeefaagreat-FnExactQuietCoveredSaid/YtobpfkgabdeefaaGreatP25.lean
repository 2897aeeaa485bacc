/- Contracts: peaks; maps of nodes; Contracts: growths checked -/
import Derived.Test.YtobpfkgabdeefaaGreatP24
namespace Go.Proofs.YtobpfkgabdeefaaGreat.E
open Go Go.RowKit
set_option maxHeartbeats 4000000
set_option maxRecDepth 10000
set_option linter.unusedSimpArgs false
set_option linter.unusedVariables false
set_option linter.unusedSectionVars false
def sS:bX:=⟨[(287,.cm [false,false]),(293,.cm [true,false])],[9,10,11],[24,26,30,44,47,50,51,52,57,58,59,62,76,88,138,185,186,187,253,254,297,311],false⟩
theorem afI (n:Nat) (h:n<257):aR Tryz.prog 313 [vU n] (vI (fT 9 n)) []:=by
 refine aA sS false Tryz.f313 ?_;conv=>enter[1];reduce
 refine bf Tryz.f313 35 [.tmp 2] (by kernel_rfl) (by decide +kernel) rfl ?_;refine aw ?_;refine congrArg (fun z:Int=>AV.sc (.int .i64 z)) ?_;obtain⟨m,rfl⟩:∃m:Fin 257,n=m.val:=⟨⟨n,h⟩,rfl⟩;clear h;revert m;decide +kernel
theorem afL (n:Nat) (h:n<257):aR Tryz.prog 307 [vU n] (vI (fT 9 n)) []:=by
 refine aA sS false Tryz.f307 ?_;conv=>enter[1];reduce
 refine bf Tryz.f307 8 [.tmp 2] (by kernel_rfl) (by decide +kernel) rfl ?_;refine aw ?_;refine aq.intro (afI n h) ?_;exact dt
theorem afS (n:Nat) (h:n≤256):aR Tryz.prog 292 [vI n] (vI (fT 9 n)) []:=by
 refine aA sS false Tryz.f292 ?_;conv=>enter[1];reduce
 refine bf Tryz.f292 9 [.tmp 2] (by kernel_rfl) (by decide +kernel) rfl ?_;refine aw ?_;refine aq.intro (dG _ _ _) ?_;have cc:aT (n:Int) 0 256=true:=cf.2 (by omega);have w1:IntKind.u64.wrap (n:Int)=(n:Int):=pT _ (by omega);simp -implicitDefEqProofs only[go_sem,cc,Bool.not_true,aY,w1];refine aq.intro (afL n (by omega)) ?_;exact dt
theorem Rv {x:BD}{l:List BD}(h:l≠[]):nE (x::l)=rh x (nE l):=by
 cases l with
 | nil=>exact absurd rfl h
 | cons y l=>rfl
theorem U2:∀(l:List BD),l.length≤8→aR Tryz.prog 291 [.ro 4 (l.map BD.cs)] (.agg (nE l).cs) []
 | [],h=>by
  refine aA sS false Tryz.f291 ?_;conv=>enter[1];reduce
  refine bf Tryz.f291 27 [.cell 2 39] (by kernel_rfl) (by decide +kernel) rfl ?_;simp -implicitDefEqProofs only[go_sem,z0];refine aq.intro (vN ⟨#[]⟩ (by decide)) ?_;simp -implicitDefEqProofs only[go_sem,nE];try rfl
 | [x],h=>by
  refine aA sS false Tryz.f291 ?_;conv=>enter[1];reduce
  refine bf Tryz.f291 27 [.cell 2 39] (by kernel_rfl) (by decide +kernel) rfl ?_;have e8:¬((1:Int)>8):=by decide
  simp -implicitDefEqProofs only[go_sem,z1,nE,e8]
 | x::y::l,h=>by
  have ih:=U2 (y::l) (by simp at h ⊢;omega);rw[Rv (l:=y::l) (by simp)];obtain⟨L,hL⟩:∃L,y::l=L:=⟨_,rfl⟩;rw[hL]at ih h ⊢;have Aa:1≤L.length:=by rw[←hL];simp
  clear hL;refine aA sS false Tryz.f291 ?_;conv=>enter[1];reduce
  refine bf Tryz.f291 27 [.cell 2 39] (by kernel_rfl) (by decide +kernel) rfl ?_;simp only[List.length_cons]at h;have e0:(((L.length+1:Nat):Int)==0)=false:=by rw[beq_eq_false_iff_ne];omega
  have e1:(((L.length+1:Nat):Int)==1)=false:=by rw[beq_eq_false_iff_ne];omega
  have e8:¬(((L.length+1:Nat):Int)>8):=by omega
  have k1:(1:Int)≤((L.length+1:Nat):Int):=by omega
  have k3:(0:Int)<((L.length+1:Nat):Int):=by omega
  have k2:List.take L.length L=L:=List.take_of_length_le (Nat.le_refl _);have k4:∀a,sub 1 L.length (a::List.map BD.cs L)=List.map BD.cs L:=fun a=>by unfold sub;rw[List.drop_succ_cons,List.drop_zero,List.take_of_length_le (by simp)]
  simp -implicitDefEqProofs only[go_sem,e0,e1,e8,aY,k1,k3,Nat.add_sub_cancel,k2,k4];refine cz ih ?_;refine aq.intro (MV _ _) ?_;exact dt
theorem abr {l:List BD}{i:Nat}(h:i+1<l.length):rh (l[i]'(by omega)) (nE (l.drop (i+1)))=nE (l.drop i):=by
 rw[List.drop_eq_getElem_cons (i:=i) (by omega),Rv];intro e;have:=congrArg List.length e;simp at this;omega
theorem afO (l:List BD) (h:l.length≤8):aR Tryz.prog 301 [.ro 4 (l.map BD.cs)] (.agg (nE l).cs) []:=by
 refine aA sS false Tryz.f301 ?_;conv=>enter[1];reduce
 refine bf Tryz.f301 33 [.cell 2 39] (by kernel_rfl) (by decide +kernel) rfl ?_;have e8:¬((l.length:Int)>8):=by omega
 rcases Nat.eq_zero_or_pos l.length with h0|h0
 ·have:l=[]:=List.eq_nil_of_length_eq_zero h0;subst this;have e8:¬((0:Int)>8):=by decide
  simp -implicitDefEqProofs only[go_sem,z0,e8];refine aq.intro (vO ⟨#[]⟩ (by decide)) ?_;simp -implicitDefEqProofs only[go_sem,nE];try rfl
 have e0:((l.length:Int)==0)=false:=by rw[beq_eq_false_iff_ne];omega
 have w1:IntKind.i64.wrap ((l.length:Int) - 1)=((l.length - 1:Nat):Int):=by rw[aV (by omega)];omega
 have w2:IntKind.i64.wrap ((l.length:Int) - 2)=((l.length - 1:Nat):Int) - 1:=by rw[aV (by omega)];omega
 have ab:l.length - 1<l.length:=by omega
 have k1:((l.length - 1:Nat):Int)<(l.length:Int):=by omega
 have hg:l[l.length - 1]?=some l[l.length - 1]:=bz ab;have acX:l[l.length - 1]=nE (l.drop (l.length - 1)):=by
  rw[List.drop_eq_getElem_cons (i:=l.length - 1) (by omega),show l.length - 1+1=l.length by omega,List.drop_length];rfl
 simp -implicitDefEqProofs only[go_sem,e0,e8,aY,w1,w2,k1,hg];refine cR (fun m s=>m<l.length∧s=⟨33,[(0,.ro 4 (l.map BD.cs)),(2,.ptr 2 0 [] 4 0 0),(3,.ptr 3 0 [] 4 0 0),(4,vI ((m:Int) - 1))],[(2,0,one ⟨4,[[.sc (.int .u64 0),.sc (.int .u64 0),.sc (.int .u64 0),.sc (.int .u64 0)]],0,false⟩),(3,0,one ⟨4,[(nE (l.drop m)).cs],0,false⟩)],1⟩) (l.length - 1) ?_ ?_
 ·refine aw ?_;exact⟨ab,by rw[←acX]⟩
 rintro m s ⟨hm,rfl⟩;cases m with
 | zero=>
  have c0:¬(((0:Nat):Int) - 1≥0):=by omega
  simp -implicitDefEqProofs only[go_sem,c0,List.drop_zero]
 | succ m=>
  have c0:((m+1:Nat):Int) - 1≥0:=by omega
  have c1:((m+1:Nat):Int) - 1=(m:Int):=by omega
  have c2:(m:Int)≥0:=by omega
  have c3:(m:Int)<(l.length:Int):=by omega
  have hg:l[m]?=some (l[m]'(by omega)):=bz (by omega);have w3:IntKind.i64.wrap ((m:Int) - 1)=(m:Int) - 1:=aV (by omega);rw[c1];refine ez c2 c3 hg ?_;refine aq.intro (Nh _ _) ?_;rw[abr hm];refine aC w3 ?_;exact⟨m,by omega,by omega,rfl⟩
def xe (m at_:Nat):Nat:=((fU m 0 m).filter fun x=>decide (x.1<at_)).length
theorem aal:∀(a b lo m:Nat),m - lo≤a→m - lo≤b→fU a lo m=fU b lo m:=by
 intro a;induction a with
 | zero=>intro b lo m h1 h2;rw[uP (k:=b) (by omega)];rfl
 | succ a ih=>
  intro b lo m h1 h2;cases b with
  | zero=>rw[uP (k:=a+1) (by omega)];rfl
  | succ b=>
   rw[fU,fU];split
   ·have:=z8 (n:=m - lo) (by omega);rw[ih b (lo+half (m - lo)) m (by omega) (by omega)]
   rfl
theorem Qj:∀(k lo m:Nat),∀x∈fU k lo m,lo≤x.1
 | 0,lo,m,x,hx=>by simp[fU]at hx
 | k+1,lo,m,x,hx=>by
  rw[fU]at hx;split at hx
  ·rcases List.mem_cons.1 hx with rfl|hx
   ·exact Nat.le_refl _
   have:=Qj k _ m x hx;omega
  simp at hx
theorem afJ (m at_:Nat) (h:m≤256) (h2:at_≤256):aR Tryz.prog 311 [vI m,vI at_] (vI (xe m at_)) []:=by
 refine aA sS false Tryz.f311 ?_;conv=>enter[1];reduce
 refine bf Tryz.f311 24 [.tmp 4] (by kernel_rfl) (by decide +kernel) rfl ?_;refine aw ?_;refine cR (fun k s=>∃lo c:Nat,lo≤m∧k=m - lo∧c≤lo∧c+((fU k lo m).filter fun x=>decide (x.1<at_)).length=xe m at_∧s=⟨24,[(0,vI m),(1,vI at_),(5,vI c),(6,vI lo)],[],1⟩) m ?_ ?_
 ·refine aw ?_;exact⟨0,0,aQ _,rfl,Nat.le_refl _,by rw[Nat.zero_add];rfl,rfl⟩
 rintro k s ⟨lo,c,jt,rfl,hc,hq,rfl⟩;by_cases h1:lo<m
 ·have oM:(lo:Int)<(m:Int):=by omega
  by_cases h3:lo<at_
  ·have oL:(lo:Int)<(at_:Int):=by omega
   have hb:=z8 (n:=m - lo) (by omega);obtain⟨k',bW⟩:∃k',m - lo=k'+1:=⟨m - lo - 1,by omega⟩;have w1:IntKind.i64.wrap ((m:Int) - (lo:Int))=((m - lo:Nat):Int):=by rw[aV (by omega)];omega
   have hp:fU (m - lo) lo m=(lo,lo+half (m - lo))::fU (m - (lo+half (m - lo))) (lo+half (m - lo)) m:=by
    conv=>lhs;rw[bW]
    rw[fU,if_pos h1,aal k' (m - (lo+half (m - lo))) _ m (by omega) (Nat.le_refl _)]
   rw[hp,List.filter_cons_of_pos (by simpa using h3),List.length_cons]at hq;refine A3 oM oL w1 ?_;refine aq.intro (UW (m - lo) (by omega) (by omega)) ?_;clear hp bW;generalize half (m - lo)=d at *;have w2:IntKind.i64.wrap ((lo:Int)+(d:Int))=((lo+d:Nat):Int):=by rw[aV (by omega)];omega
   have w3:IntKind.i64.wrap ((c:Int)+1)=((c+1:Nat):Int):=by rw[aV (by omega)];omega
   refine cg w2 w3 ?_;exact⟨_,by omega,lo+d,c+1,by omega,rfl,by omega,by omega,rfl⟩
  have oL:¬(lo:Int)<(at_:Int):=by omega
  have e:((fU (m - lo) lo m).filter fun x=>decide (x.1<at_))=[]:=by
   rw[List.filter_eq_nil_iff];intro x hx;have:=Qj _ _ _ x hx;simp;omega
  rw[e]at hq;have hq:c=xe m at_:=by simpa using hq
  simp -implicitDefEqProofs only[go_sem,oM,oL,bc];rw[hq]
 have oM:¬(lo:Int)<(m:Int):=by omega
 rw[uP (by omega)]at hq;have hq:c=xe m at_:=by simpa using hq
 simp -implicitDefEqProofs only[go_sem,oM,bc];rw[hq]
def nK (x:Nd):AV:=.agg [vI x.1,vI x.2]
def mc (X:List Nd) (D:List BD):MC:=(X.zip D).map fun p=>(nK p.1,.agg p.2.cs)
theorem aei:jh Tryz.prog 301=some [.int .i64,.int .i64]:=by kernel_rfl
theorem R6 (x y:Nd):xt Tryz.prog 301 (nK x) (nK y)=some (decide (x=y)):=by
 unfold xt nK;rw[aei];simp only[Option.bind_some,vz,oI,if_true,Option.map_some,Bool.and_true];congr 1;obtain⟨a,b⟩:=x;obtain⟨c,d⟩:=y;rw[Bool.eq_iff_iff];simp only[Bool.and_eq_true,beq_iff_eq,decide_eq_true_eq,Prod.mk.injEq];omega
theorem Kx (x:Nd):sk Tryz.prog 301 (nK x)=true:=by
 unfold sk;rw[R6];rfl
def p9 (x:Nd) (X:List Nd) (D:List BD):Option BD:=((X.zip D).find? fun p=>decide (x=p.1)).map (·.2)
theorem L5 (x:Nd):∀(X:List Nd) (D:List BD),oQ Tryz.prog 301 (nK x) (mc X D)=some ((p9 x X D).map fun d=>.agg d.cs)
 | [],D=>rfl
 | y::X,[]=>rfl
 | y::X,d::D=>by
  unfold mc p9;simp only[List.zip_cons_cons,List.map_cons,oQ,R6,List.find?_cons];by_cases h:x=y
  ·simp[h]
  simp only[h,decide_false];exact L5 x X D
theorem Rb {x:Nd}{X:List Nd}{D:List BD}(h:x ∉ X):p9 x X D=none:=by
 unfold p9;rw[Option.map_eq_none_iff,List.find?_eq_none];intro p hp;have:=(List.of_mem_zip hp).1;simp only[decide_eq_true_eq];rintro rfl;exact h this
theorem Rc:∀{X:List Nd}{D:List BD}{i:Nat},X.Pairwise (·≠·)→(hi:i<X.length)→(hd:i<D.length)→p9 X[i] X D=some D[i]
 | [],_,i,_,hi,_=>by simp at hi
 | x::X,[],i,_,_,hd=>by simp at hd
 | x::X,d::D,0,_,_,_=>by simp[p9,List.zip_cons_cons,List.find?_cons]
 | x::X,d::D,i+1,hp,hi,hd=>by
  obtain⟨h1,h2⟩:=List.pairwise_cons.1 hp;have fK:i<X.length:=by simpa using hi
  have qo:i<D.length:=by simpa using hd
  have bO:X[i]≠x:=fun e=>h1 X[i] (List.getElem_mem fK) e.symm
  have ih:=Rc h2 fK qo;unfold p9 at ih ⊢;simp only[List.getElem_cons_succ,List.zip_cons_cons,List.find?_cons,bO,decide_false];exact ih
theorem ae7 (x:Nd):kB (nK x)=some [10,3,rL x.1,3,rL x.2]:=rfl
theorem ae8 (d:BD):kB (.agg d.cs)=some [10,7,rL d.a.toNat,7,rL d.b.toNat,7,rL d.c.toNat,7,rL d.d.toNat]:=rfl
theorem aat (C:MC):(1≤qP C)=True:=eq_true (Nat.le_trans (by decide) (J0 C))
theorem ahm (C:MC):Nat.ble 1 (qP C)=true:=Nat.ble_eq_true_of_le (Nat.le_trans (by decide) (J0 C))
attribute [go_sem] aat ahm
theorem J6:tG Tryz.prog 305=some (301,39):=by kernel_rfl
theorem N9:Eg Tryz.prog 39=some (.agg #[.int .u64 0,.int .u64 0,.int .u64 0,.int .u64 0]):=by kernel_rfl
theorem aba {X:List Nd}{D:List BD}{i:Nat}(h1:i<X.length) (h2:i<D.length):mc (X.take i) (D.take i)++[(nK X[i],.agg D[i].cs)]=mc (X.take (i+1)) (D.take (i+1)):=by
 unfold mc;rw[List.take_succ_eq_append_getElem h1,List.take_succ_eq_append_getElem h2,List.zip_append (by simp;omega),List.map_append];rfl
theorem U0 (m n:Nat) (D:List BD) (h:1≤n) (h2:n≤256) (hD:D.length=(gA m n).length):bb Tryz.prog 294 [] [vI m,vI n,.ro 4 (D.map BD.cs)] (.mr 0 0 []) [(0,0,one (gR (mc (gA m n) D)))]:=by
 refine aA sS false Tryz.f294 ?_;conv=>enter[1];reduce
 refine bT Tryz.f294 36 [.tmp 6] (by kernel_rfl) (by decide +kernel) rfl ?_;refine aw ?_;refine aD.intro (MT m n h h2) ?_;have na:=pE (m:=m) n 0 n (by omega) (by omega);have ej:((gN m n 0 n).1++(gN m n 0 n).2).length≤maxLen∧((gN m n 0 n).1++(gN m n 0 n).2).length * 16≤140737488355328:=by
  simp only[List.length_append,maxLen];omega
 have vm:=O6 (Ti (m:=m) h);simp -implicitDefEqProofs only[go_sem,ej,←List.map_append];unfold gA at *;generalize hX:(gN m n 0 n).1++(gN m n 0 n).2=X at *;have S4:X.length≤600:=by rw[←hX,List.length_append];omega
 refine cR (fun k s=>∃i,i≤X.length∧k=X.length - i∧s=⟨36,[(2,.ro 4 (D.map BD.cs)),(9,.mr 9 0 []),(21,.au 21 0 [] 2 0 X.length),(22,vI X.length),(23,vI i)],[(9,0,one (gR (mc (X.take i) (D.take i)))),(21,0,one (xd X))],1⟩) X.length ?_ ?_
 ·refine aw ?_;exact⟨0,aQ _,rfl,rfl⟩
 rintro k s ⟨i,hi,rfl,rfl⟩;rcases bm i X.length with ab|bH
 ·have ae:(i:Int)<(X.length:Int):=by omega
  have q8:i<D.length:=by omega
  have acW:(i:Int)<(D.length:Int):=by omega
  have hg:X[i]?=some X[i]:=bz ab;have hgd:D[i]?=some D[i]:=bz q8;have hw:=df ab (by unfold maxLen;omega);have eH:X[i] ∉ X.take i:=fun hm=>by
   obtain⟨j,hj,e⟩:=List.getElem_of_mem hm;rw[List.length_take]at hj;rw[List.getElem_take]at e;exact(List.pairwise_iff_getElem.1 vm j i (by omega) ab (by omega)) e
  have hf:=L5 X[i] (X.take i) (D.take i);rw[Rb eH]at hf;simp -implicitDefEqProofs only[go_sem,ae,acW,hg,hgd,nC];refine aa1 J6 (Kx X[i]) hf (ae7 X[i]) (ae8 D[i]) ?_;refine aC hw ?_;exact⟨_,by omega,i+1,ab,rfl,by rw[←aba ab q8];rfl⟩
 have hi:i=X.length:=by omega
 subst hi;have ae:¬((X.length:Int)<(X.length:Int)):=by omega
 have e2:D.take X.length=D:=List.take_of_length_le (by omega);exact rM ae e2
def nF (D:Nd→BD) (m:Nat):Nat→Nat→Nat→BD
 | 0,lo,hi=>D (lo,hi)
 | k+1,lo,hi=>if hi≤m∨m≤lo then D (lo,hi) else rh (nF D m k lo (lo+cB (hi - lo))) (nF D m k (lo+cB (hi - lo)) hi)
theorem Ke {D:Nd→BD}{m k lo hi:Nat}(h:hi≤m∨m≤lo):nF D m (k+1) lo hi=D (lo,hi):=by rw[nF,if_pos h]
theorem Rw {D:Nd→BD}{m k lo hi:Nat}(h:¬(hi≤m∨m≤lo)):nF D m (k+1) lo hi=rh (nF D m k lo (lo+cB (hi - lo))) (nF D m k (lo+cB (hi - lo)) hi):=by rw[nF,if_neg h]
theorem MQ (C:MC) (L:Nd→Option BD) (D:Nd→BD) (m:Nat) (hC:∀x,oQ Tryz.prog 301 (nK x) C=some ((L x).map fun d=>.agg d.cs)) (K5:∀x:Nd,x.1<m→m<x.2→L x=none):
  ∀(k lo hi:Nat),lo<hi→hi≤256→hi - lo≤k→(∀x,x∈(gN m k lo hi).1∨x∈(gN m k lo hi).2→L x=some (D x))→
  bb Tryz.prog 293 [(1000000,0,one (gR C))] [.mr 1000000 0 [],.agg [vI lo,vI hi]] (.agg (nF D m k lo hi).cs) [(1000000,0,one (gR C))]
 | 0,lo,hi,h,h2,hk,cc=>by omega
 | k+1,lo,hi,h,h2,hk,cc=>by
  have hf:=hC (lo,hi);refine aA sS false Tryz.f293 ?_;conv=>enter[1];reduce
  refine bT Tryz.f293 29 [.cell 4 39] (by kernel_rfl) (by decide +kernel) rfl ?_;by_cases c:hi≤m∨m≤lo
  ·have hx:L (lo,hi)=some (D (lo,hi)):=by
    refine cc (lo,hi) ?_;by_cases h1:hi≤m
    ·rw[qt h1];simp
    rw[pD h1 (c.resolve_left h1)];simp
   rw[hx]at hf;rw[Ke c];refine aw ?_;refine RG J6 N9 (Kx (lo,hi)) hf ?_;generalize D (lo,hi)=d;simp -implicitDefEqProofs only[go_sem,aZ]
  have hx:L (lo,hi)=none:=K5 (lo,hi) (by show lo<m;omega) (by show m<hi;omega);rw[hx]at hf;rw[Rw c];have hs:=og (n:=hi - lo) (by omega);have e:=qu (m:=m) (k:=k) (lo:=lo) (hi:=hi) (by omega) (by omega);have i1:=MQ C L D m hC K5 k lo (lo+cB (hi - lo)) (by omega) (by omega) (by omega) (fun x hx=>cc x (by
   rw[e];rcases hx with hx|hx
   ·exact .inl (List.mem_append_left _ hx)
   exact .inr (List.mem_append_left _ hx)))
  have i2:=MQ C L D m hC K5 k (lo+cB (hi - lo)) hi (by omega) (by omega) (by omega) (fun x hx=>cc x (by
   rw[e];rcases hx with hx|hx
   ·exact .inl (List.mem_append_right _ hx)
   exact .inr (List.mem_append_right _ hx)))
  refine aw ?_;refine RG J6 N9 (Kx (lo,hi)) hf ?_;simp -implicitDefEqProofs only[go_sem,aY];refine cz (ML lo hi (by omega) h2) ?_;refine eP i1 ?_;refine eP i2 ?_;refine aq.intro (MV _ _) ?_;exact dt
def aeT:bX:=⟨[(293,.cm [true,false]),(294,.cm [false,false,false])],[9,10,11],[24,26,30,44,47,50,51,52,57,58,59,62,76,88,138,185,186,187,253,254,297,311],false⟩
def bd0:BD:=⟨0,0,0,0⟩
def mD (P:List BD) (m n:Nat) (x:Nd):BD:=(p9 x (gA m n) P).getD bd0
theorem RE {P:List BD}{m n i:Nat}(h:1≤n) (hi:i<(gA m n).length) (hP:P.length=(gA m n).length):p9 (gA m n)[i] (gA m n) P=some (P[i]'(by omega)):=
 Rc (O6 (Ti h)) hi (by omega)
theorem Rf {l:List Nd}(hl:AQ l) {x:Nd}(hx:x∈l):∃h:(l.filter fun y=>decide (y.1<x.1)).length<l.length,l[(l.filter fun y=>decide (y.1<x.1)).length]=x:=by
 obtain⟨i,hi,rfl⟩:=List.getElem_of_mem hx;have e:=O5 hl hi;exact⟨by rw[e];exact hi,by simp only[e]⟩
theorem RC {P:List BD}{m n:Nat}(h1:0<m) (h2:m<n) (h3:n≤256) (hP:P.length=(gA m n).length) {x:Nd}(hx:x∈(gN m n 0 n).2):
  p9 x (gA m n) P=some (mD P m n x)∧∃i,i=fT 9 m+ka m n 0 n x.1∧P[i]?=some (mD P m n x):=by
 obtain⟨ab,he⟩:=Rf (CY (m:=m) n 0 n (by omega) (by omega)).2 hx;have e1:=Fh h1 h2 h3;have hg:(gA m n).length=(gN m n 0 n).1.length+(gN m n 0 n).2.length:=by unfold gA;rw[List.length_append]
 obtain⟨j,hj⟩:∃j,((gN m n 0 n).2.filter fun y=>decide (y.1<x.1)).length=j:=⟨_,rfl⟩;simp only[hj]at ab he;have hi:(gN m n 0 n).1.length+j<(gA m n).length:=by omega
 have CF:(gA m n)[(gN m n 0 n).1.length+j]=x:=by
  have hq:(gA m n)[(gN m n 0 n).1.length+j]?=some x:=by
   show((gN m n 0 n).1++(gN m n 0 n).2)[(gN m n 0 n).1.length+j]?=some x
   rw[List.getElem?_append_right (Nat.le_add_right _ _),Nat.add_sub_cancel_left,bz ab,he]
  rw[bz hi]at hq;exact Option.some.inj hq
 have hf:=RE (P:=P) (m:=m) (n:=n) (by omega) hi hP;rw[CF]at hf;have hd:mD P m n x=P[(gN m n 0 n).1.length+j]'(by omega):=by unfold mD;rw[hf];rfl
 refine⟨by rw[hf,hd],(gN m n 0 n).1.length+j,by rw[e1];unfold ka;rw[hj],?_⟩;rw[hd];exact bz _
theorem RB {P:List BD}{m n:Nat}(h1:0<m) (h2:m<n) (h3:n≤256) (hP:P.length=(gA m n).length) {x:Nd}(hx:x∈(gN m n 0 n).1):
  p9 x (gA m n) P=some (mD P m n x)∧∃i,i=xe m x.1∧P[i]?=some (mD P m n x):=by
 obtain⟨ab,he⟩:=Rf (CY (m:=m) n 0 n (by omega) (by omega)).1 hx;have e1:=CZ (m:=m) n m 0 n (by omega) (by omega) (by omega) (by omega);have hg:(gA m n).length=(gN m n 0 n).1.length+(gN m n 0 n).2.length:=by unfold gA;rw[List.length_append]
 obtain⟨j,hj⟩:∃j,((gN m n 0 n).1.filter fun y=>decide (y.1<x.1)).length=j:=⟨_,rfl⟩;simp only[hj]at ab he;have hi:j<(gA m n).length:=by omega
 have CF:(gA m n)[j]=x:=by
  have hq:(gA m n)[j]?=some x:=by
   show((gN m n 0 n).1++(gN m n 0 n).2)[j]?=some x
   rw[List.getElem?_append_left ab,bz ab,he]
  rw[bz hi]at hq;exact Option.some.inj hq
 have hf:=RE (P:=P) (m:=m) (n:=n) (by omega) hi hP;rw[CF]at hf;have hd:mD P m n x=P[j]'(by omega):=by unfold mD;rw[hf];rfl
 refine⟨by rw[hf,hd],j,by unfold xe;rw[←e1,hj],?_⟩;rw[hd];exact bz _
theorem adA {m k lo hi:Nat}(h1:¬hi≤m) (h2:¬m≤lo) {A B:List Nd}(h:(∀x∈(gN m (k+1) lo hi).1,x∈A)∧(∀x∈(gN m (k+1) lo hi).2,x∈B)):
  ((∀x∈(gN m k lo (lo+cB (hi - lo))).1,x∈A)∧(∀x∈(gN m k lo (lo+cB (hi - lo))).2,x∈B))∧((∀x∈(gN m k (lo+cB (hi - lo)) hi).1,x∈A)∧(∀x∈(gN m k (lo+cB (hi - lo)) hi).2,x∈B)):=by
 rw[qu h1 h2]at h;exact⟨⟨fun x hx=>h.1 x (List.mem_append_left _ hx),fun x hx=>h.2 x (List.mem_append_left _ hx)⟩,⟨fun x hx=>h.1 x (List.mem_append_right _ hx),fun x hx=>h.2 x (List.mem_append_right _ hx)⟩⟩
theorem MM (P:List BD) (m n:Nat) (h1:0<m) (h2:m<n) (h3:n≤256) (hP:P.length=(gA m n).length):
  ∀(k lo hi:Nat),lo<hi→hi≤n→hi - lo≤k→((∀x∈(gN m k lo hi).1,x∈(gN m n 0 n).1)∧(∀x∈(gN m k lo hi).2,x∈(gN m n 0 n).2))→
  aR Tryz.prog 303 [vI lo,vI hi,vI m,vI n,.ro 4 (P.map BD.cs)] (.agg (nF (mD P m n) m k lo hi).cs) []
 | 0,lo,hi,h,hn,hk,cc=>by omega
 | k+1,lo,hi,h,hn,hk,cc=>by
  refine aA aeT false Tryz.f303 ?_;conv=>enter[1];reduce
  refine bf Tryz.f303 53 [.cell 10 39] (by kernel_rfl) (by decide +kernel) rfl ?_;have Gr:=Jy 9 m;by_cases c2:m≤lo
  ·have iA:(lo:Int)≥(m:Int):=by omega
   have hx:(lo,hi)∈(gN m n 0 n).2:=cc.2 _ (by rw[pD (by omega) c2];simp);obtain⟨-,i,xZ,xY⟩:=RC h1 h2 h3 hP hx;have hr:=JW (m:=m) (k:=n) (lo:=0) (hi:=n) (at_:=lo) (by omega) (by omega);have w1:IntKind.i64.wrap ((fT 9 m:Int)+(ka m n 0 n lo:Int))=((i:Nat):Int):=by rw[aV (by omega)];simp only[xZ];omega
   have ab:i<P.length:=(List.getElem?_eq_some_iff.1 xY).1;have ae:(i:Int)<(P.length:Int):=by omega
   rw[Ke (.inr c2)];refine Ew iA ?_;refine cz (MN m (by omega)) ?_;refine aq.intro (Hz m lo n 0 n (by omega) (by omega) (by omega)) ?_;simp -implicitDefEqProofs only[go_sem,w1,ae,xY]
  have iA:¬(lo:Int)≥(m:Int):=by omega
  by_cases c1:hi≤m
  ·have dU:(hi:Int)≤(m:Int):=by omega
   have hx:(lo,hi)∈(gN m n 0 n).1:=cc.1 _ (by rw[qt c1];simp);obtain⟨-,i,xZ,xY⟩:=RB h1 h2 h3 hP hx;have ab:i<P.length:=(List.getElem?_eq_some_iff.1 xY).1;have ae:(i:Int)<(P.length:Int):=by omega
   rw[Ke (.inl c1)];refine yQ iA dU ?_;have hc:=afJ m lo (by omega) (by omega);rw[←show i=xe m lo from xZ]at hc;refine aq.intro hc ?_;exact dk ae xY
  have dU:¬(hi:Int)≤(m:Int):=by omega
  have hs:=og (n:=hi - lo) (by omega);obtain⟨s1,s2⟩:=adA c1 c2 cc;have w1:IntKind.i64.wrap ((hi:Int) - (lo:Int))=((hi - lo:Nat):Int):=by rw[aV (by omega)];omega
  have w2:IntKind.i64.wrap ((lo:Int)+((cB (hi - lo):Nat):Int))=((lo+cB (hi - lo):Nat):Int):=by rw[aV (by omega)];omega
  rw[Rw (fun h=>h.elim c1 c2)];simp -implicitDefEqProofs only[go_sem,iA,dU,w1,aY];refine jm (HM (hi - lo) (by omega) (by omega)) w2 ?_;refine cz (MM P m n h1 h2 h3 hP k lo (lo+cB (hi - lo)) (by omega) (by omega) (by omega) s1) ?_;refine cz (MM P m n h1 h2 h3 hP k (lo+cB (hi - lo)) hi (by omega) (by omega) (by omega) s2) ?_;refine aq.intro (Nh _ _) ?_;exact dt
theorem UX (P:List BD) (m n:Nat) (h1:0<m) (h2:m<n) (h3:n≤256) (hP:P.length=(gA m n).length):
  aR Tryz.prog 303 [vI 0,vI n,vI m,vI n,.ro 4 (P.map BD.cs)] (.agg (nF (mD P m n) m n 0 n).cs) []:=
 MM P m n h1 h2 h3 hP n 0 n (by omega) (Nat.le_refl _) (by omega) ⟨fun _ h=>h,fun _ h=>h⟩
theorem U1 (P:List BD) (m n:Nat) (h1:0<m) (h2:m<n) (h3:n≤256) (hP:P.length=(gA m n).length):
  bb Tryz.prog 293 [(1000000,0,one (gR (mc (gA m n) P)))] [.mr 1000000 0 [],.agg [vI 0,vI n]] (.agg (nF (mD P m n) m n 0 n).cs) [(1000000,0,one (gR (mc (gA m n) P)))]:=by
 refine MQ (mc (gA m n) P) (fun x=>p9 x (gA m n) P) (mD P m n) m (fun x=>L5 x _ _) (fun x fJ aX=>Rb ?_) n 0 n (by omega) h3 (by omega) ?_
 ·intro hx;have s:=GW (m:=m) n 0 n;rcases List.mem_append.1 hx with hx|hx
  ·have:=s.1 x hx;omega
  have:=s.2 x hx;omega
 rintro x (hx|hx)
 ·exact(RB h1 h2 h3 hP hx).1
 exact(RC h1 h2 h3 hP hx).1
end Go.Proofs.YtobpfkgabdeefaaGreat.E
