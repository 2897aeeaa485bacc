/- Contracts: peaks; maps of nodes; Contracts: growths checked -/
import Derived.Test.YtobpfkgabdeefaaGreatQ24
namespace Go.Proofs.YtobpfkgabdeefaaGreat.E
open Go Go.RowKit
set_option maxHeartbeats 4000000
set_option maxRecDepth 10000
set_option linter.unusedSimpArgs false
set_option linter.unusedVariables false
set_option linter.unusedSectionVars false
def tf:cc:=⟨[(287,.cm [false,false]),(293,.cm [true,false])],cw,cz,false⟩
theorem afU (n:Nat) (h:n<257):ba Tryz.prog 313 [vU n] (vI (gm 9 n)) []:=by
 refine aF tf false Tryz.f313 ?_;conv=>enter[1];reduce
 refine bu Tryz.f313 35 [.tmp 2] (by kernel_rfl) (by decide +kernel) rfl ?_;refine au ?_;refine congrArg (fun z:Int=>AV.sc (.int .i64 z)) ?_;obtain⟨m,rfl⟩:∃m:Fin 257,n=m.val:=⟨⟨n,h⟩,rfl⟩;clear h;revert m;decide +kernel
theorem afW (n:Nat) (h:n<257):ba Tryz.prog 307 [vU n] (vI (gm 9 n)) []:=by
 refine aF tf false Tryz.f307 ?_;conv=>enter[1];reduce
 refine bu Tryz.f307 8 [.tmp 2] (by kernel_rfl) (by decide +kernel) rfl ?_;refine au ?_;refine aq.intro (afU n h) ?_;exact dy
theorem af3 (n:Nat) (h:n<=256):ba Tryz.prog 292 [vI n] (vI (gm 9 n)) []:=by
 refine aF tf false Tryz.f292 ?_;conv=>enter[1];reduce
 refine bu Tryz.f292 9 [.tmp 2] (by kernel_rfl) (by decide +kernel) rfl ?_;refine au ?_;refine aq.intro (dQ _ _ _) ?_;have cq:aS (n:Int) 0 256=true:=cr.2 (by omega);have w1:IntKind.u64.wrap (n:Int)=(n:Int):=qW _ (by omega);simp -implicitDefEqProofs only[go_sem,cq,Bool.not_true,aV,w1];refine aq.intro (afW n (by omega)) ?_;exact dy
theorem Rw {x:BD}{l:List BD}(h:l≠[]):nV (x::l)=rI x (nV l):=by
 cases l with
 | nil=>exact absurd rfl h
 | cons y l=>rfl
theorem U4:∀(l:List BD),l.length<=8->ba Tryz.prog 291 [.ro 4 (l.map BD.cs)] (.agg (nV l).cs) []
 | [],h=>by
  refine aF tf false Tryz.f291 ?_;conv=>enter[1];reduce
  refine bu Tryz.f291 27 [.cell 2 39] (by kernel_rfl) (by decide +kernel) rfl ?_;simp -implicitDefEqProofs only[go_sem,z0];refine aq.intro (v8 ⟨#[]⟩ (by decide)) ?_;simp -implicitDefEqProofs only[go_sem,nV];try rfl
 | [x],h=>by
  refine aF tf false Tryz.f291 ?_;conv=>enter[1];reduce
  refine bu Tryz.f291 27 [.cell 2 39] (by kernel_rfl) (by decide +kernel) rfl ?_;have e8:¬((1:Int)>8):=by decide
  simp -implicitDefEqProofs only[go_sem,z1,nV,e8]
 | x::y::l,h=>by
  have ih:=U4 (y::l) (by simp at h ⊢;omega);rw[Rw (l:=y::l) (by simp)];obtain⟨L,hL⟩:∃L,y::l=L:=⟨_,rfl⟩;rw[hL]at ih h ⊢;have hL1:1<=L.length:=by rw[<-hL];simp
  clear hL;refine aF tf false Tryz.f291 ?_;conv=>enter[1];reduce
  refine bu Tryz.f291 27 [.cell 2 39] (by kernel_rfl) (by decide +kernel) rfl ?_;simp only[List.length_cons]at h;have e0:(((L.length+1:Nat):Int)==0)=false:=by rw[beq_eq_false_iff_ne];omega
  have e1:(((L.length+1:Nat):Int)==1)=false:=by rw[beq_eq_false_iff_ne];omega
  have e8:¬(((L.length+1:Nat):Int)>8):=by omega
  have k1:(1:Int)<=((L.length+1:Nat):Int):=by omega
  have k3:(0:Int)<((L.length+1:Nat):Int):=by omega
  have k2:List.take L.length L=L:=List.take_of_length_le (Nat.le_refl _);have k4:∀a,sub 1 L.length (a::List.map BD.cs L)=List.map BD.cs L:=fun a=>by unfold sub;rw[List.drop_succ_cons,List.drop_zero,List.take_of_length_le (by simp)]
  simp -implicitDefEqProofs only[go_sem,e0,e1,e8,aV,k1,k3,Nat.add_sub_cancel,k2,k4];refine cT ih ?_;refine aq.intro (MH _ _) ?_;exact dy
theorem abH {l:List BD}{i:Nat}(h:i+1<l.length):rI (l[i]'(by omega)) (nV (l.drop (i+1)))=nV (l.drop i):=by
 rw[List.drop_eq_getElem_cons (i:=i) (by omega),Rw];intro e;have:=congrArg List.length e;simp at this;omega
theorem afZ (l:List BD) (h:l.length<=8):ba Tryz.prog 301 [.ro 4 (l.map BD.cs)] (.agg (nV l).cs) []:=by
 refine aF tf false Tryz.f301 ?_;conv=>enter[1];reduce
 refine bu Tryz.f301 33 [.cell 2 39] (by kernel_rfl) (by decide +kernel) rfl ?_;have e8:¬((l.length:Int)>8):=by omega
 rcases Nat.eq_zero_or_pos l.length with h0|h0
 ·have:l=[]:=List.eq_nil_of_length_eq_zero h0;subst this;have e8:¬((0:Int)>8):=by decide
  simp -implicitDefEqProofs only[go_sem,z0,e8];refine aq.intro (v9 ⟨#[]⟩ (by decide)) ?_;simp -implicitDefEqProofs only[go_sem,nV];try rfl
 have e0:((l.length:Int)==0)=false:=by rw[beq_eq_false_iff_ne];omega
 have w1:IntKind.i64.wrap ((l.length:Int) - 1)=((l.length - 1:Nat):Int):=by rw[aN (by omega)];omega
 have w2:IntKind.i64.wrap ((l.length:Int) - 2)=((l.length - 1:Nat):Int) - 1:=by rw[aN (by omega)];omega
 have ab:l.length - 1<l.length:=by omega
 have k1:((l.length - 1:Nat):Int)<(l.length:Int):=by omega
 have hg:l[l.length - 1]?=some l[l.length - 1]:=bm ab;have adh:l[l.length - 1]=nV (l.drop (l.length - 1)):=by
  rw[List.drop_eq_getElem_cons (i:=l.length - 1) (by omega),show l.length - 1+1=l.length by omega,List.drop_length];rfl
 simp -implicitDefEqProofs only[go_sem,e0,e8,aV,w1,w2,k1,hg];refine dq (fun m s=>m<l.length/\s=⟨33,[(0,.ro 4 (l.map BD.cs)),(2,.ptr 2 0 [] 4 0 0),(3,.ptr 3 0 [] 4 0 0),(4,vI ((m:Int) - 1))],[(2,0,one ⟨4,[[.sc (.int .u64 0),.sc (.int .u64 0),.sc (.int .u64 0),.sc (.int .u64 0)]],0,false⟩),(3,0,one ⟨4,[(nV (l.drop m)).cs],0,false⟩)],1⟩) (l.length - 1) ?_ ?_
 ·refine au ?_;exact⟨ab,by rw[<-adh]⟩
 rintro m s ⟨hm,rfl⟩;cases m with
 | zero=>
  have c0:¬(((0:Nat):Int) - 1>=0):=by omega
  simp -implicitDefEqProofs only[go_sem,c0,List.drop_zero]
 | succ m=>
  have c0:((m+1:Nat):Int) - 1>=0:=by omega
  have c1:((m+1:Nat):Int) - 1=(m:Int):=by omega
  have c2:(m:Int)>=0:=by omega
  have c3:(m:Int)<(l.length:Int):=by omega
  have hg:l[m]?=some (l[m]'(by omega)):=bm (by omega);have w3:IntKind.i64.wrap ((m:Int) - 1)=(m:Int) - 1:=aN (by omega);rw[c1];refine eV c2 c3 hg ?_;refine aq.intro (M0 _ _) ?_;rw[abH hm];refine aA w3 ?_;exact⟨m,by omega,by omega,rfl⟩
def xp (m at_:Nat):Nat:=((gn m 0 m).filter fun x=>decide (x.1<at_)).length
theorem aav:∀(a b lo m:Nat),m - lo<=a->m - lo<=b->gn a lo m=gn b lo m:=by
 intro a;induction a with
 | zero=>intro b lo m h1 h2;rw[u3 (k:=b) (by omega)];rfl
 | succ a ih=>
  intro b lo m h1 h2;cases b with
  | zero=>rw[u3 (k:=a+1) (by omega)];rfl
  | succ b=>
   rw[gn,gn];split
   ·have:=zV (n:=m - lo) (by omega);rw[ih b (lo+half (m - lo)) m (by omega) (by omega)]
   rfl
theorem Qq:∀(k lo m:Nat),∀x∈gn k lo m,lo<=x.1
 | 0,lo,m,x,hx=>by simp[gn]at hx
 | k+1,lo,m,x,hx=>by
  rw[gn]at hx;split at hx
  ·rcases List.mem_cons.1 hx with rfl|hx
   ·exact Nat.le_refl _
   have:=Qq k _ m x hx;omega
  simp at hx
theorem afV (m at_:Nat) (h:m<=256) (h2:at_<=256):ba Tryz.prog 311 [vI m,vI at_] (vI (xp m at_)) []:=by
 refine aF tf false Tryz.f311 ?_;conv=>enter[1];reduce
 refine bu Tryz.f311 24 [.tmp 4] (by kernel_rfl) (by decide +kernel) rfl ?_;refine au ?_;refine dq (fun k s=>∃lo c:Nat,lo<=m/\k=m - lo/\c<=lo/\c+((gn k lo m).filter fun x=>decide (x.1<at_)).length=xp m at_/\s=⟨24,[(0,vI m),(1,vI at_),(5,vI c),(6,vI lo)],[],1⟩) m ?_ ?_
 ·refine au ?_;exact⟨0,0,aR _,rfl,Nat.le_refl _,by rw[Nat.zero_add];rfl,rfl⟩
 rintro k s ⟨lo,c,iU,rfl,hc,hq,rfl⟩;by_cases h1:lo<m
 ·have o6:(lo:Int)<(m:Int):=by omega
  by_cases h3:lo<at_
  ·have nJ:(lo:Int)<(at_:Int):=by omega
   have hb:=zV (n:=m - lo) (by omega);obtain⟨k',bV⟩:∃k',m - lo=k'+1:=⟨m - lo - 1,by omega⟩;have w1:IntKind.i64.wrap ((m:Int) - (lo:Int))=((m - lo:Nat):Int):=by rw[aN (by omega)];omega
   have hp:gn (m - lo) lo m=(lo,lo+half (m - lo))::gn (m - (lo+half (m - lo))) (lo+half (m - lo)) m:=by
    conv=>lhs;rw[bV]
    rw[gn,if_pos h1,aav k' (m - (lo+half (m - lo))) _ m (by omega) (Nat.le_refl _)]
   rw[hp,List.filter_cons_of_pos (by simpa using h3),List.length_cons]at hq;refine yO o6 nJ w1 ?_;refine aq.intro (UZ (m - lo) (by omega) (by omega)) ?_;clear hp bV;generalize half (m - lo)=d at *;have w2:IntKind.i64.wrap ((lo:Int)+(d:Int))=((lo+d:Nat):Int):=by rw[aN (by omega)];omega
   have w3:IntKind.i64.wrap ((c:Int)+1)=((c+1:Nat):Int):=by rw[aN (by omega)];omega
   refine b8 w2 w3 ?_;exact⟨_,by omega,lo+d,c+1,by omega,rfl,by omega,by omega,rfl⟩
  have nJ:¬(lo:Int)<(at_:Int):=by omega
  have e:((gn (m - lo) lo m).filter fun x=>decide (x.1<at_))=[]:=by
   rw[List.filter_eq_nil_iff];intro x hx;have:=Qq _ _ _ x hx;simp;omega
  rw[e]at hq;have hq:c=xp m at_:=by simpa using hq
  refine gI o6 nJ ?_;rw[hq]
 have o6:¬(lo:Int)<(m:Int):=by omega
 rw[u3 (by omega)]at hq;have hq:c=xp m at_:=by simpa using hq
 refine qd o6 ?_;rw[hq]
def nK (x:Nd):AV:=.agg [vI x.1,vI x.2]
def mc (X:List Nd) (D:List BD):MC:=(X.zip D).map fun p=>(nK p.1,.agg p.2.cs)
theorem aeu:jB Tryz.prog 301=some [.int .i64,.int .i64]:=by kernel_rfl
theorem Sa (x y:Nd):xz Tryz.prog 301 (nK x) (nK y)=some (decide (x=y)):=by
 unfold xz nK;rw[aeu];simp only[Option.bind_some,vQ,o0,if_true,Option.map_some,Bool.and_true];congr 1;obtain⟨a,b⟩:=x;obtain⟨c,d⟩:=y;rw[Bool.eq_iff_iff];simp only[Bool.and_eq_true,beq_iff_eq,decide_eq_true_eq,Prod.mk.injEq];omega
theorem Kn (x:Nd):sL Tryz.prog 301 (nK x)=true:=by
 unfold sL;rw[Sa];rfl
def qo (x:Nd) (X:List Nd) (D:List BD):Option BD:=((X.zip D).find? fun p=>decide (x=p.1)).map (·.2)
theorem LW (x:Nd):∀(X:List Nd) (D:List BD),o9 Tryz.prog 301 (nK x) (mc X D)=some ((qo x X D).map fun d=>.agg d.cs)
 | [],D=>rfl
 | y::X,[]=>rfl
 | y::X,d::D=>by
  unfold mc qo;simp only[List.zip_cons_cons,List.map_cons,o9,Sa,List.find?_cons];by_cases h:x=y
  ·simp[h]
  simp only[h,decide_false];exact LW x X D
theorem Rg {x:Nd}{X:List Nd}{D:List BD}(h:x ∉ X):qo x X D=none:=by
 unfold qo;rw[Option.map_eq_none_iff,List.find?_eq_none];intro p hp;have:=(List.of_mem_zip hp).1;simp only[decide_eq_true_eq];rintro rfl;exact h this
theorem Rh:∀{X:List Nd}{D:List BD}{i:Nat},X.Pairwise (·≠·)->(hi:i<X.length)->(hd:i<D.length)->qo X[i] X D=some D[i]
 | [],_,i,_,hi,_=>by simp at hi
 | x::X,[],i,_,_,hd=>by simp at hd
 | x::X,d::D,0,_,_,_=>by simp[qo,List.zip_cons_cons,List.find?_cons]
 | x::X,d::D,i+1,hp,hi,hd=>by
  obtain⟨h1,h2⟩:=List.pairwise_cons.1 hp;have fS:i<X.length:=by simpa using hi
  have qD:i<D.length:=by simpa using hd
  have bJ:X[i]≠x:=fun e=>h1 X[i] (List.getElem_mem fS) e.symm
  have ih:=Rh h2 fS qD;unfold qo at ih ⊢;simp only[List.getElem_cons_succ,List.zip_cons_cons,List.find?_cons,bJ,decide_false];exact ih
theorem afq (x:Nd):kN (nK x)=some [10,3,sa x.1,3,sa x.2]:=rfl
theorem afr (d:BD):kN (.agg d.cs)=some [10,7,sa d.a.toNat,7,sa d.b.toNat,7,sa d.c.toNat,7,sa d.d.toNat]:=rfl
theorem aaF (C:MC):(1<=rb C)=True:=eq_true (Nat.le_trans (by decide) (JV C))
theorem ahB (C:MC):Nat.ble 1 (rb C)=true:=Nat.ble_eq_true_of_le (Nat.le_trans (by decide) (JV C))
attribute [go_sem] aaF ahB
theorem J1:tU Tryz.prog 305=some (301,39):=by kernel_rfl
theorem NT:Ef Tryz.prog 39=some (.agg #[.int .u64 0,.int .u64 0,.int .u64 0,.int .u64 0]):=by kernel_rfl
theorem abp {X:List Nd}{D:List BD}{i:Nat}(h1:i<X.length) (h2:i<D.length):mc (X.take i) (D.take i)++[(nK X[i],.agg D[i].cs)]=mc (X.take (i+1)) (D.take (i+1)):=by
 unfold mc;rw[List.take_succ_eq_append_getElem h1,List.take_succ_eq_append_getElem h2,List.zip_append (by simp;omega),List.map_append];rfl
theorem U2 (m n:Nat) (D:List BD) (h:1<=n) (h2:n<=256) (hD:D.length=(gA m n).length):aY Tryz.prog 294 [] [vI m,vI n,.ro 4 (D.map BD.cs)] (.mr 0 0 []) [(0,0,one (ig (mc (gA m n) D)))]:=by
 refine aF tf false Tryz.f294 ?_;conv=>enter[1];reduce
 refine bI Tryz.f294 36 [.tmp 6] (by kernel_rfl) (by decide +kernel) rfl ?_;refine au ?_;refine aE.intro (ME m n h h2) ?_;have mo:=o7 (m:=m) n 0 n (by omega) (by omega);have gv:((gN m n 0 n).1++(gN m n 0 n).2).length<=maxLen/\((gN m n 0 n).1++(gN m n 0 n).2).length * 16<=140737488355328:=by
  simp only[List.length_append,maxLen];omega
 have Cw:=OY (Tn (m:=m) h);simp -implicitDefEqProofs only[go_sem,gv,<-List.map_append];unfold gA at *;generalize hX:(gN m n 0 n).1++(gN m n 0 n).2=X at *;have GU:X.length<=600:=by rw[<-hX,List.length_append];omega
 refine dq (fun k s=>∃i,i<=X.length/\k=X.length - i/\s=⟨36,[(2,.ro 4 (D.map BD.cs)),(9,.mr 9 0 []),(21,.aw 21 0 [] 2 0 X.length),(22,vI X.length),(23,vI i)],[(9,0,one (ig (mc (X.take i) (D.take i)))),(21,0,one (xo X))],1⟩) X.length ?_ ?_
 ·refine au ?_;exact⟨0,aR _,rfl,rfl⟩
 rintro k s ⟨i,hi,rfl,rfl⟩;rcases bp i X.length with ab|bM
 ·have ah:(i:Int)<(X.length:Int):=by omega
  have rD:i<D.length:=by omega
  have adg:(i:Int)<(D.length:Int):=by omega
  have hg:X[i]?=some X[i]:=bm ab;have hgd:D[i]?=some D[i]:=bm rD;have hw:=dx ab (by unfold maxLen;omega);have eU:X[i] ∉ X.take i:=fun hm=>by
   obtain⟨j,hj,e⟩:=List.getElem_of_mem hm;rw[List.length_take]at hj;rw[List.getElem_take]at e;exact(List.pairwise_iff_getElem.1 Cw j i (by omega) ab (by omega)) e
  have hf:=LW X[i] (X.take i) (D.take i);rw[Rg eU]at hf;simp -implicitDefEqProofs only[go_sem,ah,adg,hg,hgd,nC];refine abg J1 (Kn X[i]) hf (afq X[i]) (afr D[i]) ?_;refine aA hw ?_;exact⟨_,by omega,i+1,ab,rfl,by rw[<-abp ab rD];rfl⟩
 have hi:i=X.length:=by omega
 subst hi;have ah:¬((X.length:Int)<(X.length:Int)):=by omega
 have e2:D.take X.length=D:=List.take_of_length_le (by omega);exact sg ah e2
def nW (D:Nd->BD) (m:Nat):Nat->Nat->Nat->BD
 | 0,lo,hi=>D (lo,hi)
 | k+1,lo,hi=>if hi<=m\/m<=lo then D (lo,hi) else rI (nW D m k lo (lo+cH (hi - lo))) (nW D m k (lo+cH (hi - lo)) hi)
theorem J8 {D:Nd->BD}{m k lo hi:Nat}(h:hi<=m\/m<=lo):nW D m (k+1) lo hi=D (lo,hi):=by rw[nW,if_pos h]
theorem Rx {D:Nd->BD}{m k lo hi:Nat}(h:¬(hi<=m\/m<=lo)):nW D m (k+1) lo hi=rI (nW D m k lo (lo+cH (hi - lo))) (nW D m k (lo+cH (hi - lo)) hi):=by rw[nW,if_neg h]
theorem MB (C:MC) (L:Nd->Option BD) (D:Nd->BD) (m:Nat) (hC:∀x,o9 Tryz.prog 301 (nK x) C=some ((L x).map fun d=>.agg d.cs)) (KS:∀x:Nd,x.1<m->m<x.2->L x=none):
  ∀(k lo hi:Nat),lo<hi->hi<=256->hi - lo<=k->(∀x,x∈(gN m k lo hi).1\/x∈(gN m k lo hi).2->L x=some (D x))->
  aY Tryz.prog 293 [(1000000,0,one (ig C))] [.mr 1000000 0 [],.agg [vI lo,vI hi]] (.agg (nW D m k lo hi).cs) [(1000000,0,one (ig C))]
 | 0,lo,hi,h,h2,hk,cq=>by omega
 | k+1,lo,hi,h,h2,hk,cq=>by
  have hf:=hC (lo,hi);refine aF tf false Tryz.f293 ?_;conv=>enter[1];reduce
  refine bI Tryz.f293 29 [.cell 4 39] (by kernel_rfl) (by decide +kernel) rfl ?_;by_cases c:hi<=m\/m<=lo
  ·have hx:L (lo,hi)=some (D (lo,hi)):=by
    refine cq (lo,hi) ?_;by_cases h1:hi<=m
    ·rw[qH h1];simp
    rw[pW h1 (c.resolve_left h1)];simp
   rw[hx]at hf;rw[J8 c];refine au ?_;refine RI J1 NT (Kn (lo,hi)) hf ?_;generalize D (lo,hi)=d;simp -implicitDefEqProofs only[go_sem,aT]
  have hx:L (lo,hi)=none:=KS (lo,hi) (by show lo<m;omega) (by show m<hi;omega);rw[hx]at hf;rw[Rx c];have hs:=oH (n:=hi - lo) (by omega);have e:=qI (m:=m) (k:=k) (lo:=lo) (hi:=hi) (by omega) (by omega);have i1:=MB C L D m hC KS k lo (lo+cH (hi - lo)) (by omega) (by omega) (by omega) (fun x hx=>cq x (by
   rw[e];rcases hx with hx|hx
   ·exact .inl (List.mem_append_left _ hx)
   exact .inr (List.mem_append_left _ hx)))
  have i2:=MB C L D m hC KS k (lo+cH (hi - lo)) hi (by omega) (by omega) (by omega) (fun x hx=>cq x (by
   rw[e];rcases hx with hx|hx
   ·exact .inl (List.mem_append_right _ hx)
   exact .inr (List.mem_append_right _ hx)))
  refine au ?_;refine RI J1 NT (Kn (lo,hi)) hf ?_;simp -implicitDefEqProofs only[go_sem,aV];refine cT (Mw lo hi (by omega) h2) ?_;refine ep i1 ?_;refine ep i2 ?_;refine aq.intro (MH _ _) ?_;exact dy
def afa:cc:=⟨[(293,.cm [true,false]),(294,.cm [false,false,false])],cw,cz,false⟩
def bd0:BD:=⟨0,0,0,0⟩
def mD (P:List BD) (m n:Nat) (x:Nd):BD:=(qo x (gA m n) P).getD bd0
theorem RG {P:List BD}{m n i:Nat}(h:1<=n) (hi:i<(gA m n).length) (hP:P.length=(gA m n).length):qo (gA m n)[i] (gA m n) P=some (P[i]'(by omega)):=
 Rh (OY (Tn h)) hi (by omega)
theorem Rk {l:List Nd}(hl:AK l) {x:Nd}(hx:x∈l):∃h:(l.filter fun y=>decide (y.1<x.1)).length<l.length,l[(l.filter fun y=>decide (y.1<x.1)).length]=x:=by
 obtain⟨i,hi,rfl⟩:=List.getElem_of_mem hx;have e:=OX hl hi;exact⟨by rw[e];exact hi,by simp only[e]⟩
theorem RF {P:List BD}{m n:Nat}(h1:0<m) (h2:m<n) (h3:n<=256) (hP:P.length=(gA m n).length) {x:Nd}(hx:x∈(gN m n 0 n).2):
  qo x (gA m n) P=some (mD P m n x)/\∃i,i=gm 9 m+kC m n 0 n x.1/\P[i]?=some (mD P m n x):=by
 obtain⟨ab,he⟩:=Rk (CZ (m:=m) n 0 n (by omega) (by omega)).2 hx;have e1:=Fl h1 h2 h3;have hg:(gA m n).length=(gN m n 0 n).1.length+(gN m n 0 n).2.length:=by unfold gA;rw[List.length_append]
 obtain⟨j,hj⟩:∃j,((gN m n 0 n).2.filter fun y=>decide (y.1<x.1)).length=j:=⟨_,rfl⟩;simp only[hj]at ab he;have hi:(gN m n 0 n).1.length+j<(gA m n).length:=by omega
 have CG:(gA m n)[(gN m n 0 n).1.length+j]=x:=by
  have hq:(gA m n)[(gN m n 0 n).1.length+j]?=some x:=by
   show((gN m n 0 n).1++(gN m n 0 n).2)[(gN m n 0 n).1.length+j]?=some x
   rw[List.getElem?_append_right (Nat.le_add_right _ _),Nat.add_sub_cancel_left,bm ab,he]
  rw[bm hi]at hq;exact Option.some.inj hq
 have hf:=RG (P:=P) (m:=m) (n:=n) (by omega) hi hP;rw[CG]at hf;have hd:mD P m n x=P[(gN m n 0 n).1.length+j]'(by omega):=by unfold mD;rw[hf];rfl
 refine⟨by rw[hf,hd],(gN m n 0 n).1.length+j,by rw[e1];unfold kC;rw[hj],?_⟩;rw[hd];exact bm _
theorem RE {P:List BD}{m n:Nat}(h1:0<m) (h2:m<n) (h3:n<=256) (hP:P.length=(gA m n).length) {x:Nd}(hx:x∈(gN m n 0 n).1):
  qo x (gA m n) P=some (mD P m n x)/\∃i,i=xp m x.1/\P[i]?=some (mD P m n x):=by
 obtain⟨ab,he⟩:=Rk (CZ (m:=m) n 0 n (by omega) (by omega)).1 hx;have e1:=C1 (m:=m) n m 0 n (by omega) (by omega) (by omega) (by omega);have hg:(gA m n).length=(gN m n 0 n).1.length+(gN m n 0 n).2.length:=by unfold gA;rw[List.length_append]
 obtain⟨j,hj⟩:∃j,((gN m n 0 n).1.filter fun y=>decide (y.1<x.1)).length=j:=⟨_,rfl⟩;simp only[hj]at ab he;have hi:j<(gA m n).length:=by omega
 have CG:(gA m n)[j]=x:=by
  have hq:(gA m n)[j]?=some x:=by
   show((gN m n 0 n).1++(gN m n 0 n).2)[j]?=some x
   rw[List.getElem?_append_left ab,bm ab,he]
  rw[bm hi]at hq;exact Option.some.inj hq
 have hf:=RG (P:=P) (m:=m) (n:=n) (by omega) hi hP;rw[CG]at hf;have hd:mD P m n x=P[j]'(by omega):=by unfold mD;rw[hf];rfl
 refine⟨by rw[hf,hd],j,by unfold xp;rw[<-e1,hj],?_⟩;rw[hd];exact bm _
theorem adS {m k lo hi:Nat}(h1:¬hi<=m) (h2:¬m<=lo) {A B:List Nd}(h:(∀x∈(gN m (k+1) lo hi).1,x∈A)/\(∀x∈(gN m (k+1) lo hi).2,x∈B)):
  ((∀x∈(gN m k lo (lo+cH (hi - lo))).1,x∈A)/\(∀x∈(gN m k lo (lo+cH (hi - lo))).2,x∈B))/\((∀x∈(gN m k (lo+cH (hi - lo)) hi).1,x∈A)/\(∀x∈(gN m k (lo+cH (hi - lo)) hi).2,x∈B)):=by
 rw[qI h1 h2]at h;exact⟨⟨fun x hx=>h.1 x (List.mem_append_left _ hx),fun x hx=>h.2 x (List.mem_append_left _ hx)⟩,⟨fun x hx=>h.1 x (List.mem_append_right _ hx),fun x hx=>h.2 x (List.mem_append_right _ hx)⟩⟩
theorem Mx (P:List BD) (m n:Nat) (h1:0<m) (h2:m<n) (h3:n<=256) (hP:P.length=(gA m n).length):
  ∀(k lo hi:Nat),lo<hi->hi<=n->hi - lo<=k->((∀x∈(gN m k lo hi).1,x∈(gN m n 0 n).1)/\(∀x∈(gN m k lo hi).2,x∈(gN m n 0 n).2))->
  ba Tryz.prog 303 [vI lo,vI hi,vI m,vI n,.ro 4 (P.map BD.cs)] (.agg (nW (mD P m n) m k lo hi).cs) []
 | 0,lo,hi,h,hn,hk,cq=>by omega
 | k+1,lo,hi,h,hn,hk,cq=>by
  refine aF afa false Tryz.f303 ?_;conv=>enter[1];reduce
  refine bu Tryz.f303 53 [.cell 10 39] (by kernel_rfl) (by decide +kernel) rfl ?_;have Gt:=Js 9 m;by_cases c2:m<=lo
  ·have iK:(lo:Int)>=(m:Int):=by omega
   have hx:(lo,hi)∈(gN m n 0 n).2:=cq.2 _ (by rw[pW (by omega) c2];simp);obtain⟨-,i,xX,xW⟩:=RF h1 h2 h3 hP hx;have hr:=JS (m:=m) (k:=n) (lo:=0) (hi:=n) (at_:=lo) (by omega) (by omega);have w1:IntKind.i64.wrap ((gm 9 m:Int)+(kC m n 0 n lo:Int))=((i:Nat):Int):=by rw[aN (by omega)];simp only[xX];omega
   have ab:i<P.length:=(List.getElem?_eq_some_iff.1 xW).1;have ah:(i:Int)<(P.length:Int):=by omega
   rw[J8 (.inr c2)];refine Ey iK ?_;refine cT (My m (by omega)) ?_;refine aq.intro (HA m lo n 0 n (by omega) (by omega) (by omega)) ?_;simp -implicitDefEqProofs only[go_sem,w1,ah,xW]
  have iK:¬(lo:Int)>=(m:Int):=by omega
  by_cases c1:hi<=m
  ·have d6:(hi:Int)<=(m:Int):=by omega
   have hx:(lo,hi)∈(gN m n 0 n).1:=cq.1 _ (by rw[qH c1];simp);obtain⟨-,i,xX,xW⟩:=RE h1 h2 h3 hP hx;have ab:i<P.length:=(List.getElem?_eq_some_iff.1 xW).1;have ah:(i:Int)<(P.length:Int):=by omega
   rw[J8 (.inl c1)];refine AY iK d6 ?_;have hc:=afV m lo (by omega) (by omega);rw[<-show i=xp m lo from xX]at hc;refine aq.intro hc ?_;exact dp ah xW
  have d6:¬(hi:Int)<=(m:Int):=by omega
  have hs:=oH (n:=hi - lo) (by omega);obtain⟨s1,s2⟩:=adS c1 c2 cq;have w1:IntKind.i64.wrap ((hi:Int) - (lo:Int))=((hi - lo:Nat):Int):=by rw[aN (by omega)];omega
  have w2:IntKind.i64.wrap ((lo:Int)+((cH (hi - lo):Nat):Int))=((lo+cH (hi - lo):Nat):Int):=by rw[aN (by omega)];omega
  rw[Rx (fun h=>h.elim c1 c2)];simp -implicitDefEqProofs only[go_sem,iK,d6,w1,aV];refine jj (HL (hi - lo) (by omega) (by omega)) w2 ?_;refine cT (Mx P m n h1 h2 h3 hP k lo (lo+cH (hi - lo)) (by omega) (by omega) (by omega) s1) ?_;refine cT (Mx P m n h1 h2 h3 hP k (lo+cH (hi - lo)) hi (by omega) (by omega) (by omega) s2) ?_;refine aq.intro (M0 _ _) ?_;exact dy
theorem U0 (P:List BD) (m n:Nat) (h1:0<m) (h2:m<n) (h3:n<=256) (hP:P.length=(gA m n).length):
  ba Tryz.prog 303 [vI 0,vI n,vI m,vI n,.ro 4 (P.map BD.cs)] (.agg (nW (mD P m n) m n 0 n).cs) []:=
 Mx P m n h1 h2 h3 hP n 0 n (by omega) (Nat.le_refl _) (by omega) ⟨fun _ h=>h,fun _ h=>h⟩
theorem U3 (P:List BD) (m n:Nat) (h1:0<m) (h2:m<n) (h3:n<=256) (hP:P.length=(gA m n).length):
  aY Tryz.prog 293 [(1000000,0,one (ig (mc (gA m n) P)))] [.mr 1000000 0 [],.agg [vI 0,vI n]] (.agg (nW (mD P m n) m n 0 n).cs) [(1000000,0,one (ig (mc (gA m n) P)))]:=by
 refine MB (mc (gA m n) P) (fun x=>qo x (gA m n) P) (mD P m n) m (fun x=>LW x _ _) (fun x fQ aW=>Rg ?_) n 0 n (by omega) h3 (by omega) ?_
 ·intro hx;have s:=G1 (m:=m) n 0 n;rcases List.mem_append.1 hx with hx|hx
  ·have:=s.1 x hx;omega
  have:=s.2 x hx;omega
 rintro x (hx|hx)
 ·exact(RE h1 h2 h3 hP hx).1
 exact(RF h1 h2 h3 hP hx).1
end Go.Proofs.YtobpfkgabdeefaaGreat.E
