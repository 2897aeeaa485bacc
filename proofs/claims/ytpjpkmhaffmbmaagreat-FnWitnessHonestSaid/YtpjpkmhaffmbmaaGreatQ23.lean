/- Contracts: peaks; maps of nodes; Contracts: growths checked -/
import Derived.Test.YtpjpkmhaffmbmaaGreatQ14
section
namespace Go.Proofs.YtpjpkmhaffmbmaaGreat.E
open Go Go.RowKit
set_option maxHeartbeats 4000000
set_option maxRecDepth 10000
set_option linter.unusedSimpArgs false
set_option linter.unusedVariables false
set_option linter.unusedSectionVars false
def zlr:Dec:=⟨[(158,.cm [true,false]),(185,.cm [false,false])],[9,10,11],[22,30,37,38,39,40,49,56,76,80,87,141,143,159,237,250,259],false⟩
theorem zr0 (n:Nat) (h:n<257):CallR Tryz.prog 202 [vU n] (vI (jf 9 n)) []:=by
 refine zl zlr false Tryz.f202 ?_
 conv=>enter [1];reduce
 refine jvR Tryz.f202 35 [.tmp 2] (by kernel_rfl) (by decide +kernel) rfl ?_
 simp -implicitDefEqProofs only [go_sem]
 refine congrArg (fun z:Int=>AV.sc (.int .i64 z)) ?_
 obtain ⟨m,rfl⟩:∃m:Fin 257,n=m.val:=⟨⟨n,h⟩,rfl⟩
 clear h
 revert m
 decide +kernel
theorem zr5 (n:Nat) (h:n<257):CallR Tryz.prog 187 [vU n] (vI (jf 9 n)) []:=by
 refine zl zlr false Tryz.f187 ?_
 conv=>enter [1];reduce
 refine jvR Tryz.f187 8 [.tmp 2] (by kernel_rfl) (by decide +kernel) rfl ?_
 simp -implicitDefEqProofs only [go_sem]
 refine Want.intro (zr0 n h) ?_
 simp -implicitDefEqProofs only [go_sem]
theorem zsb (n:Nat) (h:n≤256):CallR Tryz.prog 157 [vI n] (vI (jf 9 n)) []:=by
 refine zl zlr false Tryz.f157 ?_
 conv=>enter [1];reduce
 refine jvR Tryz.f157 9 [.tmp 2] (by kernel_rfl) (by decide +kernel) rfl ?_
 simp -implicitDefEqProofs only [go_sem]
 refine Want.intro (qy _ _ _) ?_
 have hin:mIn (n:Int) 0 256=true:=mIn_iff.2 (by omega)
 have w1:IntKind.u64.wrap (n:Int)=(n:Int):=yF _ (by omega)
 simp -implicitDefEqProofs only [go_sem,hin,Bool.not_true,za,w1]
 refine Want.intro (zr5 n (by omega)) ?_
 simp -implicitDefEqProofs only [go_sem]
theorem wr {x:BD} {l:List BD} (h:l≠[]):xA (x::l)=zck x (xA l):=by
 cases l with
 | nil=>exact absurd rfl h
 | cons y l=>rfl
theorem zns:∀(l:List BD),l.length≤8→CallR Tryz.prog 156 [.ro 4 (l.map BD.cs)] (.agg (xA l).cs) []
 | [],h=>by
  refine zl zlr false Tryz.f156 ?_
  conv=>enter [1];reduce
  refine jvR Tryz.f156 27 [.cell 2 25] (by kernel_rfl) (by decide +kernel) rfl ?_
  simp -implicitDefEqProofs only [go_sem,z0]
  refine Want.intro (ziu ⟨#[]⟩ (by decide)) ?_
  simp -implicitDefEqProofs only [go_sem,xA]
  try rfl
 | [x],h=>by
  refine zl zlr false Tryz.f156 ?_
  conv=>enter [1];reduce
  refine jvR Tryz.f156 27 [.cell 2 25] (by kernel_rfl) (by decide +kernel) rfl ?_
  have e8:¬((1:Int)>8):=by decide
  simp -implicitDefEqProofs only [go_sem,z1,xA,e8]
 | x::y::l,h=>by
  have ih:=zns (y::l) (by simp at h ⊢;omega)
  rw [wr (l:=y::l) (by simp)]
  obtain ⟨L,hL⟩:∃L,y::l=L:=⟨_,rfl⟩
  rw [hL] at ih h ⊢
  have hL1:1≤L.length:=by rw [←hL];simp
  clear hL
  refine zl zlr false Tryz.f156 ?_
  conv=>enter [1];reduce
  refine jvR Tryz.f156 27 [.cell 2 25] (by kernel_rfl) (by decide +kernel) rfl ?_
  simp only [List.length_cons] at h
  have e0:(((L.length+1:Nat):Int)==0)=false:=by rw [beq_eq_false_iff_ne];omega
  have e1:(((L.length+1:Nat):Int)==1)=false:=by rw [beq_eq_false_iff_ne];omega
  have e8:¬(((L.length+1:Nat):Int)>8):=by omega
  have k1:(1:Int)≤((L.length+1:Nat):Int):=by omega
  have k3:(0:Int)<((L.length+1:Nat):Int):=by omega
  have k2:List.take L.length L=L:=List.take_of_length_le (Nat.le_refl _)
  have k4:∀a,sub 1 L.length (a::List.map BD.cs L)=List.map BD.cs L:=fun a=>by unfold sub;rw [List.drop_succ_cons,List.drop_zero,List.take_of_length_le (by simp)]
  simp -implicitDefEqProofs only [go_sem,e0,e1,e8,za,k1,k3,Nat.add_sub_cancel,k2,k4]
  refine Want.intro ih ?_
  simp -implicitDefEqProofs only [go_sem]
  refine Want.intro (zno _ _) ?_
  simp -implicitDefEqProofs only [go_sem]
theorem zgg {l:List BD} {i:Nat} (h:i+1<l.length):zck (l[i]'(by omega)) (xA (l.drop (i+1)))=xA (l.drop i):=by
 rw [List.drop_eq_getElem_cons (i:=i) (by omega),wr]
 intro e
 have:=congrArg List.length e
 simp at this
 omega
theorem c58_c (l:List BD) (h:l.length≤8):CallR Tryz.prog 58 [.ro 4 (l.map BD.cs)] (.agg (xA l).cs) []:=by
 refine zl zlr false Tryz.f58 ?_
 conv=>enter [1];reduce
 refine jvR Tryz.f58 33 [.cell 2 25] (by kernel_rfl) (by decide +kernel) rfl ?_
 have e8:¬((l.length:Int)>8):=by omega
 rcases Nat.eq_zero_or_pos l.length with h0 | h0
 ·have:l=[]:=List.eq_nil_of_length_eq_zero h0
  subst this
  have e8:¬((0:Int)>8):=by decide
  simp -implicitDefEqProofs only [go_sem,z0,e8]
  refine Want.intro (zfp ⟨#[]⟩ (by decide)) ?_
  simp -implicitDefEqProofs only [go_sem,xA]
  try rfl
 ·have e0:((l.length:Int)==0)=false:=by rw [beq_eq_false_iff_ne];omega
  have w1:IntKind.i64.wrap ((l.length:Int) - 1)=((l.length - 1:Nat):Int):=by rw [wrS (by omega)];omega
  have w2:IntKind.i64.wrap ((l.length:Int) - 2)=((l.length - 1:Nat):Int) - 1:=by rw [wrS (by omega)];omega
  have hlt:l.length - 1<l.length:=by omega
  have k1:((l.length - 1:Nat):Int)<(l.length:Int):=by omega
  have hg:l[l.length - 1]?=some l[l.length - 1]:=List.getElem?_eq_getElem hlt
  have hlast:l[l.length - 1]=xA (l.drop (l.length - 1)):=by
   rw [List.drop_eq_getElem_cons (i:=l.length - 1) (by omega),show l.length - 1+1=l.length by omega,List.drop_length]
   rfl
  simp -implicitDefEqProofs only [go_sem,e0,e8,za,w1,w2,k1,hg]
  refine zX (fun m s=>m<l.length∧s=⟨33,[(0,.ro 4 (l.map BD.cs)),(2,.ptr 2 0 [] 4 0 0),(3,.ptr 3 0 [] 4 0 0),(4,vI ((m:Int) - 1))],[(2,0,one ⟨4,[[.sc (.int .u64 0),.sc (.int .u64 0),.sc (.int .u64 0),.sc (.int .u64 0)]],0,false⟩),(3,0,one ⟨4,[(xA (l.drop m)).cs],0,false⟩)],1⟩) (l.length - 1) ?_ ?_
  ·simp -implicitDefEqProofs only [go_sem]
   exact ⟨hlt,by rw [←hlast]⟩
  ·rintro m s ⟨hm,rfl⟩
   cases m with
   | zero=>
    have c0:¬(((0:Nat):Int) - 1≥0):=by omega
    simp -implicitDefEqProofs only [go_sem,c0,List.drop_zero]
   | succ m=>
    have c0:((m+1:Nat):Int) - 1≥0:=by omega
    have c1:((m+1:Nat):Int) - 1=(m:Int):=by omega
    have c2:(m:Int)≥0:=by omega
    have c3:(m:Int)<(l.length:Int):=by omega
    have hg:l[m]?=some (l[m]'(by omega)):=List.getElem?_eq_getElem (by omega)
    have w3:IntKind.i64.wrap ((m:Int) - 1)=(m:Int) - 1:=wrS (by omega)
    rw [c1]
    simp -implicitDefEqProofs only [go_sem,c2,c3,hg]
    refine Want.intro (zkW _ _) ?_
    rw [zgg hm]
    simp -implicitDefEqProofs only [go_sem,w3]
    exact ⟨m,by omega,by omega,rfl⟩
def zaX (m at_:Nat):Nat:=((pks m 0 m).filter fun x=>decide (x.1<at_)).length
theorem zlV:∀(a b lo m:Nat),m - lo≤a→m - lo≤b→pks a lo m=pks b lo m:=by
 intro a
 induction a with
 | zero=>intro b lo m h1 h2;rw [qJ (k:=b) (by omega)];rfl
 | succ a ih=>
  intro b lo m h1 h2
  cases b with
  | zero=>rw [qJ (k:=a+1) (by omega)];rfl
  | succ b=>
   rw [pks,pks]
   split
   ·have:=js (n:=m - lo) (by omega)
    rw [ih b (lo+jc (m - lo)) m (by omega) (by omega)]
   ·rfl
theorem zmW:∀(k lo m:Nat),∀x∈pks k lo m,lo≤x.1
 | 0,lo,m,x,hx=>by simp [pks] at hx
 | k+1,lo,m,x,hx=>by
  rw [pks] at hx
  split at hx
  ·rcases List.mem_cons.1 hx with rfl | hx
   ·exact Nat.le_refl _
   ·have:=zmW k _ m x hx
    omega
  ·simp at hx
theorem zsl (m at_:Nat) (h:m≤256) (h2:at_≤256):CallR Tryz.prog 125 [vI m,vI at_] (vI (zaX m at_)) []:=by
 refine zl zlr false Tryz.f125 ?_
 conv=>enter [1];reduce
 refine jvR Tryz.f125 24 [.tmp 4] (by kernel_rfl) (by decide +kernel) rfl ?_
 simp -implicitDefEqProofs only [go_sem]
 refine zX (fun k s=>∃lo c:Nat,lo≤m∧k=m - lo∧c≤lo∧c+((pks k lo m).filter fun x=>decide (x.1<at_)).length=zaX m at_∧s=⟨24,[(0,vI m),(1,vI at_),(5,vI c),(6,vI lo)],[],1⟩) m ?_ ?_
 ·simp -implicitDefEqProofs only [go_sem]
  exact ⟨0,0,Nat.zero_le _,rfl,Nat.le_refl _,by rw [Nat.zero_add];rfl,rfl⟩
 ·rintro k s ⟨lo,c,hlo,rfl,hc,hq,rfl⟩
  by_cases h1:lo<m
  ·have h1':(lo:Int)<(m:Int):=by omega
   by_cases h3:lo<at_
   ·have h3':(lo:Int)<(at_:Int):=by omega
    have hb:=js (n:=m - lo) (by omega)
    obtain ⟨k',hk'⟩:∃k',m - lo=k'+1:=⟨m - lo - 1,by omega⟩
    have w1:IntKind.i64.wrap ((m:Int) - (lo:Int))=((m - lo:Nat):Int):=by rw [wrS (by omega)];omega
    have hp:pks (m - lo) lo m=(lo,lo+jc (m - lo))::pks (m - (lo+jc (m - lo))) (lo+jc (m - lo)) m:=by
     conv=>lhs;rw [hk']
     rw [pks,if_pos h1,zlV k' (m - (lo+jc (m - lo))) _ m (by omega) (Nat.le_refl _)]
    rw [hp,List.filter_cons_of_pos (by simpa using h3),List.length_cons] at hq
    simp -implicitDefEqProofs only [go_sem,h1',h3',w1,ze,zf,zg,zc,zb,za]
    refine Want.intro (znu (m - lo) (by omega) (by omega)) ?_
    clear hp hk'
    generalize jc (m - lo)=d at *
    have w2:IntKind.i64.wrap ((lo:Int)+(d:Int))=((lo+d:Nat):Int):=by rw [wrS (by omega)];omega
    have w3:IntKind.i64.wrap ((c:Int)+1)=((c+1:Nat):Int):=by rw [wrS (by omega)];omega
    simp -implicitDefEqProofs only [go_sem,w2,w3]
    exact ⟨_,by omega,lo+d,c+1,by omega,rfl,by omega,by omega,rfl⟩
   ·have h3':¬(lo:Int)<(at_:Int):=by omega
    have e:((pks (m - lo) lo m).filter fun x=>decide (x.1<at_))=[]:=by
     rw [List.filter_eq_nil_iff]
     intro x hx
     have:=zmW _ _ _ x hx
     simp
     omega
    rw [e] at hq
    have hq:c=zaX m at_:=by simpa using hq
    simp -implicitDefEqProofs only [go_sem,h1',h3',ze,zf,zg,zc,zb,za]
    rw [hq]
  ·have h1':¬(lo:Int)<(m:Int):=by omega
   rw [qJ (by omega)] at hq
   have hq:c=zaX m at_:=by simpa using hq
   simp -implicitDefEqProofs only [go_sem,h1',ze,zf,zg,zc,zb,za]
   rw [hq]
def nK (x:Nd):AV:=.agg [vI x.1,vI x.2]
def mc (X:List Nd) (D:List BD):MC:=(X.zip D).map fun p=>(nK p.1,.agg p.2.cs)
theorem zkJ:zbq Tryz.prog 223=some [.int .i64,.int .i64]:=by kernel_rfl
theorem zdr (x y:Nd):zgi Tryz.prog 223 (nK x) (nK y)=some (decide (x=y)):=by
 unfold zgi nK
 rw [zkJ]
 simp only [Option.bind_some,eqA,wW,if_true,Option.map_some,Bool.and_true]
 congr 1
 obtain ⟨a,b⟩:=x
 obtain ⟨c,d⟩:=y
 rw [Bool.eq_iff_iff]
 simp only [Bool.and_eq_true,beq_iff_eq,decide_eq_true_eq,Prod.mk.injEq]
 omega
theorem zaE (x:Nd):zcR Tryz.prog 223 (nK x)=true:=by
 unfold zcR
 rw [zdr]
 rfl
def zbb (x:Nd) (X:List Nd) (D:List BD):Option BD:=((X.zip D).find? fun p=>decide (x=p.1)).map (·.2)
theorem zec (x:Nd):∀(X:List Nd) (D:List BD),zad Tryz.prog 223 (nK x) (mc X D)=some ((zbb x X D).map fun d=>.agg d.cs)
 | [],D=>rfl
 | y::X,[]=>rfl
 | y::X,d::D=>by
  unfold mc zbb
  simp only [List.zip_cons_cons,List.map_cons,zad,zdr,List.find?_cons]
  by_cases h:x=y
  ·simp [h]
  ·simp only [h,decide_false]
   exact zec x X D
theorem zdg {x:Nd} {X:List Nd} {D:List BD} (h:x ∉ X):zbb x X D=none:=by
 unfold zbb
 rw [Option.map_eq_none_iff,List.find?_eq_none]
 intro p hp
 have:=(List.of_mem_zip hp).1
 simp only [decide_eq_true_eq]
 rintro rfl
 exact h this
theorem ze0:∀{X:List Nd} {D:List BD} {i:Nat},X.Pairwise (·≠·)→(hi:i<X.length)→(hd:i<D.length)→zbb X[i] X D=some D[i]
 | [],_,i,_,hi,_=>by simp at hi
 | x::X,[],i,_,_,hd=>by simp at hd
 | x::X,d::D,0,_,_,_=>by simp [zbb,List.zip_cons_cons,List.find?_cons]
 | x::X,d::D,i+1,hp,hi,hd=>by
  obtain ⟨h1,h2⟩:=List.pairwise_cons.1 hp
  have hi':i<X.length:=by simpa using hi
  have hd':i<D.length:=by simpa using hd
  have hne:X[i]≠x:=fun e=>h1 X[i] (List.getElem_mem hi') e.symm
  have ih:=ze0 h2 hi' hd'
  unfold zbb at ih ⊢
  simp only [List.getElem_cons_succ,List.zip_cons_cons,List.find?_cons,hne,decide_false]
  exact ih
theorem zkN (x:Nd):zcU (nK x)=some [10,3,zig x.1,3,zig x.2]:=rfl
theorem zo4 (d:BD):zcU (.agg d.cs)=some [10,7,zig d.a.toNat,7,zig d.b.toNat,7,zig d.c.toNat,7,zig d.d.toNat]:=rfl
theorem zh2 (C:MC):(1≤mfl C)=True:=eq_true (Nat.le_trans (by decide) (zjY C))
theorem zpk (C:MC):Nat.ble 1 (mfl C)=true:=Nat.ble_eq_true_of_le (Nat.le_trans (by decide) (zjY C))
attribute [go_sem] zh2 zpk
theorem zb3:zdZ Tryz.prog 220=some (223,25):=by kernel_rfl
theorem ziM:zOf Tryz.prog 25=some (.agg #[.int .u64 0,.int .u64 0,.int .u64 0,.int .u64 0]):=by kernel_rfl
theorem zoo {X:List Nd} {D:List BD} {i:Nat} (h1:i<X.length) (h2:i<D.length):mc (X.take i) (D.take i)++[(nK X[i],.agg D[i].cs)]=mc (X.take (i+1)) (D.take (i+1)):=by
 unfold mc
 rw [List.take_succ_eq_append_getElem h1,List.take_succ_eq_append_getElem h2,List.zip_append (by simp;omega),List.map_append]
 rfl
theorem znq (m n:Nat) (D:List BD) (h:1≤n) (h2:n≤256) (hD:D.length=(gA m n).length):zW Tryz.prog 159 [] [vI m,vI n,.ro 4 (D.map BD.cs)] (.mr 0 0 []) [(0,0,one (mpR (mc (gA m n) D)))]:=by
 refine zl zlr false Tryz.f159 ?_
 conv=>enter [1];reduce
 refine jvM Tryz.f159 36 [.tmp 6] (by kernel_rfl) (by decide +kernel) rfl ?_
 simp -implicitDefEqProofs only [go_sem]
 refine WantM.intro (znp m n h h2) ?_
 have hl2:=qZ (m:=m) n 0 n (by omega) (by omega)
 have hap:((gN m n 0 n).1++(gN m n 0 n).2).length≤maxLen∧((gN m n 0 n).1++(gN m n 0 n).2).length * 16≤140737488355328:=by
  simp only [List.length_append,maxLen]
  omega
 have hnd:=zeE (znh (m:=m) h)
 simp -implicitDefEqProofs only [go_sem,hap,←List.map_append]
 unfold gA at *
 generalize hX:(gN m n 0 n).1++(gN m n 0 n).2=X at *
 have hXl:X.length≤600:=by rw [←hX,List.length_append];omega
 refine zX (fun k s=>∃i,i≤X.length∧k=X.length - i∧s=⟨36,[(2,.ro 4 (D.map BD.cs)),(9,.mr 9 0 []),(21,.blk 21 0 [] 2 0 X.length),(22,vI X.length),(23,vI i)],[(9,0,one (mpR (mc (X.take i) (D.take i)))),(21,0,one (zpF X))],1⟩) X.length ?_ ?_
 ·simp -implicitDefEqProofs only [go_sem]
  exact ⟨0,Nat.zero_le _,rfl,rfl⟩
 ·rintro k s ⟨i,hi,rfl,rfl⟩
  rcases Nat.lt_or_ge i X.length with hlt | hge
  ·have hlt':(i:Int)<(X.length:Int):=by omega
   have hld:i<D.length:=by omega
   have hld':(i:Int)<(D.length:Int):=by omega
   have hg:X[i]?=some X[i]:=List.getElem?_eq_getElem hlt
   have hgd:D[i]?=some D[i]:=List.getElem?_eq_getElem hld
   have hw:=zG hlt (by unfold maxLen;omega)
   have hno:X[i] ∉ X.take i:=fun hm=>by
    obtain ⟨j,hj,e⟩:=List.getElem_of_mem hm
    rw [List.length_take] at hj
    rw [List.getElem_take] at e
    exact (List.pairwise_iff_getElem.1 hnd j i (by omega) hlt (by omega)) e
   have hf:=zec X[i] (X.take i) (D.take i)
   rw [zdg hno] at hf
   simp -implicitDefEqProofs only [go_sem,hlt',hld',hg,hgd,nC]
   refine zl3 zb3 (zaE X[i]) hf (zkN X[i]) (zo4 D[i]) ?_
   simp -implicitDefEqProofs only [go_sem,hw]
   exact ⟨_,by omega,i+1,hlt,rfl,by rw [←zoo hlt hld];rfl⟩
  ·have hi:i=X.length:=by omega
   subst hi
   have hlt':¬((X.length:Int)<(X.length:Int)):=by omega
   have e2:D.take X.length=D:=List.take_of_length_le (by omega)
   simp -implicitDefEqProofs only [go_sem,hlt',List.take_length,e2]
def jo (D:Nd→BD) (m:Nat):Nat→Nat→Nat→BD
 | 0,lo,hi=>D (lo,hi)
 | k+1,lo,hi=>if hi≤m∨m≤lo then D (lo,hi) else zck (jo D m k lo (lo+spl (hi - lo))) (jo D m k (lo+spl (hi - lo)) hi)
theorem wM {D:Nd→BD} {m k lo hi:Nat} (h:hi≤m∨m≤lo):jo D m (k+1) lo hi=D (lo,hi):=by rw [jo,if_pos h]
theorem zb8 {D:Nd→BD} {m k lo hi:Nat} (h:¬(hi≤m∨m≤lo)):jo D m (k+1) lo hi=zck (jo D m k lo (lo+spl (hi - lo))) (jo D m k (lo+spl (hi - lo)) hi):=by rw [jo,if_neg h]
theorem zkU (C:MC) (L:Nd→Option BD) (D:Nd→BD) (m:Nat) (hC:∀x,zad Tryz.prog 223 (nK x) C=some ((L x).map fun d=>.agg d.cs)) (hmid:∀x:Nd,x.1<m→m<x.2→L x=none):
  ∀(k lo hi:Nat),lo<hi→hi≤256→hi - lo≤k→(∀x,x∈(gN m k lo hi).1∨x∈(gN m k lo hi).2→L x=some (D x))→
  zW Tryz.prog 158 [(1000000,0,one (mpR C))] [.mr 1000000 0 [],.agg [vI lo,vI hi]] (.agg (jo D m k lo hi).cs) [(1000000,0,one (mpR C))]
 | 0,lo,hi,h,h2,hk,hin=>by omega
 | k+1,lo,hi,h,h2,hk,hin=>by
  have hf:=hC (lo,hi)
  refine zl zlr false Tryz.f158 ?_
  conv=>enter [1];reduce
  refine jvM Tryz.f158 29 [.cell 4 25] (by kernel_rfl) (by decide +kernel) rfl ?_
  by_cases c:hi≤m∨m≤lo
  ·have hx:L (lo,hi)=some (D (lo,hi)):=by
    refine hin (lo,hi) ?_
    by_cases h1:hi≤m
    ·rw [xU h1];simp
    ·rw [xN h1 (c.resolve_left h1)];simp
   rw [hx] at hf
   rw [wM c]
   simp -implicitDefEqProofs only [go_sem]
   refine zhh zb3 ziM (zaE (lo,hi)) hf ?_
   generalize D (lo,hi)=d
   simp -implicitDefEqProofs only [go_sem,zb]
  ·have hx:L (lo,hi)=none:=hmid (lo,hi) (by show lo<m;omega) (by show m<hi;omega)
   rw [hx] at hf
   rw [zb8 c]
   have hs:=xJ (n:=hi - lo) (by omega)
   have e:=xV (m:=m) (k:=k) (lo:=lo) (hi:=hi) (by omega) (by omega)
   have i1:=zkU C L D m hC hmid k lo (lo+spl (hi - lo)) (by omega) (by omega) (by omega) (fun x hx=>hin x (by
    rw [e]
    rcases hx with hx | hx
    ·exact .inl (List.mem_append_left _ hx)
    ·exact .inr (List.mem_append_left _ hx)))
   have i2:=zkU C L D m hC hmid k (lo+spl (hi - lo)) hi (by omega) (by omega) (by omega) (fun x hx=>hin x (by
    rw [e]
    rcases hx with hx | hx
    ·exact .inl (List.mem_append_right _ hx)
    ·exact .inr (List.mem_append_right _ hx)))
   simp -implicitDefEqProofs only [go_sem]
   refine zhh zb3 ziM (zaE (lo,hi)) hf ?_
   simp -implicitDefEqProofs only [go_sem,za]
   refine Want.intro (zkT lo hi (by omega) h2) ?_
   simp -implicitDefEqProofs only [go_sem]
   refine WantM.intro i1 ?_
   simp -implicitDefEqProofs only [go_sem]
   refine WantM.intro i2 ?_
   simp -implicitDefEqProofs only [go_sem]
   refine Want.intro (zno _ _) ?_
   simp -implicitDefEqProofs only [go_sem]
end Go.Proofs.YtpjpkmhaffmbmaaGreat.E
end
section
namespace Go.Proofs.YtpjpkmhaffmbmaaGreat.E
open Go Go.RowKit
set_option maxHeartbeats 4000000
set_option maxRecDepth 10000
set_option linter.unusedSimpArgs false
set_option linter.unusedVariables false
set_option linter.unusedSectionVars false
def dcKB:Dec:=⟨[(158,.cm [true,false]),(159,.cm [false,false,false])],[9,10,11],[22,30,37,38,39,40,49,56,76,80,87,141,143,159,237,250,259],false⟩
def bd0:BD:=⟨0,0,0,0⟩
def mD (P:List BD) (m n:Nat) (x:Nd):BD:=(zbb x (gA m n) P).getD bd0
theorem zos {P:List BD} {m n i:Nat} (h:1≤n) (hi:i<(gA m n).length) (hP:P.length=(gA m n).length):zbb (gA m n)[i] (gA m n) P=some (P[i]'(by omega)):=
 ze0 (zeE (znh h)) hi (by omega)
theorem ze1 {l:List Nd} (hl:Srt l) {x:Nd} (hx:x∈l):∃h:(l.filter fun y=>decide (y.1<x.1)).length<l.length,l[(l.filter fun y=>decide (y.1<x.1)).length]=x:=by
 obtain ⟨i,hi,rfl⟩:=List.getElem_of_mem hx
 have e:=zeD hl hi
 exact ⟨by rw [e];exact hi,by simp only [e]⟩
theorem znd {P:List BD} {m n:Nat} (h1:0<m) (h2:m<n) (h3:n≤256) (hP:P.length=(gA m n).length) {x:Nd} (hx:x∈(gN m n 0 n).2):
  zbb x (gA m n) P=some (mD P m n x)∧∃i,i=jf 9 m+qf m n 0 n x.1∧P[i]?=some (mD P m n x):=by
 obtain ⟨hlt,he⟩:=ze1 (zfc (m:=m) n 0 n (by omega) (by omega)).2 hx
 have e1:=zbi h1 h2 h3
 have hg:(gA m n).length=(gN m n 0 n).1.length+(gN m n 0 n).2.length:=by unfold gA;rw [List.length_append]
 obtain ⟨j,hj⟩:∃j,((gN m n 0 n).2.filter fun y=>decide (y.1<x.1)).length=j:=⟨_,rfl⟩
 simp only [hj] at hlt he
 have hi:(gN m n 0 n).1.length+j<(gA m n).length:=by omega
 have hgx:(gA m n)[(gN m n 0 n).1.length+j]=x:=by
  have hq:(gA m n)[(gN m n 0 n).1.length+j]?=some x:=by
   show ((gN m n 0 n).1++(gN m n 0 n).2)[(gN m n 0 n).1.length+j]?=some x
   rw [List.getElem?_append_right (Nat.le_add_right _ _),Nat.add_sub_cancel_left,List.getElem?_eq_getElem hlt,he]
  rw [List.getElem?_eq_getElem hi] at hq
  exact Option.some.inj hq
 have hf:=zos (P:=P) (m:=m) (n:=n) (by omega) hi hP
 rw [hgx] at hf
 have hd:mD P m n x=P[(gN m n 0 n).1.length+j]'(by omega):=by unfold mD;rw [hf];rfl
 refine ⟨by rw [hf,hd],(gN m n 0 n).1.length+j,by rw [e1];unfold qf;rw [hj],?_⟩
 rw [hd]
 exact List.getElem?_eq_getElem _
theorem znc {P:List BD} {m n:Nat} (h1:0<m) (h2:m<n) (h3:n≤256) (hP:P.length=(gA m n).length) {x:Nd} (hx:x∈(gN m n 0 n).1):
  zbb x (gA m n) P=some (mD P m n x)∧∃i,i=zaX m x.1∧P[i]?=some (mD P m n x):=by
 obtain ⟨hlt,he⟩:=ze1 (zfc (m:=m) n 0 n (by omega) (by omega)).1 hx
 have e1:=zdv (m:=m) n m 0 n (by omega) (by omega) (by omega) (by omega)
 have hg:(gA m n).length=(gN m n 0 n).1.length+(gN m n 0 n).2.length:=by unfold gA;rw [List.length_append]
 obtain ⟨j,hj⟩:∃j,((gN m n 0 n).1.filter fun y=>decide (y.1<x.1)).length=j:=⟨_,rfl⟩
 simp only [hj] at hlt he
 have hi:j<(gA m n).length:=by omega
 have hgx:(gA m n)[j]=x:=by
  have hq:(gA m n)[j]?=some x:=by
   show ((gN m n 0 n).1++(gN m n 0 n).2)[j]?=some x
   rw [List.getElem?_append_left hlt,List.getElem?_eq_getElem hlt,he]
  rw [List.getElem?_eq_getElem hi] at hq
  exact Option.some.inj hq
 have hf:=zos (P:=P) (m:=m) (n:=n) (by omega) hi hP
 rw [hgx] at hf
 have hd:mD P m n x=P[j]'(by omega):=by unfold mD;rw [hf];rfl
 refine ⟨by rw [hf,hd],j,by unfold zaX;rw [←e1,hj],?_⟩
 rw [hd]
 exact List.getElem?_eq_getElem _
theorem zrs {m k lo hi:Nat} (h1:¬hi≤m) (h2:¬m≤lo) {A B:List Nd} (h:(∀x∈(gN m (k+1) lo hi).1,x∈A)∧(∀x∈(gN m (k+1) lo hi).2,x∈B)):
  ((∀x∈(gN m k lo (lo+spl (hi - lo))).1,x∈A)∧(∀x∈(gN m k lo (lo+spl (hi - lo))).2,x∈B))∧((∀x∈(gN m k (lo+spl (hi - lo)) hi).1,x∈A)∧(∀x∈(gN m k (lo+spl (hi - lo)) hi).2,x∈B)):=by
 rw [xV h1 h2] at h
 exact ⟨⟨fun x hx=>h.1 x (List.mem_append_left _ hx),fun x hx=>h.2 x (List.mem_append_left _ hx)⟩,⟨fun x hx=>h.1 x (List.mem_append_right _ hx),fun x hx=>h.2 x (List.mem_append_right _ hx)⟩⟩
theorem zqO (m at_:Nat):zaX m at_≤m:=Nat.le_trans (List.length_filter_le _ _) (by have:=zf6 m 0 m;omega)
theorem zpc (P:List BD) (m n:Nat) (h1:0<m) (h2:m<n) (h3:n≤256) (hP:P.length=(gA m n).length):
  ∀(k lo hi:Nat),lo<hi→hi≤n→hi - lo≤k→((∀x∈(gN m k lo hi).1,x∈(gN m n 0 n).1)∧(∀x∈(gN m k lo hi).2,x∈(gN m n 0 n).2))→
  CallR Tryz.prog 60 [vI lo,vI hi,vI m,vI n,.ro 4 (P.map BD.cs)] (.agg (jo (mD P m n) m k lo hi).cs) []
 | 0,lo,hi,h,hn,hk,hin=>by omega
 | k+1,lo,hi,h,hn,hk,hin=>by
  refine zl dcKB false Tryz.f60 ?_
  conv=>enter [1];reduce
  refine jvR Tryz.f60 53 [.cell 10 25] (by kernel_rfl) (by decide +kernel) rfl ?_
  have hpc:=zf5 9 m
  by_cases c2:m≤lo
  ·have c2':(lo:Int)≥(m:Int):=by omega
   have hx:(lo,hi)∈(gN m n 0 n).2:=hin.2 _ (by rw [xN (by omega) c2];simp)
   obtain ⟨-,i,hi1,hi2⟩:=znd h1 h2 h3 hP hx
   have hr:=zdW (m:=m) (k:=n) (lo:=0) (hi:=n) (at_:=lo) (by omega) (by omega)
   have w1:IntKind.i64.wrap ((jf 9 m:Int)+(qf m n 0 n lo:Int))=((i:Nat):Int):=by rw [wrS (by omega)];simp only [hi1];omega
   have hlt:i<P.length:=(List.getElem?_eq_some_iff.1 hi2).1
   have hlt':(i:Int)<(P.length:Int):=by omega
   rw [wM (.inr c2)]
   simp -implicitDefEqProofs only [go_sem,c2',zb]
   refine Want.intro (zpd m (by omega)) ?_
   simp -implicitDefEqProofs only [go_sem]
   refine Want.intro (zhB m lo n 0 n (by omega) (by omega) (by omega)) ?_
   simp -implicitDefEqProofs only [go_sem,w1,hlt',hi2]
  ·have c2':¬(lo:Int)≥(m:Int):=by omega
   by_cases c1:hi≤m
   ·have c1':(hi:Int)≤(m:Int):=by omega
    have hx:(lo,hi)∈(gN m n 0 n).1:=hin.1 _ (by rw [xU c1];simp)
    obtain ⟨-,i,hi1,hi2⟩:=znc h1 h2 h3 hP hx
    have hlt:i<P.length:=(List.getElem?_eq_some_iff.1 hi2).1
    have hlt':(i:Int)<(P.length:Int):=by omega
    rw [wM (.inl c1)]
    simp -implicitDefEqProofs only [go_sem,c2',c1',zb,za]
    have hc:=zsl m lo (by omega) (by omega)
    rw [←show i=zaX m lo from hi1] at hc
    refine Want.intro hc ?_
    simp -implicitDefEqProofs only [go_sem,hlt',hi2]
   ·have c1':¬(hi:Int)≤(m:Int):=by omega
    have hs:=xJ (n:=hi - lo) (by omega)
    obtain ⟨s1,s2⟩:=zrs c1 c2 hin
    have w1:IntKind.i64.wrap ((hi:Int) - (lo:Int))=((hi - lo:Nat):Int):=by rw [wrS (by omega)];omega
    have w2:IntKind.i64.wrap ((lo:Int)+((spl (hi - lo):Nat):Int))=((lo+spl (hi - lo):Nat):Int):=by rw [wrS (by omega)];omega
    rw [zb8 (fun h=>h.elim c1 c2)]
    simp -implicitDefEqProofs only [go_sem,c2',c1',w1,za]
    refine Want.intro (zhA (hi - lo) (by omega) (by omega)) ?_
    simp -implicitDefEqProofs only [go_sem,w2]
    refine Want.intro (zpc P m n h1 h2 h3 hP k lo (lo+spl (hi - lo)) (by omega) (by omega) (by omega) s1) ?_
    simp -implicitDefEqProofs only [go_sem]
    refine Want.intro (zpc P m n h1 h2 h3 hP k (lo+spl (hi - lo)) hi (by omega) (by omega) (by omega) s2) ?_
    simp -implicitDefEqProofs only [go_sem]
    refine Want.intro (zkW _ _) ?_
    simp -implicitDefEqProofs only [go_sem]
theorem zrW (P:List BD) (m n:Nat) (h1:0<m) (h2:m<n) (h3:n≤256) (hP:P.length=(gA m n).length):
  CallR Tryz.prog 60 [vI 0,vI n,vI m,vI n,.ro 4 (P.map BD.cs)] (.agg (jo (mD P m n) m n 0 n).cs) []:=
 zpc P m n h1 h2 h3 hP n 0 n (by omega) (Nat.le_refl _) (by omega) ⟨fun _ h=>h,fun _ h=>h⟩
theorem znr (P:List BD) (m n:Nat) (h1:0<m) (h2:m<n) (h3:n≤256) (hP:P.length=(gA m n).length):
  zW Tryz.prog 158 [(1000000,0,one (mpR (mc (gA m n) P)))] [.mr 1000000 0 [],.agg [vI 0,vI n]] (.agg (jo (mD P m n) m n 0 n).cs) [(1000000,0,one (mpR (mc (gA m n) P)))]:=by
 refine zkU (mc (gA m n) P) (fun x=>zbb x (gA m n) P) (mD P m n) m (fun x=>zec x _ _) (fun x hx1 hx2=>zdg ?_) n 0 n (by omega) h3 (by omega) ?_
 ·intro hx
  have s:=zd8 (m:=m) n 0 n
  rcases List.mem_append.1 hx with hx | hx
  ·have:=s.1 x hx;omega
  ·have:=s.2 x hx;omega
 ·rintro x (hx | hx)
  ·exact (znc h1 h2 h3 hP hx).1
  ·exact (znd h1 h2 h3 hP hx).1
end Go.Proofs.YtpjpkmhaffmbmaaGreat.E
end
