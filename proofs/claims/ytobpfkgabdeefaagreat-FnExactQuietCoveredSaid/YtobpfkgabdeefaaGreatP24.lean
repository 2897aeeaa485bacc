/- Contracts: growths, in the reference; their proofs, in both; Contracts: how many peaks, how long a growth's proof is, in the reference; Digests as four words; how peaks make a root; nodes that are apart -/
import Derived.Test.YtobpfkgabdeefaaGreatP16
namespace Go.Proofs.YtobpfkgabdeefaaGreat.E
open Go Go.RowKit
set_option linter.unusedSimpArgs false
set_option linter.unusedVariables false
section
set_option maxHeartbeats 4000000
set_option maxRecDepth 10000
set_option linter.unusedSectionVars false
def yx:bX:=⟨[(287,.cm [false,false])],[9,10,11],[24,26,30,44,47,50,51,52,57,58,59,62,76,88,138,185,186,187,253,254,297,311],false⟩
theorem MP (m n:Int):aR Tryz.prog 297 [vI m,vI n] (vB (aT m 0 n&&decide (n≤256))) []:=by
 refine aA yx false Tryz.f297 ?_;conv=>enter[1];reduce
 refine bf Tryz.f297 12 [.tmp 4] (by kernel_rfl) (by decide +kernel) rfl ?_;refine aw ?_;refine aq.intro (e9 _ _ _) ?_;cases h:aT m 0 n<;>simp -implicitDefEqProofs only[go_sem,bc,Bool.false_and,Bool.true_and]
theorem FY (m n:Int):(aT m 0 n&&decide (n≤256))=m6 m n:=by
 unfold m6 aT;rw[Bool.eq_iff_iff];simp only[Bool.and_eq_true,decide_eq_true_eq];omega
theorem UW (n:Nat) (h:1≤n) (h2:n≤1000):aR Tryz.prog 309 [vI n] (vI (half n)) []:=by
 refine aA yx false Tryz.f309 ?_;conv=>enter[1];reduce
 refine bf Tryz.f309 11 [.tmp 2] (by kernel_rfl) (by decide +kernel) rfl ?_;refine aw ?_;refine cR (fun m s=>∃j:Nat,2 ^ j≤n∧m=n - 2 ^ j∧s=⟨11,[(0,vI n),(3,vI ((2 ^ j:Nat):Int))],[],1⟩) (n - 1) ?_ ?_
 ·refine aw ?_;exact⟨0,by simp;omega,rfl,rfl⟩
 rintro m s ⟨j,hj,rfl,rfl⟩;have e:2 ^ (j+1)=2 * 2 ^ j:=by rw[Nat.pow_succ];omega
 have hp:0<2 ^ j:=Nat.pow_pos (by omega);have hS:=fun h2=>S2 (n:=n) (j:=j) hj h2
 generalize hq:2 ^ j=q at *;have w1:IntKind.i64.wrap (2 * (q:Int))=((2 * q:Nat):Int):=by rw[aV (by omega)];omega
 rcases bm n (2 * q) with ab|bH
 ·have ae:¬((2 * q:Nat):Int)≤(n:Int):=by omega
  refine cg w1 ae ?_;rw[hS (by omega)]
 have ae:((2 * q:Nat):Int)≤(n:Int):=by omega
 refine cg w1 ae ?_;exact⟨_,by omega,j+1,by omega,rfl,by rw[e]⟩
def nY (l:List aW):Row:=⟨4,l.map aW.cs,2,false⟩
attribute [go_sem] nY
theorem MW (a b:List aW) (ha:a.length≤1000) (hb:b.length≤1000):aR Tryz.prog 277 [.ro 4 (a.map aW.cs),.ro 4 (b.map aW.cs)] (.au 0 0 [] 4 0 (a++b).length) [([],nY (a++b))]:=by
 refine aA yx false Tryz.f277 ?_;conv=>enter[1];reduce
 refine bf Tryz.f277 36 [.tmp 4] (by kernel_rfl) (by decide +kernel) rfl ?_;refine aw ?_;refine cR (fun m s=>∃i:Nat,i≤a.length∧m=a.length - i∧s=⟨36,[(0,.ro 4 (a.map aW.cs)),(1,.ro 4 (b.map aW.cs)),(5,.au 5 0 [] 4 0 (a.take i).length),(6,vI i)],[(5,0,one (nY (a.take i)))],1⟩) a.length ?_ ?_
 ·refine aw ?_;exact⟨0,aQ _,rfl,rfl⟩
 rintro m s ⟨i,hi,rfl,rfl⟩;rcases bm i a.length with ab|bH
 ·have ae:(i:Int)<(a.length:Int):=by omega
  have hg:a[i]?=some a[i]:=bz ab;have hw:=df ab (by unfold maxLen;omega);have hx:∀x,_:=fun x=>du (E:=aW.cs) (l:=a.take i) (xs:=[x]) (b:=32) (n:=10000) (by simp;omega) (by omega) (by omega)
  refine eI ae hg hw hx ?_;refine⟨_,by omega,i+1,ab,rfl,?_⟩;rw[IW ab];simp only[gj,aW.cs,nY];try rfl
 have hi:i=a.length:=by omega
 subst hi;have ae:¬((a.length:Int)<(a.length:Int)):=by omega
 refine Ev ae ?_;refine cR (fun m s=>∃i:Nat,i≤b.length∧m=b.length - i∧s=⟨36,[(1,.ro 4 (b.map aW.cs)),(5,.au 5 0 [] 4 0 (a++b.take i).length),(7,vI i)],[(5,0,one (nY (a++b.take i)))],1⟩) b.length ?_ ?_
 ·refine aw ?_;exact⟨0,aQ _,rfl,by simp[nY]⟩
 rintro m s ⟨i,hi,rfl,rfl⟩;rcases bm i b.length with ab|bH
 ·have ae:(i:Int)<(b.length:Int):=by omega
  have hg:b[i]?=some b[i]:=bz ab;have hw:=df ab (by unfold maxLen;omega);have hx:∀x,_:=fun x=>du (E:=aW.cs) (l:=a++b.take i) (xs:=[x]) (b:=32) (n:=10000) (by simp;omega) (by omega) (by omega)
  refine eI ae hg hw hx ?_;refine⟨_,by omega,i+1,ab,rfl,?_⟩;rw[IW ab];simp only[gj,aW.cs,nY,List.append_assoc]
 have hi:i=b.length:=by omega
 subst hi;have ae:¬((b.length:Int)<(b.length:Int)):=by omega
 exact wo ae
def wF (l:List ByteArray) (lo hi:Nat):List ByteArray:=(l.drop lo).take (hi - lo)
def lk (l:List ByteArray) (x:Nd):aW:=(fC (wF l x.1 x.2)).c9
theorem Rx {l:List ByteArray}(h:eF l=true) (n:Nat):eF (l.drop n)=true:=by
 obtain⟨h1,h2⟩:=gI h;simp only[eF,Bool.and_eq_true,decide_eq_true_eq,dX,List.all_eq_true,List.length_drop];exact⟨by omega,fun b hb=>h2 b (List.mem_of_mem_drop hb)⟩
theorem Pn {l:List ByteArray}(h:eF l=true) (lo hi:Nat):eF (wF l lo hi)=true:=Kh (Rx h lo) _
theorem YU {l:List ByteArray}{n lo hi:Nat}(h:hi≤n):wF (l.take n) lo hi=wF l lo hi:=by
 unfold wF;rw[List.drop_take,List.take_take,Nat.min_eq_left (by omega)]
theorem TZ (l:List aW) (h:l.length≤100000):∀x,(l.map aW.cs++[x]).length≤maxLen∧(l.map aW.cs++[x]).length * 32≤140737488355328:=fun x=>du (E:=aW.cs) (l:=l) (xs:=[x]) (b:=32) (n:=1000000) (by simp;omega) (by omega) (by omega)
theorem Qi:∀(k lo m:Nat),(fU k lo m).length≤m - lo
 | 0,lo,m=>aQ _
 | k+1,lo,m=>by
  rw[fU];split
  ·rename_i h;have:=z8 (n:=m - lo) (by omega);have:=Qi k (lo+half (m - lo)) m;simp only[List.length_cons];omega
  simp
theorem afQ (l:List ByteArray) (h:eF l=true):aR Tryz.prog 298 [.ro 1 (l.map cY)] (.au 0 0 [] 4 0 ((fU l.length 0 l.length).map (lk l)).length) [([],nY ((fU l.length 0 l.length).map (lk l)))]:=by
 refine aA yx false Tryz.f298 ?_;conv=>enter[1];reduce
 refine bf Tryz.f298 34 [.tmp 2] (by kernel_rfl) (by decide +kernel) rfl ?_;have CU:=(gI h).1;refine aw ?_;refine aq.intro (yD l (by unfold maxLen;omega)) ?_;simp -implicitDefEqProofs only[go_sem,h,Bool.not_true,aY];refine cR (fun k s=>∃(at_:Nat) (o:List Nd),at_≤l.length∧k=l.length - at_∧o++fU k at_ l.length=fU l.length 0 l.length∧o.length≤at_∧s=⟨34,[(0,.ro 1 (l.map cY)),(3,.au 3 0 [] 4 0 (o.map (lk l)).length),(4,vI at_)],[(3,0,one (nY (o.map (lk l))))],1⟩) l.length ?_ ?_
 ·refine aw ?_;exact⟨0,[],aQ _,rfl,rfl,Nat.le_refl _,rfl⟩
 rintro k s ⟨at_,o,ha,rfl,ho,hol,rfl⟩;rcases bm at_ l.length with ab|bH
 ·have ae:(at_:Int)<(l.length:Int):=by omega
  have hb:=z8 (n:=l.length - at_) (by omega);have w1:IntKind.i64.wrap ((l.length:Int) - (at_:Int))=((l.length - at_:Nat):Int):=by rw[aV (by omega)];omega
  obtain⟨k',bW⟩:∃k',l.length - at_=k'+1:=⟨l.length - at_ - 1,by omega⟩;have hp:fU (l.length - at_) at_ l.length=(at_,at_+half (l.length - at_))::fU k' (at_+half (l.length - at_)) l.length:=by
   rw[bW,fU,if_pos ab,←bW]
  rw[hp]at ho;refine cg ae w1 ?_;refine aq.intro (UW (l.length - at_) (by omega) (by omega)) ?_;have hR:lk l (at_,at_+half (l.length - at_))=(fC ((l.drop at_).take (at_+half (l.length - at_) - at_))).c9:=rfl;have ac2:∀(a b lo m:Nat),m - lo≤a→m - lo≤b→fU a lo m=fU b lo m:=by
   intro a;induction a with
   | zero=>intro b lo m h1 h2;rw[uP (k:=b) (by omega)];rfl
   | succ a ih=>
    intro b lo m h1 h2;cases b with
    | zero=>rw[uP (k:=a+1) (by omega)];rfl
    | succ b=>
     rw[fU,fU];split
     ·have:=z8 (n:=m - lo) (by omega);rw[ih b (lo+half (m - lo)) m (by omega) (by omega)]
     rfl
  have mF:=fun j hj=>ac2 k' j (at_+half (l.length - at_)) l.length (by omega) hj
  have GI:half (l.length - at_)≤l.length - at_:=hb.2.1;have hd1:=hb.1;clear hb bW hp;generalize half (l.length - at_)=d at *;have w2:IntKind.i64.wrap ((at_:Int)+(d:Int))=((at_+d:Nat):Int):=by rw[aV (by omega)];omega
  have k1:(at_:Int)≤((at_+d:Nat):Int)∧((at_+d:Nat):Int)≤(l.length:Int):=by omega
  refine cg w2 k1 ?_;refine aq.intro (Dv ((l.drop at_).take (at_+d - at_)) (Kh (Rx h _) _)) ?_;have hx:=TZ (o.map (lk l)) (by simp;omega);refine cg w2 hx ?_;refine⟨_,?_,at_+d,o++[(at_,at_+d)],by omega,rfl,?_,?_,?_⟩
  ·omega
  ·rw[List.append_assoc,List.singleton_append,←mF _ (by omega)];exact ho
  ·simp;omega
  rw[List.map_append,List.map_cons,List.map_nil,hR];simp[nY,aW.cs,BD.c9,BD.cs]
 have ae:¬(at_:Int)<(l.length:Int):=by omega
 rw[uP (by omega),List.append_nil]at ho;rw[←ho];exact er ae
theorem MO (l:List ByteArray) (hl:eF l=true) (m:Nat):∀(k lo hi:Nat),lo<hi→hi≤l.length→hi - lo≤k→aR Tryz.prog 299 [.ro 1 (l.map cY),vI lo,vI hi,vI m] (.au 0 0 [] 4 0 ((gN m k lo hi).2.map (lk l)).length) [([],nY ((gN m k lo hi).2.map (lk l)))]
 | 0,lo,hi,h,h2,hk=>by omega
 | k+1,lo,hi,h,h2,hk=>by
  have CU:=(gI hl).1;refine aA yx false Tryz.f299 ?_;conv=>enter[1];reduce
  refine bf Tryz.f299 40 [.tmp 8] (by kernel_rfl) (by decide +kernel) rfl ?_;by_cases c1:hi≤m
  ·have dU:(hi:Int)≤(m:Int):=by omega
   rw[qt c1];simp -implicitDefEqProofs only[go_sem,dU,List.map_nil]
  have dU:¬(hi:Int)≤(m:Int):=by omega
  by_cases c2:m≤lo
  ·have iA:(lo:Int)≥(m:Int):=by omega
   have k1:(lo:Int)≤(hi:Int)∧(hi:Int)≤(l.length:Int):=by omega
   rw[pD c1 c2];refine ez dU iA k1 ?_;refine aq.intro (Dv _ (Pn hl lo hi)) ?_;have hR:lk l (lo,hi)=(fC (wF l lo hi)).c9:=rfl;simp -implicitDefEqProofs only[go_sem,hR,aW.cs,BD.c9];try rfl
  have iA:¬(lo:Int)≥(m:Int):=by omega
  have hs:=og (n:=hi - lo) (by omega);have w1:IntKind.i64.wrap ((hi:Int) - (lo:Int))=((hi - lo:Nat):Int):=by rw[aV (by omega)];omega
  rw[qu c1 c2];simp only[List.map_append];refine ez dU iA w1 ?_;refine aq.intro (HM (hi - lo) (by omega) (by omega)) ?_;have w2:IntKind.i64.wrap ((lo:Int)+((cB (hi - lo):Nat):Int))=((lo+cB (hi - lo):Nat):Int):=by rw[aV (by omega)];omega
  have l1:=(pE (m:=m) k lo (lo+cB (hi - lo)) (by omega) (by omega)).2;have l2:=(pE (m:=m) k (lo+cB (hi - lo)) hi (by omega) (by omega)).2;refine aC w2 ?_;refine cz (MO l hl m k lo (lo+cB (hi - lo)) (by omega) (by omega) (by omega)) ?_;refine cz (MO l hl m k (lo+cB (hi - lo)) hi (by omega) (by omega) (by omega)) ?_;refine aq.intro (MW _ _ (by rw[List.length_map];omega) (by rw[List.length_map];omega)) ?_;exact dt
def tL (l:List ByteArray) (m:Nat):List aW:=if m=0∨m=l.length then [] else((gN m l.length 0 l.length).1++(gN m l.length 0 l.length).2).map (lk l)
def xm (l:List ByteArray) (m:Int):Bool:=eF l&&m6 m l.length
def sd (l:List ByteArray) (m:Int):List aW:=match xm l m with
 | true=>tL l m.toNat
 | false=>[]
theorem FZ {l:List ByteArray}{m:Nat}(h:m=0∨m=l.length):tL l m=[]:=by unfold tL;rw[if_pos h]
theorem abz {l:List ByteArray}{m:Nat}(h:¬(m=0∨m=l.length)) (h2:m≤l.length):tL l m=(fU m 0 m).map (lk (l.take m))++(gN m l.length 0 l.length).2.map (lk l):=by
 have e:=CZ (m:=m) l.length m 0 l.length (by omega) (by omega) (by omega) (by omega);unfold tL;rw[if_neg h,List.map_append,e];congr 1;rw[←e];refine List.map_congr_left fun x hx=>?_
 have hm:∀(k lo hi:Nat),∀x∈(gN m k lo hi).1,x.2≤m:=by
  intro k;induction k with
  | zero=>intro lo hi x hx;simp[gN]at hx
  | succ k ih=>
   intro lo hi x hx;by_cases h1:hi≤m
   ·rw[qt h1]at hx;simp at hx;subst hx;exact h1
   by_cases h2:m≤lo
   ·rw[pD h1 h2]at hx;simp at hx
   rw[qu h1 h2]at hx;rcases List.mem_append.1 hx with hx|hx
   ·exact ih _ _ _ hx
   exact ih _ _ _ hx
 unfold lk;rw[YU (hm _ _ _ x hx)]
def yl (l:List ByteArray) (m:Int):AV:=.ba [.au 0 0 [] 4 0 (sd l m).length,vB (xm l m)]
def ym (l:List ByteArray) (m:Int):aj:=[(0,0,one (nY (sd l m)))]
attribute [go_sem] yl ym
theorem af2 (l:List ByteArray) (m:Int) (hl:l.length≤maxLen):bb Tryz.prog 271 [] [.ro 1 (l.map cY),vI m] (yl l m) (ym l m):=by
 refine aA yx false Tryz.f271 ?_;conv=>enter[1];reduce
 refine bT Tryz.f271 36 [.tmp 4,.tmp 5] (by kernel_rfl) (by decide +kernel) rfl ?_;unfold yl ym sd xm;refine aw ?_;refine aq.intro (yD l hl) ?_;cases h1:eF l with
 | false=>
  simp -implicitDefEqProofs only[go_sem,Bool.not_false,Bool.false_and,bc]
 | true=>
  refine Eo ?_;refine aq.intro (MP _ _) ?_;rw[FY];cases h2:m6 m l.length with
  | false=>simp -implicitDefEqProofs only[go_sem,Bool.not_false,bc]
  | true=>
   obtain⟨hn,hm⟩:=xl h2;obtain⟨M,rfl⟩:∃M:Nat,m=M:=⟨m.toNat,by omega⟩;have S7:M≤l.length:=by omega
   by_cases h3:M=0
   ·subst h3;have e:=FZ (l:=l) (m:=0) (.inl rfl);simp -implicitDefEqProofs only[go_sem,Bool.not_true,e,Int.toNat_natCast,bc,z0];try rfl
   have oL:((M:Int)==0)=false:=by rw[beq_eq_false_iff_ne];omega
   by_cases h4:M=l.length
   ·have yk:((M:Int)==(l.length:Int))=true:=by rw[beq_iff_eq];omega
    have e:=FZ (l:=l) (m:=M) (.inr h4);simp -implicitDefEqProofs only[go_sem,Bool.not_true,e,oL,yk,Int.toNat_natCast,bc];try rfl
   have yk:((M:Int)==(l.length:Int))=false:=by rw[beq_eq_false_iff_ne];omega
   have e:=abz (l:=l) (m:=M) (fun h=>h.elim h3 h4) S7;have k1:(0:Int)≤(M:Int)∧(M:Int)≤(l.length:Int):=by omega
   have ht:(l.take M).length=M:=by rw[List.length_take];omega
   have hp:=afQ (l.take M) (Kh h1 M);rw[ht]at hp;have l1:=Qi M 0 M;have l2:=(pE (m:=M) l.length 0 l.length (by omega) (by omega)).2;rw[Int.toNat_natCast,e];simp -implicitDefEqProofs only[go_sem,Bool.not_true,oL,yk,k1,Nat.sub_zero,List.drop_zero,bc];refine cz hp ?_;refine cz (MO l h1 M l.length 0 l.length (by omega) (by omega) (by omega)) ?_;refine aq.intro (MW _ _ (by rw[List.length_map];omega) (by rw[List.length_map];omega)) ?_;exact dt
theorem af9 (l:List ByteArray) (m:Int) (hl:l.length≤maxLen):bb Tryz.prog 256 [] [.ro 1 (l.map cY),vI m] (yl l m) (ym l m):=by
 refine aA yx false Tryz.f256 ?_;conv=>enter[1];reduce
 refine bT Tryz.f256 57 [.tmp 4,.tmp 5] (by kernel_rfl) (by decide +kernel) rfl ?_;unfold yl ym sd xm;refine aw ?_;refine aq.intro (Aw l hl) ?_;cases h1:eF l with
 | false=>
  simp -implicitDefEqProofs only[go_sem,Bool.not_false,Bool.false_and,bc]
 | true=>
  refine Eo ?_;refine aq.intro (MU _ _) ?_;cases h2:m6 m l.length with
  | false=>simp -implicitDefEqProofs only[go_sem,Bool.not_false,bc]
  | true=>
   obtain⟨hn,hm⟩:=xl h2;obtain⟨M,rfl⟩:∃M:Nat,m=M:=⟨m.toNat,by omega⟩;have S7:M≤l.length:=by omega
   by_cases h3:M=0
   ·subst h3;have e:=FZ (l:=l) (m:=0) (.inl rfl);simp -implicitDefEqProofs only[go_sem,Bool.not_true,e,Int.toNat_natCast,bc,z0];try rfl
   have oL:((M:Int)==0)=false:=by rw[beq_eq_false_iff_ne];omega
   by_cases h4:M=l.length
   ·have yk:((M:Int)==(l.length:Int))=true:=by rw[beq_iff_eq];omega
    have e:=FZ (l:=l) (m:=M) (.inr h4);simp -implicitDefEqProofs only[go_sem,Bool.not_true,e,oL,yk,Int.toNat_natCast,bc];try rfl
   have yk:((M:Int)==(l.length:Int))=false:=by rw[beq_eq_false_iff_ne];omega
   have e:tL l M=((gN M l.length 0 l.length).1++(gN M l.length 0 l.length).2).map (lk l):=by unfold tL;rw[if_neg (fun h=>h.elim h3 h4)]
   have na:=pE (m:=M) l.length 0 l.length (by omega) (by omega);have cc:=vu (m:=M) l.length 0 l.length (by omega) (by omega);rw[Int.toNat_natCast,e];simp -implicitDefEqProofs only[go_sem,Bool.not_true,oL,yk,bc];refine aD.intro (MT M l.length (by omega) (by omega)) ?_;have ej:((gN M l.length 0 l.length).1++(gN M l.length 0 l.length).2).length≤maxLen∧((gN M l.length 0 l.length).1++(gN M l.length 0 l.length).2).length * 16≤140737488355328:=by
    simp only[List.length_append,maxLen];omega
   have GD:∀x∈(gN M l.length 0 l.length).1++(gN M l.length 0 l.length).2,x.1≤x.2∧x.2≤l.length:=fun x hx=>by
    have:=cc x (List.mem_append.1 hx);omega
   simp -implicitDefEqProofs only[go_sem,ej,←List.map_append];generalize hX:(gN M l.length 0 l.length).1++(gN M l.length 0 l.length).2=X at *;have S4:X.length≤600:=by rw[←hX,List.length_append];omega
   refine jX [(8,4)] (fun m s=>∃i:Nat,i≤X.length∧m=X.length - i∧s=⟨57,[(0,.ro 1 (l.map cY)),(8,.au 8 0 [] 4 0 ((X.take i).map (lk l)).length),(38,.au 38 0 [] 2 0 X.length),(39,vI X.length),(40,vI i)],[(8,0,one (nY ((X.take i).map (lk l)))),(38,0,one (xd X))],1⟩) X.length ?_ ?_
   ·refine aw ?_;exact⟨0,aQ _,rfl,rfl⟩
   rintro m s ⟨i,hi,rfl,rfl⟩;rcases bm i X.length with ab|bH
   ·have ae:(i:Int)<(X.length:Int):=by omega
    have hg:X[i]?=some X[i]:=bz ab;have hw:=df ab (by unfold maxLen;omega);have hxi:=GD X[i] (List.getElem_mem ab);have k1:(X[i].1:Int)≤(X[i].2:Int)∧(X[i].2:Int)≤(l.length:Int):=by omega
    have hx:=TZ ((X.take i).map (lk l)) (by simp;omega);have hR:lk l X[i]=(fC (wF l X[i].1 X[i].2)).c9:=rfl;simp -implicitDefEqProofs only[go_sem,ae,hg,nC,k1];refine qG (HD _ (Pn h1 X[i].1 X[i].2)) hw hx ?_;refine⟨_,by omega,i+1,ab,rfl,?_⟩;rw[IW ab,List.map_append,List.map_cons,List.map_nil,hR];simp only[nY,List.map_append,List.length_append,List.map_cons,List.map_nil,List.length_cons,List.length_nil,List.length_map,aW.cs,BD.c9];try rfl
   have hi:i=X.length:=by omega
   subst hi;have ae:¬((X.length:Int)<(X.length:Int)):=by omega
   refine Ev ae ?_;refine aq.intro (DI (X.map (lk l)) (by rw[List.length_map];omega)) ?_;exact dt
end
section
set_option maxHeartbeats 4000000
set_option maxRecDepth 10000
set_option linter.unusedSectionVars false
def Ms:bX:=⟨[],[9,10,11],[24,26,30,44,47,50,51,52,57,58,59,62,76,88,138,185,186,187,253,254,297,311],false⟩
theorem Jy:∀k n,fT k n≤k
 | 0,n=>Nat.le_refl _
 | k+1,n=>by
  have:=Jy k (n/2);rw[fT];omega
theorem MN (n:Nat) (h:n≤256):aR Tryz.prog 302 [vI n] (vI (fT 9 n)) []:=by
 refine aA Ms false Tryz.f302 ?_;conv=>enter[1];reduce
 refine bf Tryz.f302 16 [.tmp 2] (by kernel_rfl) (by decide +kernel) rfl ?_;refine aw ?_;refine aq.intro (e9 _ _ _) ?_;have cc:aT (n:Int) 0 256=true:=cf.2 (by omega);simp -implicitDefEqProofs only[go_sem,cc,Bool.not_true,aY];refine cR (fun m s=>∃c k:Nat,m<2 ^ k∧k≤9∧c+fT k m=fT 9 n∧s=⟨16,[(0,vI m),(3,vI c)],[],1⟩) n ?_ ?_
 ·refine aw ?_;exact⟨0,9,by omega,by omega,by omega,rfl⟩
 rintro m s ⟨c,k,hm,hk,hc,rfl⟩;have h9:=Jy 9 n;rcases Nat.eq_zero_or_pos m with h0|h0
 ·subst h0;have ug:¬((0:Nat):Int)>0:=by omega
  rw[BF]at hc;refine aC ug ?_;rw[←hc];rfl
 have ug:(m:Int)>0:=by omega
 cases k with
 | zero=>simp at hm;omega
 | succ k=>
  rw[fT]at hc;rw[Nat.pow_succ]at hm;have t1:(m:Int).tmod 2=((m%2:Nat):Int):=by rw[Int.tmod_eq_emod_of_nonneg (by omega)];omega
  have t2:(m:Int).tdiv 2=((m/2:Nat):Int):=by rw[Int.tdiv_eq_ediv_of_nonneg (by omega)];omega
  have hb:m/2≤2 ^ 9:=by
   have:2 ^ k≤2 ^ 9:=Nat.pow_le_pow_right (by omega) (by omega);omega
  have j5:m/2≤1000:=by simpa using Nat.le_trans hb (by decide:2 ^ 9≤1000)
  have w1:IntKind.i64.wrap ((m%2:Nat):Int)=((m%2:Nat):Int):=aV (by omega);have w2:IntKind.i64.wrap ((c:Int)+((m%2:Nat):Int))=((c+m%2:Nat):Int):=by rw[aV (by omega)];omega
  have w3:IntKind.i64.wrap ((m/2:Nat):Int)=((m/2:Nat):Int):=aV (by omega);refine nz ug t1 t2 w1 w2 w3 ?_;exact⟨m/2,by omega,c+m%2,k,by omega,by omega,by omega,rfl⟩
def ka (m k lo hi at_:Nat):Nat:=((gN m k lo hi).2.filter fun x=>decide (x.1<at_)).length
theorem JW {m k lo hi at_:Nat}(h:lo<hi) (hk:hi - lo≤k):ka m k lo hi at_≤hi - lo:=Nat.le_trans (List.length_filter_le _ _) (pE k lo hi h hk).2
theorem Hz (m at_:Nat):∀(k lo hi:Nat),lo<hi→hi≤256→hi - lo≤k→aR Tryz.prog 310 [vI lo,vI hi,vI m,vI at_] (vI (ka m k lo hi at_)) []
 | 0,lo,hi,h,h2,hk=>by omega
 | k+1,lo,hi,h,h2,hk=>by
  refine aA Ms false Tryz.f310 ?_;conv=>enter[1];reduce
  refine bf Tryz.f310 38 [.tmp 8] (by kernel_rfl) (by decide +kernel) rfl ?_;by_cases c1:hi≤m
  ·have dU:(hi:Int)≤(m:Int):=by omega
   have e:ka m (k+1) lo hi at_=0:=by unfold ka;rw[qt c1];rfl
   rw[e];simp -implicitDefEqProofs only[go_sem,dU,bc];try rfl
  have dU:¬(hi:Int)≤(m:Int):=by omega
  by_cases c0:at_≤lo
  ·have HQ:(lo:Int)≥(at_:Int):=by omega
   have e:ka m (k+1) lo hi at_=0:=by
    unfold ka;rw[List.length_eq_zero_iff,List.filter_eq_nil_iff];intro x hx;have:=vu (m:=m) (k+1) lo hi h hk x (.inr hx);simp;omega
   rw[e];simp -implicitDefEqProofs only[go_sem,dU,HQ,bc];try rfl
  have HQ:¬(lo:Int)≥(at_:Int):=by omega
  by_cases c2:m≤lo
  ·have iA:(lo:Int)≥(m:Int):=by omega
   have e:ka m (k+1) lo hi at_=1:=by
    unfold ka;rw[pD c1 c2,List.filter_cons_of_pos (by simp;omega)];rfl
   rw[e];simp -implicitDefEqProofs only[go_sem,dU,HQ,iA,bc];try rfl
  have iA:¬(lo:Int)≥(m:Int):=by omega
  have hs:=og (n:=hi - lo) (by omega);have e:ka m (k+1) lo hi at_=ka m k lo (lo+cB (hi - lo)) at_+ka m k (lo+cB (hi - lo)) hi at_:=by
   unfold ka;rw[qu c1 c2,List.filter_append,List.length_append]
  have w1:IntKind.i64.wrap ((hi:Int) - (lo:Int))=((hi - lo:Nat):Int):=by rw[aV (by omega)];omega
  have w2:IntKind.i64.wrap ((lo:Int)+((cB (hi - lo):Nat):Int))=((lo+cB (hi - lo):Nat):Int):=by rw[aV (by omega)];omega
  rw[e];simp -implicitDefEqProofs only[go_sem,dU,HQ,iA,w1,bc];refine aq.intro (HM (hi - lo) (by omega) (by omega)) ?_;have l1:=JW (m:=m) (k:=k) (lo:=lo) (hi:=lo+cB (hi - lo)) (at_:=at_) (by omega) (by omega);have l2:=JW (m:=m) (k:=k) (lo:=lo+cB (hi - lo)) (hi:=hi) (at_:=at_) (by omega) (by omega);have w3:IntKind.i64.wrap (((ka m k lo (lo+cB (hi - lo)) at_:Nat):Int)+((ka m k (lo+cB (hi - lo)) hi at_:Nat):Int))=((ka m k lo (lo+cB (hi - lo)) at_+ka m k (lo+cB (hi - lo)) hi at_:Nat):Int):=by rw[aV (by omega)];omega
  refine aC w2 ?_;refine cz (Hz m at_ k lo (lo+cB (hi - lo)) (by omega) (by omega) (by omega)) ?_;refine aq.intro (Hz m at_ k (lo+cB (hi - lo)) hi (by omega) (by omega) (by omega)) ?_;exact er w3
theorem aa0 {m k lo hi:Nat}(h:lo<hi) (hk:hi - lo≤k):ka m k lo hi hi=(gN m k lo hi).2.length:=by
 unfold ka;rw[List.filter_eq_self.2];intro x hx;have:=vu (m:=m) k lo hi h hk x (.inr hx);simp;omega
theorem Fh {m n:Nat}(h1:0<m) (h2:m<n) (h3:n≤256):fT 9 m=(gN m n 0 n).1.length:=by
 rw[CZ (m:=m) n m 0 n (by omega) (by omega) (by omega) (by omega),Qh m 0 m 9 (by omega) (by omega)];rfl
theorem afP (m n:Int):aR Tryz.prog 300 [vI m,vI n] (vI (lB m n)) []:=by
 refine aA Ms false Tryz.f300 ?_;conv=>enter[1];reduce
 refine bf Tryz.f300 23 [.tmp 4] (by kernel_rfl) (by decide +kernel) rfl ?_;unfold lB;refine aw ?_;refine aq.intro (MP _ _) ?_;rw[FY];cases h:m6 m n with
 | false=>simp -implicitDefEqProofs only[go_sem,Bool.not_false,aZ,aY,Bool.false_eq_true]
 | true=>
  obtain⟨hn,hm⟩:=xl h;by_cases h0:m=0
  ·subst h0;exact Of true_or
  have ug:(m==0)=false:=by simpa using h0
  by_cases h1:m=n
  ·subst h1;simp -implicitDefEqProofs only[go_sem,ug,Bool.not_true,aZ,aY,eo,bU,eO,ek,or_true]
  have oM:(m==n)=false:=by simpa using h1
  obtain⟨M,rfl⟩:∃M:Nat,m=M:=⟨m.toNat,by omega⟩;obtain⟨N,rfl⟩:∃N:Nat,n=N:=⟨n.toNat,by omega⟩;have eH:¬((M:Int)=0∨(M:Int)=(N:Int)):=fun h=>h.elim h0 h1
  have hl:=pE (m:=M) N 0 N (by omega) (by omega);have e1:=Fh (m:=M) (n:=N) (by omega) (by omega) (by omega);have e2:=aa0 (m:=M) (k:=N) (lo:=0) (hi:=N) (by omega) (by omega);have w1:IntKind.i64.wrap (((gN M N 0 N).1.length:Int)+((gN M N 0 N).2.length:Int))=(((gN M N 0 N).1.length+(gN M N 0 N).2.length:Nat):Int):=by rw[aV (by omega)];omega
  simp -implicitDefEqProofs only[go_sem,ug,oM,eH,Bool.not_true,aZ,aY,eo,bU,eO,ek];refine cz (MN M (by omega)) ?_;refine aq.intro (Hz M N N 0 N (by omega) (by omega) (by omega)) ?_;rw[e1,e2];exact er w1
end
def aW.bd (d:aW):BD:=⟨BitVec.ofNat 64 d.a,BitVec.ofNat 64 d.b,BitVec.ofNat 64 d.c,BitVec.ofNat 64 d.d⟩
theorem aW.ahz {d:aW}(h:d.ok):d.bd.c9=d:=by
 obtain⟨h1,h2,h3,h4⟩:=h;obtain⟨a,b,c,e⟩:=d;simp only at h1 h2 h3 h4;simp only[aW.bd,BD.c9,BitVec.toNat_ofNat,aW.mk.injEq];exact⟨Nat.mod_eq_of_lt h1,Nat.mod_eq_of_lt h2,Nat.mod_eq_of_lt h3,Nat.mod_eq_of_lt h4⟩
def nE:List BD→BD
 | []=>fY []
 | [x]=>x
 | x::y::l=>rh x (nE (y::l))
def AQ (l:List Nd):Prop:=l.Pairwise fun x y=>x.1<y.1
theorem CY {m:Nat}:∀(k lo hi:Nat),lo<hi→hi - lo≤k→AQ (gN m k lo hi).1∧AQ (gN m k lo hi).2
 | 0,lo,hi,h,hk=>by omega
 | k+1,lo,hi,h,hk=>by
  by_cases h1:hi≤m
  ·rw[qt h1];exact⟨List.pairwise_singleton _ _,List.Pairwise.nil⟩
  by_cases h2:m≤lo
  ·rw[pD h1 h2];exact⟨List.Pairwise.nil,List.pairwise_singleton _ _⟩
  rw[qu h1 h2];have hs:=og (n:=hi - lo) (by omega);have a:=CY (m:=m) k lo (lo+cB (hi - lo)) (by omega) (by omega);have b:=CY (m:=m) k (lo+cB (hi - lo)) hi (by omega) (by omega);have ia:=vu (m:=m) k lo (lo+cB (hi - lo)) (by omega) (by omega);have ib:=vu (m:=m) k (lo+cB (hi - lo)) hi (by omega) (by omega);refine⟨List.pairwise_append.2 ⟨a.1,b.1,fun x hx y hy=>?_⟩,List.pairwise_append.2 ⟨a.2,b.2,fun x hx y hy=>?_⟩⟩
  ·have:=ia x (.inl hx);have:=ib y (.inl hy);omega
  have:=ia x (.inr hx);have:=ib y (.inr hy);omega
theorem GW {m:Nat}:∀(k lo hi:Nat),(∀x∈(gN m k lo hi).1,x.2≤m)∧(∀x∈(gN m k lo hi).2,m≤x.1)
 | 0,lo,hi=>by simp[gN]
 | k+1,lo,hi=>by
  by_cases h1:hi≤m
  ·rw[qt h1];simp[h1]
  by_cases h2:m≤lo
  ·rw[pD h1 h2];simp[h2]
  rw[qu h1 h2];have a:=GW (m:=m) k lo (lo+cB (hi - lo));have b:=GW (m:=m) k (lo+cB (hi - lo)) hi;exact⟨fun x hx=>(List.mem_append.1 hx).elim (a.1 x) (b.1 x),fun x hx=>(List.mem_append.1 hx).elim (a.2 x) (b.2 x)⟩
def gA (m n:Nat):List Nd:=(gN m n 0 n).1++(gN m n 0 n).2
theorem Ti {m n:Nat}(h:1≤n):AQ (gA m n):=by
 have a:=CY (m:=m) n 0 n (by omega) (by omega);have i:=vu (m:=m) n 0 n (by omega) (by omega);have s:=GW (m:=m) n 0 n;refine List.pairwise_append.2 ⟨a.1,a.2,fun x hx y hy=>?_⟩;have:=i x (.inl hx);have:=s.1 x hx;have:=s.2 y hy;omega
theorem O5:∀{l:List Nd}(h:AQ l) {i:Nat}(hi:i<l.length),(l.filter fun x=>decide (x.1<l[i].1)).length=i
 | [],_,_,hi=>by simp at hi
 | x::l,h,0,_=>by
  obtain⟨h1,h2⟩:=List.pairwise_cons.1 h;simp only[List.getElem_cons_zero];rw[List.filter_cons_of_neg (by simp),List.length_eq_zero_iff,List.filter_eq_nil_iff];intro y hy;have:=h1 y hy;simp;omega
 | x::l,h,i+1,hi=>by
  obtain⟨h1,h2⟩:=List.pairwise_cons.1 h;have fK:i<l.length:=by simpa using hi
  simp only[List.getElem_cons_succ];have:=h1 l[i] (List.getElem_mem fK);rw[List.filter_cons_of_pos (by simpa using this),List.length_cons,O5 h2 fK]
theorem O6 {l:List Nd}(h:AQ l):l.Pairwise (·≠·):=h.imp fun {a b} z9 e=>by rw[e]at z9;exact Nat.lt_irrefl _ z9
end Go.Proofs.YtobpfkgabdeefaaGreat.E
