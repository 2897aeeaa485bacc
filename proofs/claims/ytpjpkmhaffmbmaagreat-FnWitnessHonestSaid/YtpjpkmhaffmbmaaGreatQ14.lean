/- Contracts: growths, in the reference; their proofs, in both; Contracts: a growth's proof, drawn disks; Contracts: drawn leaves and sizes; Contracts: how many peaks, how long a growth's proof is, in the reference; Digests as four words; how peaks make a root; nodes that are apart -/
import Derived.Test.YtpjpkmhaffmbmaaGreatQ12
import Derived.Test.YtpjpkmhaffmbmaaGreatQ13
section
namespace Go.Proofs.YtpjpkmhaffmbmaaGreat.E
open Go Go.RowKit
set_option maxHeartbeats 4000000
set_option maxRecDepth 10000
set_option linter.unusedSimpArgs false
set_option linter.unusedVariables false
set_option linter.unusedSectionVars false
def zqd:Dec:=⟨[],[9,10,11],[22,30,37,38,39,40,49,56,76,80,87,141,143,159,237,250,259],false⟩
theorem zpe (m n:Int):CallR Tryz.prog 56 [vI m,vI n] (vB (mIn m 0 n&&decide (n≤256))) []:=by
 refine zl zqd false Tryz.f56 ?_
 conv=>enter [1];reduce
 refine jvR Tryz.f56 12 [.tmp 4] (by kernel_rfl) (by decide +kernel) rfl ?_
 simp -implicitDefEqProofs only [go_sem]
 refine Want.intro (zaK _ _ _) ?_
 cases h:mIn m 0 n<;>simp -implicitDefEqProofs only [go_sem,ze,zf,zg,zc,zb,za,Bool.false_and,Bool.true_and]
theorem wP (m n:Int):(mIn m 0 n&&decide (n≤256))=jq m n:=by
 unfold jq mIn
 rw [Bool.eq_iff_iff]
 simp only [Bool.and_eq_true,decide_eq_true_eq]
 omega
theorem znu (n:Nat) (h:1≤n) (h2:n≤1000):CallR Tryz.prog 134 [vI n] (vI (jc n)) []:=by
 refine zl zqd false Tryz.f134 ?_
 conv=>enter [1];reduce
 refine jvR Tryz.f134 11 [.tmp 2] (by kernel_rfl) (by decide +kernel) rfl ?_
 simp -implicitDefEqProofs only [go_sem]
 refine zX (fun m s=>∃j:Nat,2 ^ j≤n∧m=n - 2 ^ j∧s=⟨11,[(0,vI n),(3,vI ((2 ^ j:Nat):Int))],[],1⟩) (n - 1) ?_ ?_
 ·simp -implicitDefEqProofs only [go_sem]
  exact ⟨0,by simp;omega,rfl,rfl⟩
 ·rintro m s ⟨j,hj,rfl,rfl⟩
  have e:2 ^ (j+1)=2 * 2 ^ j:=by rw [Nat.pow_succ];omega
  have hp:0<2 ^ j:=Nat.pow_pos (by omega)
  have hS:=fun h2=>zkr (n:=n) (j:=j) hj h2
  generalize hq:2 ^ j=q at *
  have w1:IntKind.i64.wrap (2 * (q:Int))=((2 * q:Nat):Int):=by rw [wrS (by omega)];omega
  rcases Nat.lt_or_ge n (2 * q) with hlt | hge
  ·have hlt':¬((2 * q:Nat):Int)≤(n:Int):=by omega
   simp -implicitDefEqProofs only [go_sem,w1,hlt']
   rw [hS (by omega)]
  ·have hlt':((2 * q:Nat):Int)≤(n:Int):=by omega
   simp -implicitDefEqProofs only [go_sem,w1,hlt']
   exact ⟨_,by omega,j+1,by omega,rfl,by rw [e]⟩
def wz (l:List MDig):Row:=⟨4,l.map MDig.cs,2,false⟩
attribute [go_sem] wz
theorem zmA (a b:List MDig) (ha:a.length≤1000) (hb:b.length≤1000):CallR Tryz.prog 78 [.ro 4 (a.map MDig.cs),.ro 4 (b.map MDig.cs)] (.blk 0 0 [] 4 0 (a++b).length) [([],wz (a++b))]:=by
 refine zl zqd false Tryz.f78 ?_
 conv=>enter [1];reduce
 refine jvR Tryz.f78 36 [.tmp 4] (by kernel_rfl) (by decide +kernel) rfl ?_
 simp -implicitDefEqProofs only [go_sem]
 refine zX (fun m s=>∃i:Nat,i≤a.length∧m=a.length - i∧s=⟨36,[(0,.ro 4 (a.map MDig.cs)),(1,.ro 4 (b.map MDig.cs)),(5,.blk 5 0 [] 4 0 (a.take i).length),(6,vI i)],[(5,0,one (wz (a.take i)))],1⟩) a.length ?_ ?_
 ·simp -implicitDefEqProofs only [go_sem]
  exact ⟨0,Nat.zero_le _,rfl,rfl⟩
 ·rintro m s ⟨i,hi,rfl,rfl⟩
  rcases Nat.lt_or_ge i a.length with hlt | hge
  ·have hlt':(i:Int)<(a.length:Int):=by omega
   have hg:a[i]?=some a[i]:=List.getElem?_eq_getElem hlt
   have hw:=zG hlt (by unfold maxLen;omega)
   have hx:∀x,_:=fun x=>zK (E:=MDig.cs) (l:=a.take i) (xs:=[x]) (b:=32) (n:=10000) (by simp;omega) (by omega) (by omega)
   simp -implicitDefEqProofs only [go_sem,hlt',hg,hw,hx]
   refine ⟨_,by omega,i+1,hlt,rfl,?_⟩
   rw [zi6 hlt]
   simp only [List.map_append,List.length_append,List.length_map,List.map_cons,List.map_nil,List.length_cons,List.length_nil,MDig.cs,wz]
   try rfl
  ·have hi:i=a.length:=by omega
   subst hi
   have hlt':¬((a.length:Int)<(a.length:Int)):=by omega
   simp -implicitDefEqProofs only [go_sem,hlt',List.take_length]
   refine zX (fun m s=>∃i:Nat,i≤b.length∧m=b.length - i∧s=⟨36,[(1,.ro 4 (b.map MDig.cs)),(5,.blk 5 0 [] 4 0 (a++b.take i).length),(7,vI i)],[(5,0,one (wz (a++b.take i)))],1⟩) b.length ?_ ?_
   ·simp -implicitDefEqProofs only [go_sem]
    exact ⟨0,Nat.zero_le _,rfl,by simp [wz]⟩
   ·rintro m s ⟨i,hi,rfl,rfl⟩
    rcases Nat.lt_or_ge i b.length with hlt | hge
    ·have hlt':(i:Int)<(b.length:Int):=by omega
     have hg:b[i]?=some b[i]:=List.getElem?_eq_getElem hlt
     have hw:=zG hlt (by unfold maxLen;omega)
     have hx:∀x,_:=fun x=>zK (E:=MDig.cs) (l:=a++b.take i) (xs:=[x]) (b:=32) (n:=10000) (by simp;omega) (by omega) (by omega)
     simp -implicitDefEqProofs only [go_sem,hlt',hg,hw,hx]
     refine ⟨_,by omega,i+1,hlt,rfl,?_⟩
     rw [zi6 hlt]
     simp only [List.map_append,List.length_append,List.length_map,List.map_cons,List.map_nil,List.length_cons,List.length_nil,MDig.cs,wz,List.append_assoc]
    ·have hi:i=b.length:=by omega
     subst hi
     have hlt':¬((b.length:Int)<(b.length:Int)):=by omega
     simp -implicitDefEqProofs only [go_sem,hlt',List.take_length]
def seg (l:List ByteArray) (lo hi:Nat):List ByteArray:=(l.drop lo).take (hi - lo)
def ndR (l:List ByteArray) (x:Nd):MDig:=(xi (seg l x.1 x.2)).dig
theorem jU {l:List ByteArray} (h:zI l=true) (n:Nat):zI (l.drop n)=true:=by
 obtain ⟨h1,h2⟩:=yK h
 simp only [zI,Bool.and_eq_true,decide_eq_true_eq,zt,List.all_eq_true,List.length_drop]
 exact ⟨by omega,fun b hb=>h2 b (List.mem_of_mem_drop hb)⟩
theorem zqx {l:List ByteArray} (h:zI l=true) (lo hi:Nat):zI (seg l lo hi)=true:=jE (jU h lo) _
theorem zlG {l:List ByteArray} {n lo hi:Nat} (h:hi≤n):seg (l.take n) lo hi=seg l lo hi:=by
 unfold seg
 rw [List.drop_take,List.take_take,Nat.min_eq_left (by omega)]
theorem znj (l:List MDig) (h:l.length≤100000):∀x,(l.map MDig.cs++[x]).length≤maxLen∧(l.map MDig.cs++[x]).length * 32≤140737488355328:=fun x=>zK (E:=MDig.cs) (l:=l) (xs:=[x]) (b:=32) (n:=1000000) (by simp;omega) (by omega) (by omega)
theorem zf6:∀(k lo m:Nat),(pks k lo m).length≤m - lo
 | 0,lo,m=>Nat.zero_le _
 | k+1,lo,m=>by
  rw [pks]
  split
  ·rename_i h
   have:=js (n:=m - lo) (by omega)
   have:=zf6 k (lo+jc (m - lo)) m
   simp only [List.length_cons]
   omega
  ·simp
theorem c79_c (l:List ByteArray) (h:zI l=true):CallR Tryz.prog 79 [.ro 1 (l.map zw)] (.blk 0 0 [] 4 0 ((pks l.length 0 l.length).map (ndR l)).length) [([],wz ((pks l.length 0 l.length).map (ndR l)))]:=by
 refine zl zqd false Tryz.f79 ?_
 conv=>enter [1];reduce
 refine jvR Tryz.f79 34 [.tmp 2] (by kernel_rfl) (by decide +kernel) rfl ?_
 have h256:=(yK h).1
 simp -implicitDefEqProofs only [go_sem]
 refine Want.intro (zkR l (by unfold maxLen;omega)) ?_
 simp -implicitDefEqProofs only [go_sem,h,Bool.not_true,za]
 refine zX (fun k s=>∃(at_:Nat) (o:List Nd),at_≤l.length∧k=l.length - at_∧o++pks k at_ l.length=pks l.length 0 l.length∧o.length≤at_∧s=⟨34,[(0,.ro 1 (l.map zw)),(3,.blk 3 0 [] 4 0 (o.map (ndR l)).length),(4,vI at_)],[(3,0,one (wz (o.map (ndR l))))],1⟩) l.length ?_ ?_
 ·simp -implicitDefEqProofs only [go_sem]
  exact ⟨0,[],Nat.zero_le _,rfl,rfl,Nat.le_refl _,rfl⟩
 ·rintro k s ⟨at_,o,ha,rfl,ho,hol,rfl⟩
  rcases Nat.lt_or_ge at_ l.length with hlt | hge
  ·have hlt':(at_:Int)<(l.length:Int):=by omega
   have hb:=js (n:=l.length - at_) (by omega)
   have w1:IntKind.i64.wrap ((l.length:Int) - (at_:Int))=((l.length - at_:Nat):Int):=by rw [wrS (by omega)];omega
   obtain ⟨k',hk'⟩:∃k',l.length - at_=k'+1:=⟨l.length - at_ - 1,by omega⟩
   have hp:pks (l.length - at_) at_ l.length=(at_,at_+jc (l.length - at_))::pks k' (at_+jc (l.length - at_)) l.length:=by
    rw [hk',pks,if_pos hlt,←hk']
   rw [hp] at ho
   simp -implicitDefEqProofs only [go_sem,hlt',w1]
   refine Want.intro (znu (l.length - at_) (by omega) (by omega)) ?_
   have hR:ndR l (at_,at_+jc (l.length - at_))=(xi ((l.drop at_).take (at_+jc (l.length - at_) - at_))).dig:=rfl
   have hfuel:∀(a b lo m:Nat),m - lo≤a→m - lo≤b→pks a lo m=pks b lo m:=by
    intro a
    induction a with
    | zero=>intro b lo m h1 h2;rw [qJ (k:=b) (by omega)];rfl
    | succ a ih=>
     intro b lo m h1 h2
     cases b with
     | zero=>rw [qJ (k:=a+1) (by omega)];rfl
     | succ b=>
      rw [pks,pks]
      split
      ·have:=js (n:=m - lo) (by omega)
       rw [ih b (lo+jc (m - lo)) m (by omega) (by omega)]
      ·rfl
   have ho':=fun j hj=>hfuel k' j (at_+jc (l.length - at_)) l.length (by omega) hj
   have hdl:jc (l.length - at_)≤l.length - at_:=hb.2.1
   have hd1:=hb.1
   clear hb hk' hp
   generalize jc (l.length - at_)=d at *
   have w2:IntKind.i64.wrap ((at_:Int)+(d:Int))=((at_+d:Nat):Int):=by rw [wrS (by omega)];omega
   have k1:(at_:Int)≤((at_+d:Nat):Int)∧((at_+d:Nat):Int)≤(l.length:Int):=by omega
   simp -implicitDefEqProofs only [go_sem,w2,k1]
   refine Want.intro (zo9 ((l.drop at_).take (at_+d - at_)) (jE (jU h _) _)) ?_
   have hx:=znj (o.map (ndR l)) (by simp;omega)
   simp -implicitDefEqProofs only [go_sem,w2,hx]
   refine ⟨_,?_,at_+d,o++[(at_,at_+d)],by omega,rfl,?_,?_,?_⟩
   ·omega
   ·rw [List.append_assoc,List.singleton_append,←ho' _ (by omega)]
    exact ho
   ·simp;omega
   ·rw [List.map_append,List.map_cons,List.map_nil,hR]
    simp [wz,MDig.cs,BD.dig,BD.cs]
  ·have hlt':¬(at_:Int)<(l.length:Int):=by omega
   rw [qJ (by omega),List.append_nil] at ho
   rw [←ho]
   simp -implicitDefEqProofs only [go_sem,hlt']
theorem zo7 (l:List ByteArray) (hl:zI l=true) (m:Nat):∀(k lo hi:Nat),lo<hi→hi≤l.length→hi - lo≤k→CallR Tryz.prog 80 [.ro 1 (l.map zw),vI lo,vI hi,vI m] (.blk 0 0 [] 4 0 ((gN m k lo hi).2.map (ndR l)).length) [([],wz ((gN m k lo hi).2.map (ndR l)))]
 | 0,lo,hi,h,h2,hk=>by omega
 | k+1,lo,hi,h,h2,hk=>by
  have h256:=(yK hl).1
  refine zl zqd false Tryz.f80 ?_
  conv=>enter [1];reduce
  refine jvR Tryz.f80 40 [.tmp 8] (by kernel_rfl) (by decide +kernel) rfl ?_
  by_cases c1:hi≤m
  ·have c1':(hi:Int)≤(m:Int):=by omega
   rw [xU c1]
   simp -implicitDefEqProofs only [go_sem,c1',List.map_nil]
  ·have c1':¬(hi:Int)≤(m:Int):=by omega
   by_cases c2:m≤lo
   ·have c2':(lo:Int)≥(m:Int):=by omega
    have k1:(lo:Int)≤(hi:Int)∧(hi:Int)≤(l.length:Int):=by omega
    rw [xN c1 c2]
    simp -implicitDefEqProofs only [go_sem,c1',c2',k1]
    refine Want.intro (zo9 _ (zqx hl lo hi)) ?_
    have hR:ndR l (lo,hi)=(xi (seg l lo hi)).dig:=rfl
    simp -implicitDefEqProofs only [go_sem,hR,MDig.cs,BD.dig]
    try rfl
   ·have c2':¬(lo:Int)≥(m:Int):=by omega
    have hs:=xJ (n:=hi - lo) (by omega)
    have w1:IntKind.i64.wrap ((hi:Int) - (lo:Int))=((hi - lo:Nat):Int):=by rw [wrS (by omega)];omega
    rw [xV c1 c2]
    simp only [List.map_append]
    simp -implicitDefEqProofs only [go_sem,c1',c2',w1]
    refine Want.intro (zhA (hi - lo) (by omega) (by omega)) ?_
    have w2:IntKind.i64.wrap ((lo:Int)+((spl (hi - lo):Nat):Int))=((lo+spl (hi - lo):Nat):Int):=by rw [wrS (by omega)];omega
    have l1:=(qZ (m:=m) k lo (lo+spl (hi - lo)) (by omega) (by omega)).2
    have l2:=(qZ (m:=m) k (lo+spl (hi - lo)) hi (by omega) (by omega)).2
    simp -implicitDefEqProofs only [go_sem,w2]
    refine Want.intro (zo7 l hl m k lo (lo+spl (hi - lo)) (by omega) (by omega) (by omega)) ?_
    simp -implicitDefEqProofs only [go_sem]
    refine Want.intro (zo7 l hl m k (lo+spl (hi - lo)) hi (by omega) (by omega) (by omega)) ?_
    simp -implicitDefEqProofs only [go_sem]
    refine Want.intro (zmA _ _ (by rw [List.length_map];omega) (by rw [List.length_map];omega)) ?_
    simp -implicitDefEqProofs only [go_sem]
def mGr (l:List ByteArray) (m:Nat):List MDig:=if m=0∨m=l.length then [] else ((gN m l.length 0 l.length).1++(gN m l.length 0 l.length).2).map (ndR l)
def zaB (l:List ByteArray) (m:Int):Bool:=zI l&&jq m l.length
def zQ (l:List ByteArray) (m:Int):List MDig:=match zaB l m with
 | true=>mGr l m.toNat
 | false=>[]
theorem zd2 {l:List ByteArray} {m:Nat} (h:m=0∨m=l.length):mGr l m=[]:=by unfold mGr;rw [if_pos h]
theorem zqX {l:List ByteArray} {m:Nat} (h:¬(m=0∨m=l.length)) (h2:m≤l.length):mGr l m=(pks m 0 m).map (ndR (l.take m))++(gN m l.length 0 l.length).2.map (ndR l):=by
 have e:=zdv (m:=m) l.length m 0 l.length (by omega) (by omega) (by omega) (by omega)
 unfold mGr
 rw [if_neg h,List.map_append,e]
 congr 1
 rw [←e]
 refine List.map_congr_left fun x hx=>?_
 have hm:∀(k lo hi:Nat),∀x∈(gN m k lo hi).1,x.2≤m:=by
  intro k
  induction k with
  | zero=>intro lo hi x hx;simp [gN] at hx
  | succ k ih=>
   intro lo hi x hx
   by_cases h1:hi≤m
   ·rw [xU h1] at hx
    simp at hx
    subst hx
    exact h1
   ·by_cases h2:m≤lo
    ·rw [xN h1 h2] at hx;simp at hx
    ·rw [xV h1 h2] at hx
     rcases List.mem_append.1 hx with hx | hx
     ·exact ih _ _ _ hx
     ·exact ih _ _ _ hx
 unfold ndR
 rw [zlG (hm _ _ _ x hx)]
def zmj (l:List ByteArray) (m:Int):AV:=.tup [.blk 0 0 [] 4 0 (zQ l m).length,vB (zaB l m)]
def zif (l:List ByteArray) (m:Int):Sig:=[(0,0,one (wz (zQ l m)))]
attribute [go_sem] zmj zif
theorem zrZ (l:List ByteArray) (m:Int) (hl:l.length≤maxLen):zW Tryz.prog 24 [] [.ro 1 (l.map zw),vI m] (zmj l m) (zif l m):=by
 refine zl zqd false Tryz.f24 ?_
 conv=>enter [1];reduce
 refine jvM Tryz.f24 36 [.tmp 4,.tmp 5] (by kernel_rfl) (by decide +kernel) rfl ?_
 unfold zmj zif zQ zaB
 simp -implicitDefEqProofs only [go_sem]
 refine Want.intro (zkR l hl) ?_
 cases h1:zI l with
 | false=>
  simp -implicitDefEqProofs only [go_sem,Bool.not_false,Bool.false_and,ze,zf,zg,zc,zb,za]
 | true=>
  simp -implicitDefEqProofs only [go_sem,Bool.not_true,Bool.true_and,ze,zf,zg,zc,zb,za]
  refine Want.intro (zpe _ _) ?_
  rw [wP]
  cases h2:jq m l.length with
  | false=>simp -implicitDefEqProofs only [go_sem,Bool.not_false,ze,zf,zg,zc,zb,za]
  | true=>
   obtain ⟨hn,hm⟩:=xK h2
   obtain ⟨M,rfl⟩:∃M:Nat,m=M:=⟨m.toNat,by omega⟩
   have hML:M≤l.length:=by omega
   by_cases h3:M=0
   ·subst h3
    have e:=zd2 (l:=l) (m:=0) (.inl rfl)
    simp -implicitDefEqProofs only [go_sem,Bool.not_true,e,Int.toNat_natCast,ze,zf,zg,zc,zb,za,z0]
    try rfl
   ·have h3':((M:Int)==0)=false:=by rw [beq_eq_false_iff_ne];omega
    by_cases h4:M=l.length
    ·have h4':((M:Int)==(l.length:Int))=true:=by rw [beq_iff_eq];omega
     have e:=zd2 (l:=l) (m:=M) (.inr h4)
     simp -implicitDefEqProofs only [go_sem,Bool.not_true,e,h3',h4',Int.toNat_natCast,ze,zf,zg,zc,zb,za]
     try rfl
    ·have h4':((M:Int)==(l.length:Int))=false:=by rw [beq_eq_false_iff_ne];omega
     have e:=zqX (l:=l) (m:=M) (fun h=>h.elim h3 h4) hML
     have k1:(0:Int)≤(M:Int)∧(M:Int)≤(l.length:Int):=by omega
     have ht:(l.take M).length=M:=by rw [List.length_take];omega
     have hp:=c79_c (l.take M) (jE h1 M)
     rw [ht] at hp
     have l1:=zf6 M 0 M
     have l2:=(qZ (m:=M) l.length 0 l.length (by omega) (by omega)).2
     rw [Int.toNat_natCast,e]
     simp -implicitDefEqProofs only [go_sem,Bool.not_true,h3',h4',k1,Nat.sub_zero,List.drop_zero,ze,zf,zg,zc,zb,za]
     refine Want.intro hp ?_
     simp -implicitDefEqProofs only [go_sem]
     refine Want.intro (zo7 l h1 M l.length 0 l.length (by omega) (by omega) (by omega)) ?_
     simp -implicitDefEqProofs only [go_sem]
     refine Want.intro (zmA _ _ (by rw [List.length_map];omega) (by rw [List.length_map];omega)) ?_
     simp -implicitDefEqProofs only [go_sem]
end Go.Proofs.YtpjpkmhaffmbmaaGreat.E
end
section
namespace Go.Proofs.YtpjpkmhaffmbmaaGreat.E
open Go Go.RowKit
set_option maxHeartbeats 4000000
set_option maxRecDepth 10000
set_option linter.unusedSimpArgs false
set_option linter.unusedVariables false
set_option linter.unusedSectionVars false
def dcX0:Dec:=⟨[(24,.cm [false,false])],[9,10,11],[22,30,37,38,39,40,49,56,76,80,87,141,143,159,237,250,259],false⟩
theorem c97_c (l:List ByteArray) (m:Int) (hl:l.length≤maxLen):zW Tryz.prog 97 [] [.ro 1 (l.map zw),vI m] (.blk 0 0 [] 4 0 (zQ l m).length) (zif l m):=by
 refine zl dcX0 false Tryz.f97 ?_
 conv=>enter [1];reduce
 refine jvM Tryz.f97 14 [.tmp 4] (by kernel_rfl) (by decide +kernel) rfl ?_
 simp -implicitDefEqProofs only [go_sem]
 refine WantM.intro (zrZ l m hl) ?_
 simp -implicitDefEqProofs only [go_sem]
end Go.Proofs.YtpjpkmhaffmbmaaGreat.E
end
section
namespace Go.Proofs.YtpjpkmhaffmbmaaGreat.E
open Go Go.RowKit
set_option maxHeartbeats 4000000
set_option maxRecDepth 10000
set_option linter.unusedSimpArgs false
set_option linter.unusedVariables false
set_option linter.unusedSectionVars false
def dcX1:Dec:=⟨[(39,.cm [true,false]),(72,.cm [false]),(90,.cm [true,false]),(91,.cm [true]),(129,.cm [false])],[9,10,11],[22,30,37,38,39,40,49,56,76,80,87,141,143,159,237,250,259],false⟩
theorem zrT (l:List UInt8) (hl:l.length≤maxLen):zW Tryz.prog 72 [] [.ro 1 (l.map zy)] (.ptr 0 0 [] 1 0 0) [(0,0,one ⟨1,[[.ptr 1 0 [] 1 0 0]],0,false⟩),(1,0,one ⟨1,[[.ptr 2 0 [] 2 0 0]],0,false⟩),(2,0,one ⟨2,[(Dr.mk (l.take 2000) 0).cs],0,false⟩)]:=by
 refine zl dcX1 false Tryz.f72 ?_
 conv=>enter [1];reduce
 refine jvM Tryz.f72 7 [.tmp 2] (by kernel_rfl) (by decide +kernel) rfl ?_
 simp -implicitDefEqProofs only [go_sem]
 refine WantM.intro (zsj l hl) ?_
 simp -implicitDefEqProofs only [go_sem]
theorem c35_c (l:List UInt8) (hl:l.length≤maxLen):zW Tryz.prog 35 [] [.ro 1 (l.map zy)] (.ptr 0 0 [] 1 0 0) [(0,0,one ⟨1,[[.ptr 1 0 [] 1 0 0]],0,false⟩),(1,0,one ⟨1,[[.ptr 2 0 [] 1 0 0]],0,false⟩),(2,0,one ⟨1,[[.ptr 3 0 [] 2 0 0]],0,false⟩),(3,0,one ⟨2,[(Dr.mk (l.take 2000) 0).cs],0,false⟩)]:=by
 refine zl dcX1 false Tryz.f35 ?_
 conv=>enter [1];reduce
 refine jvM Tryz.f35 7 [.tmp 2] (by kernel_rfl) (by decide +kernel) rfl ?_
 simp -implicitDefEqProofs only [go_sem]
 refine WantM.intro (zrT l hl) ?_
 simp -implicitDefEqProofs only [go_sem]
def znL (r:Dr) (res:AV) (σ:Sig):Prop:=∃(l:List ByteArray) (m:Int) (r':Dr),(res=.tup [.blk 0 0 [] 1 0 l.length,vI m]∧σ=r'.r3++[(0,0,one ⟨1,l.map zw,2,false⟩)])∧(l.length≤80∧(0≤m∧m≤(l.length:Int)))∧r'.ok (r.p+1010)
theorem c36_c (r:Dr) (h:r.ok 500000000):∃res σ,znL r res σ∧zW Tryz.prog 36 r.r3 [vL] res σ:=by
 refine zl dcX1 false Tryz.f36 ?_
 conv=>enter [1];reduce
 refine jvX Tryz.f36 28 [.tmp 2,.tmp 3] (znL r) (by kernel_rfl) (by decide +kernel) (by kernel_rfl) rfl ?_
 have hp:=h.2
 have hb:=h.1
 obtain ⟨hz,hc⟩:=zrQ r (h.le (by omega))
 obtain ⟨n,hn⟩:∃n:Nat,szT r=n:=⟨(szT r).toNat,by omega⟩
 rw [hn] at hz hc
 have w1:IntKind.i64.wrap (1+(n:Int))=((n+1:Nat):Int):=by rw [wrS (by omega)];omega
 obtain ⟨res,σ,⟨l,r',⟨rfl,rfl⟩,hl,hr⟩,hls⟩:=zrR (r.adv 2) (n+1) (by omega) ((h.adv 2).le (by omega))
 have w2:IntKind.i64.wrap ((l.length:Int)+1)=((l.length+1:Nat):Int):=by rw [wrS (by omega)];omega
 have hr9:r'.ok 1000000000:=hr.le (by show r.p+2+10 * (n+1)≤_;omega)
 have hpk:=zM (n:=((l.length+1:Nat):Int)) hr9 (by omega)
 simp -implicitDefEqProofs only [go_sem]
 refine WantM.intro hc ?_
 simp -implicitDefEqProofs only [go_sem,w1]
 refine WantM.intro hls ?_
 simp -implicitDefEqProofs only [go_sem,w2]
 refine WantM.intro (yc ((l.length+1:Nat):Int) hr9) ?_
 simp -implicitDefEqProofs only [go_sem]
 refine RetAt.intro (.tup [.blk 0 0 [] 1 0 l.length,vI (pk r' ((l.length+1:Nat):Int))]) (r'.nx.r3++[(0,0,one ⟨1,l.map zw,2,false⟩)]) ⟨l,pk r' ((l.length+1:Nat):Int),r'.nx,⟨rfl,rfl⟩,⟨by omega,by omega⟩,hr.1,by have h2:r'.p≤r.p+2+10 * (n+1):=hr.2;show r'.p+1≤r.p+1010;omega⟩ ?_
 simp -implicitDefEqProofs only [go_sem]
end Go.Proofs.YtpjpkmhaffmbmaaGreat.E
end
section
namespace Go.Proofs.YtpjpkmhaffmbmaaGreat.E
open Go Go.RowKit
set_option maxHeartbeats 4000000
set_option maxRecDepth 10000
set_option linter.unusedSimpArgs false
set_option linter.unusedVariables false
set_option linter.unusedSectionVars false
def dcGP:Dec:=⟨[],[9,10,11],[22,30,37,38,39,40,49,56,76,80,87,141,143,159,237,250,259],false⟩
theorem zf5:∀k n,jf k n≤k
 | 0,n=>Nat.le_refl _
 | k+1,n=>by
  have:=zf5 k (n/2)
  rw [jf]
  omega
theorem zpd (n:Nat) (h:n≤256):CallR Tryz.prog 59 [vI n] (vI (jf 9 n)) []:=by
 refine zl dcGP false Tryz.f59 ?_
 conv=>enter [1];reduce
 refine jvR Tryz.f59 16 [.tmp 2] (by kernel_rfl) (by decide +kernel) rfl ?_
 simp -implicitDefEqProofs only [go_sem]
 refine Want.intro (zaK _ _ _) ?_
 have hin:mIn (n:Int) 0 256=true:=mIn_iff.2 (by omega)
 simp -implicitDefEqProofs only [go_sem,hin,Bool.not_true,za]
 refine zX (fun m s=>∃c k:Nat,m<2 ^ k∧k≤9∧c+jf k m=jf 9 n∧s=⟨16,[(0,vI m),(3,vI c)],[],1⟩) n ?_ ?_
 ·simp -implicitDefEqProofs only [go_sem]
  exact ⟨0,9,by omega,by omega,by omega,rfl⟩
 ·rintro m s ⟨c,k,hm,hk,hc,rfl⟩
  have h9:=zf5 9 n
  rcases Nat.eq_zero_or_pos m with h0 | h0
  ·subst h0
   have h0':¬((0:Nat):Int)>0:=by omega
   rw [jj] at hc
   simp -implicitDefEqProofs only [go_sem,h0']
   rw [←hc]
   rfl
  ·have h0':(m:Int)>0:=by omega
   cases k with
   | zero=>simp at hm;omega
   | succ k=>
    rw [jf] at hc
    rw [Nat.pow_succ] at hm
    have t1:(m:Int).tmod 2=((m%2:Nat):Int):=by rw [Int.tmod_eq_emod_of_nonneg (by omega)];omega
    have t2:(m:Int).tdiv 2=((m/2:Nat):Int):=by rw [Int.tdiv_eq_ediv_of_nonneg (by omega)];omega
    have hb:m/2≤2 ^ 9:=by
     have:2 ^ k≤2 ^ 9:=Nat.pow_le_pow_right (by omega) (by omega)
     omega
    have hb2:m/2≤1000:=by simpa using Nat.le_trans hb (by decide:2 ^ 9≤1000)
    have w1:IntKind.i64.wrap ((m%2:Nat):Int)=((m%2:Nat):Int):=wrS (by omega)
    have w2:IntKind.i64.wrap ((c:Int)+((m%2:Nat):Int))=((c+m%2:Nat):Int):=by rw [wrS (by omega)];omega
    have w3:IntKind.i64.wrap ((m/2:Nat):Int)=((m/2:Nat):Int):=wrS (by omega)
    simp -implicitDefEqProofs only [go_sem,h0',t1,t2,w1,w2,w3]
    exact ⟨m/2,by omega,c+m%2,k,by omega,by omega,by omega,rfl⟩
def qf (m k lo hi at_:Nat):Nat:=((gN m k lo hi).2.filter fun x=>decide (x.1<at_)).length
theorem zdW {m k lo hi at_:Nat} (h:lo<hi) (hk:hi - lo≤k):qf m k lo hi at_≤hi - lo:=Nat.le_trans (List.length_filter_le _ _) (qZ k lo hi h hk).2
theorem zhB (m at_:Nat):∀(k lo hi:Nat),lo<hi→hi≤256→hi - lo≤k→CallR Tryz.prog 123 [vI lo,vI hi,vI m,vI at_] (vI (qf m k lo hi at_)) []
 | 0,lo,hi,h,h2,hk=>by omega
 | k+1,lo,hi,h,h2,hk=>by
  refine zl dcGP false Tryz.f123 ?_
  conv=>enter [1];reduce
  refine jvR Tryz.f123 38 [.tmp 8] (by kernel_rfl) (by decide +kernel) rfl ?_
  by_cases c1:hi≤m
  ·have c1':(hi:Int)≤(m:Int):=by omega
   have e:qf m (k+1) lo hi at_=0:=by unfold qf;rw [xU c1];rfl
   rw [e]
   simp -implicitDefEqProofs only [go_sem,c1',ze,zf,zg,zc,zb,za]
   try rfl
  ·have c1':¬(hi:Int)≤(m:Int):=by omega
   by_cases c0:at_≤lo
   ·have c0':(lo:Int)≥(at_:Int):=by omega
    have e:qf m (k+1) lo hi at_=0:=by
     unfold qf
     rw [List.length_eq_zero_iff,List.filter_eq_nil_iff]
     intro x hx
     have:=zgt (m:=m) (k+1) lo hi h hk x (.inr hx)
     simp
     omega
    rw [e]
    simp -implicitDefEqProofs only [go_sem,c1',c0',ze,zf,zg,zc,zb,za]
    try rfl
   ·have c0':¬(lo:Int)≥(at_:Int):=by omega
    by_cases c2:m≤lo
    ·have c2':(lo:Int)≥(m:Int):=by omega
     have e:qf m (k+1) lo hi at_=1:=by
      unfold qf
      rw [xN c1 c2,List.filter_cons_of_pos (by simp;omega)]
      rfl
     rw [e]
     simp -implicitDefEqProofs only [go_sem,c1',c0',c2',ze,zf,zg,zc,zb,za]
     try rfl
    ·have c2':¬(lo:Int)≥(m:Int):=by omega
     have hs:=xJ (n:=hi - lo) (by omega)
     have e:qf m (k+1) lo hi at_=qf m k lo (lo+spl (hi - lo)) at_+qf m k (lo+spl (hi - lo)) hi at_:=by
      unfold qf
      rw [xV c1 c2,List.filter_append,List.length_append]
     have w1:IntKind.i64.wrap ((hi:Int) - (lo:Int))=((hi - lo:Nat):Int):=by rw [wrS (by omega)];omega
     have w2:IntKind.i64.wrap ((lo:Int)+((spl (hi - lo):Nat):Int))=((lo+spl (hi - lo):Nat):Int):=by rw [wrS (by omega)];omega
     rw [e]
     simp -implicitDefEqProofs only [go_sem,c1',c0',c2',w1,ze,zf,zg,zc,zb,za]
     refine Want.intro (zhA (hi - lo) (by omega) (by omega)) ?_
     have l1:=zdW (m:=m) (k:=k) (lo:=lo) (hi:=lo+spl (hi - lo)) (at_:=at_) (by omega) (by omega)
     have l2:=zdW (m:=m) (k:=k) (lo:=lo+spl (hi - lo)) (hi:=hi) (at_:=at_) (by omega) (by omega)
     have w3:IntKind.i64.wrap (((qf m k lo (lo+spl (hi - lo)) at_:Nat):Int)+((qf m k (lo+spl (hi - lo)) hi at_:Nat):Int))=((qf m k lo (lo+spl (hi - lo)) at_+qf m k (lo+spl (hi - lo)) hi at_:Nat):Int):=by rw [wrS (by omega)];omega
     simp -implicitDefEqProofs only [go_sem,w2]
     refine Want.intro (zhB m at_ k lo (lo+spl (hi - lo)) (by omega) (by omega) (by omega)) ?_
     simp -implicitDefEqProofs only [go_sem]
     refine Want.intro (zhB m at_ k (lo+spl (hi - lo)) hi (by omega) (by omega) (by omega)) ?_
     simp -implicitDefEqProofs only [go_sem,w3]
theorem zjX {m k lo hi:Nat} (h:lo<hi) (hk:hi - lo≤k):qf m k lo hi hi=(gN m k lo hi).2.length:=by
 unfold qf
 rw [List.filter_eq_self.2]
 intro x hx
 have:=zgt (m:=m) k lo hi h hk x (.inr hx)
 simp
 omega
theorem zbi {m n:Nat} (h1:0<m) (h2:m<n) (h3:n≤256):jf 9 m=(gN m n 0 n).1.length:=by
 rw [zdv (m:=m) n m 0 n (by omega) (by omega) (by omega) (by omega),zdS m 0 m 9 (by omega) (by omega)]
 rfl
theorem c57_c (m n:Int):CallR Tryz.prog 57 [vI m,vI n] (vI (xF m n)) []:=by
 refine zl dcGP false Tryz.f57 ?_
 conv=>enter [1];reduce
 refine jvR Tryz.f57 23 [.tmp 4] (by kernel_rfl) (by decide +kernel) rfl ?_
 unfold xF
 simp -implicitDefEqProofs only [go_sem]
 refine Want.intro (zpe _ _) ?_
 rw [wP]
 cases h:jq m n with
 | false=>simp -implicitDefEqProofs only [go_sem,Bool.not_false,zb,za,Bool.false_eq_true]
 | true=>
  obtain ⟨hn,hm⟩:=xK h
  by_cases h0:m=0
  ·subst h0
   simp -implicitDefEqProofs only [go_sem,Bool.not_true,zb,za,ze,zf,zg,zc,true_or]
  ·have h0':(m==0)=false:=by simpa using h0
   by_cases h1:m=n
   ·subst h1
    simp -implicitDefEqProofs only [go_sem,h0',Bool.not_true,zb,za,ze,zf,zg,zc,or_true]
   ·have h1':(m==n)=false:=by simpa using h1
    obtain ⟨M,rfl⟩:∃M:Nat,m=M:=⟨m.toNat,by omega⟩
    obtain ⟨N,rfl⟩:∃N:Nat,n=N:=⟨n.toNat,by omega⟩
    have hno:¬((M:Int)=0∨(M:Int)=(N:Int)):=fun h=>h.elim h0 h1
    have hl:=qZ (m:=M) N 0 N (by omega) (by omega)
    have e1:=zbi (m:=M) (n:=N) (by omega) (by omega) (by omega)
    have e2:=zjX (m:=M) (k:=N) (lo:=0) (hi:=N) (by omega) (by omega)
    have w1:IntKind.i64.wrap (((gN M N 0 N).1.length:Int)+((gN M N 0 N).2.length:Int))=(((gN M N 0 N).1.length+(gN M N 0 N).2.length:Nat):Int):=by rw [wrS (by omega)];omega
    simp -implicitDefEqProofs only [go_sem,h0',h1',hno,Bool.not_true,zb,za,ze,zf,zg,zc]
    refine Want.intro (zpd M (by omega)) ?_
    simp -implicitDefEqProofs only [go_sem]
    refine Want.intro (zhB M N N 0 N (by omega) (by omega) (by omega)) ?_
    rw [e1,e2]
    simp -implicitDefEqProofs only [go_sem,w1]
theorem mGLen_le (m n:Int):xF m n≤16:=by
 unfold xF
 split
 ·rename_i h
  obtain ⟨hn,hm⟩:=xK h
  split
  ·omega
  ·rename_i h2
   have:=zgs (m:=m.toNat) 8 n.toNat 0 n.toNat (by omega) (by omega) (by omega) (by simp;omega)
   omega
 ·omega
end Go.Proofs.YtpjpkmhaffmbmaaGreat.E
end
section
namespace Go.Proofs.YtpjpkmhaffmbmaaGreat.E
open Go Go.RowKit
set_option linter.unusedVariables false
set_option linter.unusedSimpArgs false
def MDig.bd (d:MDig):BD:=⟨BitVec.ofNat 64 d.a,BitVec.ofNat 64 d.b,BitVec.ofNat 64 d.c,BitVec.ofNat 64 d.d⟩
theorem MDig.bd_dig {d:MDig} (h:d.ok):d.bd.dig=d:=by
 obtain ⟨h1,h2,h3,h4⟩:=h
 obtain ⟨a,b,c,e⟩:=d
 simp only at h1 h2 h3 h4
 simp only [MDig.bd,BD.dig,BitVec.toNat_ofNat,MDig.mk.injEq]
 exact ⟨Nat.mod_eq_of_lt h1,Nat.mod_eq_of_lt h2,Nat.mod_eq_of_lt h3,Nat.mod_eq_of_lt h4⟩
theorem bds {l:List MDig} (h:∀d∈l,d.ok):(l.map MDig.bd).map BD.dig=l:=by
 rw [List.map_map]
 conv=>rhs;rw [←List.map_id l]
 exact List.map_congr_left fun d hd=>MDig.bd_dig (h d hd)
def xA:List BD→BD
 | []=>zJ []
 | [x]=>x
 | x::y::l=>zck x (xA (y::l))
def Srt (l:List Nd):Prop:=l.Pairwise fun x y=>x.1<y.1
theorem zfc {m:Nat}:∀(k lo hi:Nat),lo<hi→hi - lo≤k→Srt (gN m k lo hi).1∧Srt (gN m k lo hi).2
 | 0,lo,hi,h,hk=>by omega
 | k+1,lo,hi,h,hk=>by
  by_cases h1:hi≤m
  ·rw [xU h1];exact ⟨List.pairwise_singleton _ _,List.Pairwise.nil⟩
  ·by_cases h2:m≤lo
   ·rw [xN h1 h2];exact ⟨List.Pairwise.nil,List.pairwise_singleton _ _⟩
   ·rw [xV h1 h2]
    have hs:=xJ (n:=hi - lo) (by omega)
    have a:=zfc (m:=m) k lo (lo+spl (hi - lo)) (by omega) (by omega)
    have b:=zfc (m:=m) k (lo+spl (hi - lo)) hi (by omega) (by omega)
    have ia:=zgt (m:=m) k lo (lo+spl (hi - lo)) (by omega) (by omega)
    have ib:=zgt (m:=m) k (lo+spl (hi - lo)) hi (by omega) (by omega)
    refine ⟨List.pairwise_append.2 ⟨a.1,b.1,fun x hx y hy=>?_⟩,List.pairwise_append.2 ⟨a.2,b.2,fun x hx y hy=>?_⟩⟩
    ·have:=ia x (.inl hx)
     have:=ib y (.inl hy)
     omega
    ·have:=ia x (.inr hx)
     have:=ib y (.inr hy)
     omega
theorem zd8 {m:Nat}:∀(k lo hi:Nat),(∀x∈(gN m k lo hi).1,x.2≤m)∧(∀x∈(gN m k lo hi).2,m≤x.1)
 | 0,lo,hi=>by simp [gN]
 | k+1,lo,hi=>by
  by_cases h1:hi≤m
  ·rw [xU h1];simp [h1]
  ·by_cases h2:m≤lo
   ·rw [xN h1 h2];simp [h2]
   ·rw [xV h1 h2]
    have a:=zd8 (m:=m) k lo (lo+spl (hi - lo))
    have b:=zd8 (m:=m) k (lo+spl (hi - lo)) hi
    exact ⟨fun x hx=>(List.mem_append.1 hx).elim (a.1 x) (b.1 x),fun x hx=>(List.mem_append.1 hx).elim (a.2 x) (b.2 x)⟩
def gA (m n:Nat):List Nd:=(gN m n 0 n).1++(gN m n 0 n).2
theorem znh {m n:Nat} (h:1≤n):Srt (gA m n):=by
 have a:=zfc (m:=m) n 0 n (by omega) (by omega)
 have i:=zgt (m:=m) n 0 n (by omega) (by omega)
 have s:=zd8 (m:=m) n 0 n
 refine List.pairwise_append.2 ⟨a.1,a.2,fun x hx y hy=>?_⟩
 have:=i x (.inl hx)
 have:=s.1 x hx
 have:=s.2 y hy
 omega
theorem zeD:∀{l:List Nd} (h:Srt l) {i:Nat} (hi:i<l.length),(l.filter fun x=>decide (x.1<l[i].1)).length=i
 | [],_,_,hi=>by simp at hi
 | x::l,h,0,_=>by
  obtain ⟨h1,h2⟩:=List.pairwise_cons.1 h
  simp only [List.getElem_cons_zero]
  rw [List.filter_cons_of_neg (by simp),List.length_eq_zero_iff,List.filter_eq_nil_iff]
  intro y hy
  have:=h1 y hy
  simp
  omega
 | x::l,h,i+1,hi=>by
  obtain ⟨h1,h2⟩:=List.pairwise_cons.1 h
  have hi':i<l.length:=by simpa using hi
  simp only [List.getElem_cons_succ]
  have:=h1 l[i] (List.getElem_mem hi')
  rw [List.filter_cons_of_pos (by simpa using this),List.length_cons,zeD h2 hi']
theorem zeE {l:List Nd} (h:Srt l):l.Pairwise (·≠·):=h.imp fun {a b} hab e=>by rw [e] at hab;exact Nat.lt_irrefl _ hab
end Go.Proofs.YtpjpkmhaffmbmaaGreat.E
end
