/- Contracts: growths, in the reference; their proofs, in both; Contracts: how many peaks, how long a growth's proof is, in the reference; Digests as four words; how peaks make a root; nodes that are apart; Contracts: a growth's proof, drawn disks -/
import Derived.Test.YtobpfkgabdeefaaGreatQ16
namespace Go.Proofs.YtobpfkgabdeefaaGreat.E
open Go Go.RowKit
set_option linter.unusedSimpArgs false
set_option linter.unusedVariables false
section
set_option maxHeartbeats 4000000
set_option maxRecDepth 10000
set_option linter.unusedSectionVars false
def yq:cc:=⟨[(287,.cm [false,false])],cw,cz,false⟩
theorem MA (m n:Int):ba Tryz.prog 297 [vI m,vI n] (vB (aS m 0 n&&decide (n<=256))) []:=by
 refine aF yq false Tryz.f297 ?_;conv=>enter[1];reduce
 refine bu Tryz.f297 12 [.tmp 4] (by kernel_rfl) (by decide +kernel) rfl ?_;refine au ?_;refine aq.intro (fG _ _ _) ?_;cases h:aS m 0 n<;>simp -implicitDefEqProofs only[go_sem,bb,Bool.false_and,Bool.true_and]
theorem FY (m n:Int):(aS m 0 n&&decide (n<=256))=nz m n:=by
 unfold nz aS;rw[Bool.eq_iff_iff];simp only[Bool.and_eq_true,decide_eq_true_eq];omega
theorem UZ (n:Nat) (h:1<=n) (h2:n<=1000):ba Tryz.prog 309 [vI n] (vI (half n)) []:=by
 refine aF yq false Tryz.f309 ?_;conv=>enter[1];reduce
 refine bu Tryz.f309 11 [.tmp 2] (by kernel_rfl) (by decide +kernel) rfl ?_;refine au ?_;refine dq (fun m s=>∃j:Nat,2 ^ j<=n/\m=n - 2 ^ j/\s=⟨11,[(0,vI n),(3,vI ((2 ^ j:Nat):Int))],[],1⟩) (n - 1) ?_ ?_
 ·refine au ?_;exact⟨0,by simp;omega,rfl,rfl⟩
 rintro m s ⟨j,hj,rfl,rfl⟩;have e:2 ^ (j+1)=2 * 2 ^ j:=by rw[Nat.pow_succ];omega
 have hp:0<2 ^ j:=Nat.pow_pos (by omega);have hS:=fun h2=>S4 (n:=n) (j:=j) hj h2
 generalize hq:2 ^ j=q at *;have w1:IntKind.i64.wrap (2 * (q:Int))=((2 * q:Nat):Int):=by rw[aN (by omega)];omega
 rcases bp n (2 * q) with ab|bM
 ·have ah:¬((2 * q:Nat):Int)<=(n:Int):=by omega
  refine b8 w1 ah ?_;rw[hS (by omega)]
 have ah:((2 * q:Nat):Int)<=(n:Int):=by omega
 refine b8 w1 ah ?_;exact⟨_,by omega,j+1,by omega,rfl,by rw[e]⟩
def nM (l:List aX):Row:=⟨4,l.map aX.cs,2,false⟩
attribute [go_sem] nM
theorem MI (a b:List aX) (ha:a.length<=1000) (hb:b.length<=1000):ba Tryz.prog 277 [.ro 4 (a.map aX.cs),.ro 4 (b.map aX.cs)] (.aw 0 0 [] 4 0 (a++b).length) [([],nM (a++b))]:=by
 refine aF yq false Tryz.f277 ?_;conv=>enter[1];reduce
 refine bu Tryz.f277 36 [.tmp 4] (by kernel_rfl) (by decide +kernel) rfl ?_;refine au ?_;refine dq (fun m s=>∃i:Nat,i<=a.length/\m=a.length - i/\s=⟨36,[(0,.ro 4 (a.map aX.cs)),(1,.ro 4 (b.map aX.cs)),(5,.aw 5 0 [] 4 0 (a.take i).length),(6,vI i)],[(5,0,one (nM (a.take i)))],1⟩) a.length ?_ ?_
 ·refine au ?_;exact⟨0,aR _,rfl,rfl⟩
 rintro m s ⟨i,hi,rfl,rfl⟩;rcases bp i a.length with ab|bM
 ·have ah:(i:Int)<(a.length:Int):=by omega
  have hg:a[i]?=some a[i]:=bm ab;have hw:=dx ab (by unfold maxLen;omega);have hx:∀x,_:=fun x=>ed (E:=aX.cs) (l:=a.take i) (xs:=[x]) (b:=32) (n:=10000) (by simp;omega) (by omega) (by omega)
  refine dP ah hg hw hx ?_;refine⟨_,by omega,i+1,ab,rfl,?_⟩;rw[IN ab];simp only[gj,aX.cs,nM];try rfl
 have hi:i=a.length:=by omega
 subst hi;have ah:¬((a.length:Int)<(a.length:Int)):=by omega
 refine Ex ah ?_;refine dq (fun m s=>∃i:Nat,i<=b.length/\m=b.length - i/\s=⟨36,[(1,.ro 4 (b.map aX.cs)),(5,.aw 5 0 [] 4 0 (a++b.take i).length),(7,vI i)],[(5,0,one (nM (a++b.take i)))],1⟩) b.length ?_ ?_
 ·refine au ?_;exact⟨0,aR _,rfl,by simp[nM]⟩
 rintro m s ⟨i,hi,rfl,rfl⟩;rcases bp i b.length with ab|bM
 ·have ah:(i:Int)<(b.length:Int):=by omega
  have hg:b[i]?=some b[i]:=bm ab;have hw:=dx ab (by unfold maxLen;omega);have hx:∀x,_:=fun x=>ed (E:=aX.cs) (l:=a++b.take i) (xs:=[x]) (b:=32) (n:=10000) (by simp;omega) (by omega) (by omega)
  refine dP ah hg hw hx ?_;refine⟨_,by omega,i+1,ab,rfl,?_⟩;rw[IN ab];simp only[gj,aX.cs,nM,List.append_assoc]
 have hi:i=b.length:=by omega
 subst hi;have ah:¬((b.length:Int)<(b.length:Int)):=by omega
 exact uN ah
def wT (l:List ByteArray) (lo hi:Nat):List ByteArray:=(l.drop lo).take (hi - lo)
def lJ (l:List ByteArray) (x:Nd):aX:=(fp (wT l x.1 x.2)).dg
theorem Ry {l:List ByteArray}(h:eJ l=true) (n:Nat):eJ (l.drop n)=true:=by
 obtain⟨h1,h2⟩:=gB h;simp only[eJ,Bool.and_eq_true,decide_eq_true_eq,ec,List.all_eq_true,List.length_drop];exact⟨by omega,fun b hb=>h2 b (List.mem_of_mem_drop hb)⟩
theorem Po {l:List ByteArray}(h:eJ l=true) (lo hi:Nat):eJ (wT l lo hi)=true:=Kb (Ry h lo) _
theorem Y6 {l:List ByteArray}{n lo hi:Nat}(h:hi<=n):wT (l.take n) lo hi=wT l lo hi:=by
 unfold wT;rw[List.drop_take,List.take_take,Nat.min_eq_left (by omega)]
theorem T6 (l:List aX) (h:l.length<=100000):∀x,(l.map aX.cs++[x]).length<=maxLen/\(l.map aX.cs++[x]).length * 32<=140737488355328:=fun x=>ed (E:=aX.cs) (l:=l) (xs:=[x]) (b:=32) (n:=1000000) (by simp;omega) (by omega) (by omega)
theorem Qp:∀(k lo m:Nat),(gn k lo m).length<=m - lo
 | 0,lo,m=>aR _
 | k+1,lo,m=>by
  rw[gn];split
  ·rename_i h;have:=zV (n:=m - lo) (by omega);have:=Qp k (lo+half (m - lo)) m;simp only[List.length_cons];omega
  simp
theorem af1 (l:List ByteArray) (h:eJ l=true):ba Tryz.prog 298 [.ro 1 (l.map cF)] (.aw 0 0 [] 4 0 ((gn l.length 0 l.length).map (lJ l)).length) [([],nM ((gn l.length 0 l.length).map (lJ l)))]:=by
 refine aF yq false Tryz.f298 ?_;conv=>enter[1];reduce
 refine bu Tryz.f298 34 [.tmp 2] (by kernel_rfl) (by decide +kernel) rfl ?_;have CV:=(gB h).1;refine au ?_;refine aq.intro (tp l (by unfold maxLen;omega)) ?_;refine Ik h ?_;refine dq (fun k s=>∃(at_:Nat) (o:List Nd),at_<=l.length/\k=l.length - at_/\o++gn k at_ l.length=gn l.length 0 l.length/\o.length<=at_/\s=⟨34,[(0,.ro 1 (l.map cF)),(3,.aw 3 0 [] 4 0 (o.map (lJ l)).length),(4,vI at_)],[(3,0,one (nM (o.map (lJ l))))],1⟩) l.length ?_ ?_
 ·refine au ?_;exact⟨0,[],aR _,rfl,rfl,Nat.le_refl _,rfl⟩
 rintro k s ⟨at_,o,ha,rfl,ho,hol,rfl⟩;rcases bp at_ l.length with ab|bM
 ·have ah:(at_:Int)<(l.length:Int):=by omega
  have hb:=zV (n:=l.length - at_) (by omega);have w1:IntKind.i64.wrap ((l.length:Int) - (at_:Int))=((l.length - at_:Nat):Int):=by rw[aN (by omega)];omega
  obtain⟨k',bV⟩:∃k',l.length - at_=k'+1:=⟨l.length - at_ - 1,by omega⟩;have hp:gn (l.length - at_) at_ l.length=(at_,at_+half (l.length - at_))::gn k' (at_+half (l.length - at_)) l.length:=by
   rw[bV,gn,if_pos ab,<-bV]
  rw[hp]at ho;refine b8 ah w1 ?_;refine aq.intro (UZ (l.length - at_) (by omega) (by omega)) ?_;have hR:lJ l (at_,at_+half (l.length - at_))=(fp ((l.drop at_).take (at_+half (l.length - at_) - at_))).dg:=rfl;have adn:∀(a b lo m:Nat),m - lo<=a->m - lo<=b->gn a lo m=gn b lo m:=by
   intro a;induction a with
   | zero=>intro b lo m h1 h2;rw[u3 (k:=b) (by omega)];rfl
   | succ a ih=>
    intro b lo m h1 h2;cases b with
    | zero=>rw[u3 (k:=a+1) (by omega)];rfl
    | succ b=>
     rw[gn,gn];split
     ·have:=zV (n:=m - lo) (by omega);rw[ih b (lo+half (m - lo)) m (by omega) (by omega)]
     rfl
  have mT:=fun j hj=>adn k' j (at_+half (l.length - at_)) l.length (by omega) hj
  have GJ:half (l.length - at_)<=l.length - at_:=hb.2.1;have hd1:=hb.1;clear hb bV hp;generalize half (l.length - at_)=d at *;have w2:IntKind.i64.wrap ((at_:Int)+(d:Int))=((at_+d:Nat):Int):=by rw[aN (by omega)];omega
  have k1:(at_:Int)<=((at_+d:Nat):Int)/\((at_+d:Nat):Int)<=(l.length:Int):=by omega
  refine b8 w2 k1 ?_;refine aq.intro (An ((l.drop at_).take (at_+d - at_)) (Kb (Ry h _) _)) ?_;have hx:=T6 (o.map (lJ l)) (by simp;omega);refine b8 w2 hx ?_;refine⟨_,?_,at_+d,o++[(at_,at_+d)],by omega,rfl,?_,?_,?_⟩
  ·omega
  ·rw[List.append_assoc,List.singleton_append,<-mT _ (by omega)];exact ho
  ·simp;omega
  rw[List.map_append,List.map_cons,List.map_nil,hR];simp[nM,aX.cs,BD.dg,BD.cs]
 have ah:¬(at_:Int)<(l.length:Int):=by omega
 rw[u3 (by omega),List.append_nil]at ho;rw[<-ho];exact eE ah
theorem Mz (l:List ByteArray) (hl:eJ l=true) (m:Nat):∀(k lo hi:Nat),lo<hi->hi<=l.length->hi - lo<=k->ba Tryz.prog 299 [.ro 1 (l.map cF),vI lo,vI hi,vI m] (.aw 0 0 [] 4 0 ((gN m k lo hi).2.map (lJ l)).length) [([],nM ((gN m k lo hi).2.map (lJ l)))]
 | 0,lo,hi,h,h2,hk=>by omega
 | k+1,lo,hi,h,h2,hk=>by
  have CV:=(gB hl).1;refine aF yq false Tryz.f299 ?_;conv=>enter[1];reduce
  refine bu Tryz.f299 40 [.tmp 8] (by kernel_rfl) (by decide +kernel) rfl ?_;by_cases c1:hi<=m
  ·have d6:(hi:Int)<=(m:Int):=by omega
   rw[qH c1];simp -implicitDefEqProofs only[go_sem,d6,List.map_nil]
  have d6:¬(hi:Int)<=(m:Int):=by omega
  by_cases c2:m<=lo
  ·have iK:(lo:Int)>=(m:Int):=by omega
   have k1:(lo:Int)<=(hi:Int)/\(hi:Int)<=(l.length:Int):=by omega
   rw[pW c1 c2];refine eV d6 iK k1 ?_;refine aq.intro (An _ (Po hl lo hi)) ?_;have hR:lJ l (lo,hi)=(fp (wT l lo hi)).dg:=rfl;simp -implicitDefEqProofs only[go_sem,hR,aX.cs,BD.dg];try rfl
  have iK:¬(lo:Int)>=(m:Int):=by omega
  have hs:=oH (n:=hi - lo) (by omega);have w1:IntKind.i64.wrap ((hi:Int) - (lo:Int))=((hi - lo:Nat):Int):=by rw[aN (by omega)];omega
  rw[qI c1 c2];simp only[List.map_append];refine eV d6 iK w1 ?_;refine aq.intro (HL (hi - lo) (by omega) (by omega)) ?_;have w2:IntKind.i64.wrap ((lo:Int)+((cH (hi - lo):Nat):Int))=((lo+cH (hi - lo):Nat):Int):=by rw[aN (by omega)];omega
  have l1:=(o7 (m:=m) k lo (lo+cH (hi - lo)) (by omega) (by omega)).2;have l2:=(o7 (m:=m) k (lo+cH (hi - lo)) hi (by omega) (by omega)).2;refine aA w2 ?_;refine cT (Mz l hl m k lo (lo+cH (hi - lo)) (by omega) (by omega) (by omega)) ?_;refine cT (Mz l hl m k (lo+cH (hi - lo)) hi (by omega) (by omega) (by omega)) ?_;refine aq.intro (MI _ _ (by rw[List.length_map];omega) (by rw[List.length_map];omega)) ?_;exact dy
def ri (l:List ByteArray) (m:Nat):List aX:=if m=0\/m=l.length then [] else((gN m l.length 0 l.length).1++(gN m l.length 0 l.length).2).map (lJ l)
def vh (l:List ByteArray) (m:Int):Bool:=eJ l&&nz m l.length
def lM (l:List ByteArray) (m:Int):List aX:=match vh l m with
 | true=>ri l m.toNat
 | false=>[]
theorem FZ {l:List ByteArray}{m:Nat}(h:m=0\/m=l.length):ri l m=[]:=by unfold ri;rw[if_pos h]
theorem abQ {l:List ByteArray}{m:Nat}(h:¬(m=0\/m=l.length)) (h2:m<=l.length):ri l m=(gn m 0 m).map (lJ (l.take m))++(gN m l.length 0 l.length).2.map (lJ l):=by
 have e:=C1 (m:=m) l.length m 0 l.length (by omega) (by omega) (by omega) (by omega);unfold ri;rw[if_neg h,List.map_append,e];congr 1;rw[<-e];refine List.map_congr_left fun x hx=>?_
 have hm:∀(k lo hi:Nat),∀x∈(gN m k lo hi).1,x.2<=m:=by
  intro k;induction k with
  | zero=>intro lo hi x hx;simp[gN]at hx
  | succ k ih=>
   intro lo hi x hx;by_cases h1:hi<=m
   ·rw[qH h1]at hx;simp at hx;subst hx;exact h1
   by_cases h2:m<=lo
   ·rw[pW h1 h2]at hx;simp at hx
   rw[qI h1 h2]at hx;rcases List.mem_append.1 hx with hx|hx
   ·exact ih _ _ _ hx
   exact ih _ _ _ hx
 unfold lJ;rw[Y6 (hm _ _ _ x hx)]
def yi (l:List ByteArray) (m:Int):AV:=.aZ [.aw 0 0 [] 4 0 (lM l m).length,vB (vh l m)]
def ur (l:List ByteArray) (m:Int):ak:=[(0,0,one (nM (lM l m)))]
attribute [go_sem] yi ur
theorem Va (l:List ByteArray) (m:Int) (hl:l.length<=maxLen):aY Tryz.prog 271 [] [.ro 1 (l.map cF),vI m] (yi l m) (ur l m):=by
 refine aF yq false Tryz.f271 ?_;conv=>enter[1];reduce
 refine bI Tryz.f271 36 [.tmp 4,.tmp 5] (by kernel_rfl) (by decide +kernel) rfl ?_;unfold yi ur lM vh;refine au ?_;refine aq.intro (tp l hl) ?_;cases h1:eJ l with
 | false=>
  simp -implicitDefEqProofs only[go_sem,Bool.not_false,Bool.false_and,bb]
 | true=>
  refine Es ?_;refine aq.intro (MA _ _) ?_;rw[FY];cases h2:nz m l.length with
  | false=>simp -implicitDefEqProofs only[go_sem,Bool.not_false,bb]
  | true=>
   obtain⟨hn,hm⟩:=vg h2;obtain⟨M,rfl⟩:∃M:Nat,m=M:=⟨m.toNat,by omega⟩;have Ta:M<=l.length:=by omega
   by_cases h3:M=0
   ·subst h3;have e:=FZ (l:=l) (m:=0) (.inl rfl);simp -implicitDefEqProofs only[go_sem,Bool.not_true,e,Int.toNat_natCast,bb,z0];try rfl
   have nJ:((M:Int)==0)=false:=by rw[beq_eq_false_iff_ne];omega
   by_cases h4:M=l.length
   ·have yh:((M:Int)==(l.length:Int))=true:=by rw[beq_iff_eq];omega
    have e:=FZ (l:=l) (m:=M) (.inr h4);simp -implicitDefEqProofs only[go_sem,Bool.not_true,e,nJ,yh,Int.toNat_natCast,bb];try rfl
   have yh:((M:Int)==(l.length:Int))=false:=by rw[beq_eq_false_iff_ne];omega
   have e:=abQ (l:=l) (m:=M) (fun h=>h.elim h3 h4) Ta;have k1:(0:Int)<=(M:Int)/\(M:Int)<=(l.length:Int):=by omega
   have ht:(l.take M).length=M:=by rw[List.length_take];omega
   have hp:=af1 (l.take M) (Kb h1 M);rw[ht]at hp;have l1:=Qp M 0 M;have l2:=(o7 (m:=M) l.length 0 l.length (by omega) (by omega)).2;rw[Int.toNat_natCast,e];simp -implicitDefEqProofs only[go_sem,Bool.not_true,nJ,yh,k1,Nat.sub_zero,List.drop_zero,bb];refine cT hp ?_;refine cT (Mz l h1 M l.length 0 l.length (by omega) (by omega) (by omega)) ?_;refine aq.intro (MI _ _ (by rw[List.length_map];omega) (by rw[List.length_map];omega)) ?_;exact dy
theorem agi (l:List ByteArray) (m:Int) (hl:l.length<=maxLen):aY Tryz.prog 256 [] [.ro 1 (l.map cF),vI m] (yi l m) (ur l m):=by
 refine aF yq false Tryz.f256 ?_;conv=>enter[1];reduce
 refine bI Tryz.f256 57 [.tmp 4,.tmp 5] (by kernel_rfl) (by decide +kernel) rfl ?_;unfold yi ur lM vh;refine au ?_;refine aq.intro (Aq l hl) ?_;cases h1:eJ l with
 | false=>
  simp -implicitDefEqProofs only[go_sem,Bool.not_false,Bool.false_and,bb]
 | true=>
  refine Es ?_;refine aq.intro (MG _ _) ?_;cases h2:nz m l.length with
  | false=>simp -implicitDefEqProofs only[go_sem,Bool.not_false,bb]
  | true=>
   obtain⟨hn,hm⟩:=vg h2;obtain⟨M,rfl⟩:∃M:Nat,m=M:=⟨m.toNat,by omega⟩;have Ta:M<=l.length:=by omega
   by_cases h3:M=0
   ·subst h3;have e:=FZ (l:=l) (m:=0) (.inl rfl);simp -implicitDefEqProofs only[go_sem,Bool.not_true,e,Int.toNat_natCast,bb,z0];try rfl
   have nJ:((M:Int)==0)=false:=by rw[beq_eq_false_iff_ne];omega
   by_cases h4:M=l.length
   ·have yh:((M:Int)==(l.length:Int))=true:=by rw[beq_iff_eq];omega
    have e:=FZ (l:=l) (m:=M) (.inr h4);simp -implicitDefEqProofs only[go_sem,Bool.not_true,e,nJ,yh,Int.toNat_natCast,bb];try rfl
   have yh:((M:Int)==(l.length:Int))=false:=by rw[beq_eq_false_iff_ne];omega
   have e:ri l M=((gN M l.length 0 l.length).1++(gN M l.length 0 l.length).2).map (lJ l):=by unfold ri;rw[if_neg (fun h=>h.elim h3 h4)]
   have mo:=o7 (m:=M) l.length 0 l.length (by omega) (by omega);have cq:=vK (m:=M) l.length 0 l.length (by omega) (by omega);rw[Int.toNat_natCast,e];simp -implicitDefEqProofs only[go_sem,Bool.not_true,nJ,yh,bb];refine aE.intro (ME M l.length (by omega) (by omega)) ?_;have gv:((gN M l.length 0 l.length).1++(gN M l.length 0 l.length).2).length<=maxLen/\((gN M l.length 0 l.length).1++(gN M l.length 0 l.length).2).length * 16<=140737488355328:=by
    simp only[List.length_append,maxLen];omega
   have GD:∀x∈(gN M l.length 0 l.length).1++(gN M l.length 0 l.length).2,x.1<=x.2/\x.2<=l.length:=fun x hx=>by
    have:=cq x (List.mem_append.1 hx);omega
   simp -implicitDefEqProofs only[go_sem,gv,<-List.map_append];generalize hX:(gN M l.length 0 l.length).1++(gN M l.length 0 l.length).2=X at *;have GU:X.length<=600:=by rw[<-hX,List.length_append];omega
   refine mj [(8,4)] (fun m s=>∃i:Nat,i<=X.length/\m=X.length - i/\s=⟨57,[(0,.ro 1 (l.map cF)),(8,.aw 8 0 [] 4 0 ((X.take i).map (lJ l)).length),(38,.aw 38 0 [] 2 0 X.length),(39,vI X.length),(40,vI i)],[(8,0,one (nM ((X.take i).map (lJ l)))),(38,0,one (xo X))],1⟩) X.length ?_ ?_
   ·refine au ?_;exact⟨0,aR _,rfl,rfl⟩
   rintro m s ⟨i,hi,rfl,rfl⟩;rcases bp i X.length with ab|bM
   ·have ah:(i:Int)<(X.length:Int):=by omega
    have hg:X[i]?=some X[i]:=bm ab;have hw:=dx ab (by unfold maxLen;omega);have hxi:=GD X[i] (List.getElem_mem ab);have k1:(X[i].1:Int)<=(X[i].2:Int)/\(X[i].2:Int)<=(l.length:Int):=by omega
    have hx:=T6 ((X.take i).map (lJ l)) (by simp;omega);have hR:lJ l X[i]=(fp (wT l X[i].1 X[i].2)).dg:=rfl;simp -implicitDefEqProofs only[go_sem,ah,hg,nC,k1];refine aq.intro (HE _ (Po h1 X[i].1 X[i].2)) ?_;refine b8 hw hx ?_;refine⟨_,by omega,i+1,ab,rfl,?_⟩;rw[IN ab,List.map_append,List.map_cons,List.map_nil,hR];simp only[nM,List.map_append,List.length_append,List.map_cons,List.map_nil,List.length_cons,List.length_nil,List.length_map,aX.cs,BD.dg];try rfl
   have hi:i=X.length:=by omega
   subst hi;have ah:¬((X.length:Int)<(X.length:Int)):=by omega
   refine Ex ah ?_;refine aq.intro (DE (X.map (lJ l)) (by rw[List.length_map];omega)) ?_;exact dy
end
section
set_option maxHeartbeats 4000000
set_option maxRecDepth 10000
set_option linter.unusedSectionVars false
def Mj:cc:=⟨[],cw,cz,false⟩
theorem Js:∀k n,gm k n<=k
 | 0,n=>Nat.le_refl _
 | k+1,n=>by
  have:=Js k (n/2);rw[gm];omega
theorem My (n:Nat) (h:n<=256):ba Tryz.prog 302 [vI n] (vI (gm 9 n)) []:=by
 refine aF Mj false Tryz.f302 ?_;conv=>enter[1];reduce
 refine bu Tryz.f302 16 [.tmp 2] (by kernel_rfl) (by decide +kernel) rfl ?_;refine au ?_;refine aq.intro (fG _ _ _) ?_;have cq:aS (n:Int) 0 256=true:=cr.2 (by omega);refine Ik cq ?_;refine dq (fun m s=>∃c k:Nat,m<2 ^ k/\k<=9/\c+gm k m=gm 9 n/\s=⟨16,[(0,vI m),(3,vI c)],[],1⟩) n ?_ ?_
 ·refine au ?_;exact⟨0,9,by omega,by omega,by omega,rfl⟩
 rintro m s ⟨c,k,hm,hk,hc,rfl⟩;have h9:=Js 9 n;rcases Nat.eq_zero_or_pos m with h0|h0
 ·subst h0;have pV:¬((0:Nat):Int)>0:=by omega
  rw[Bx]at hc;refine aA pV ?_;rw[<-hc];rfl
 have pV:(m:Int)>0:=by omega
 cases k with
 | zero=>simp at hm;omega
 | succ k=>
  rw[gm]at hc;rw[Nat.pow_succ]at hm;have t1:(m:Int).tmod 2=((m%2:Nat):Int):=by rw[Int.tmod_eq_emod_of_nonneg (by omega)];omega
  have t2:(m:Int).tdiv 2=((m/2:Nat):Int):=by rw[Int.tdiv_eq_ediv_of_nonneg (by omega)];omega
  have hb:m/2<=2 ^ 9:=by
   have:2 ^ k<=2 ^ 9:=Nat.pow_le_pow_right (by omega) (by omega);omega
  have ku:m/2<=1000:=by simpa using Nat.le_trans hb (by decide:2 ^ 9<=1000)
  have w1:IntKind.i64.wrap ((m%2:Nat):Int)=((m%2:Nat):Int):=aN (by omega);have w2:IntKind.i64.wrap ((c:Int)+((m%2:Nat):Int))=((c+m%2:Nat):Int):=by rw[aN (by omega)];omega
  have w3:IntKind.i64.wrap ((m/2:Nat):Int)=((m/2:Nat):Int):=aN (by omega);refine nS pV t1 t2 w1 w2 w3 ?_;exact⟨m/2,by omega,c+m%2,k,by omega,by omega,by omega,rfl⟩
def kC (m k lo hi at_:Nat):Nat:=((gN m k lo hi).2.filter fun x=>decide (x.1<at_)).length
theorem JS {m k lo hi at_:Nat}(h:lo<hi) (hk:hi - lo<=k):kC m k lo hi at_<=hi - lo:=Nat.le_trans (List.length_filter_le _ _) (o7 k lo hi h hk).2
theorem HA (m at_:Nat):∀(k lo hi:Nat),lo<hi->hi<=256->hi - lo<=k->ba Tryz.prog 310 [vI lo,vI hi,vI m,vI at_] (vI (kC m k lo hi at_)) []
 | 0,lo,hi,h,h2,hk=>by omega
 | k+1,lo,hi,h,h2,hk=>by
  refine aF Mj false Tryz.f310 ?_;conv=>enter[1];reduce
  refine bu Tryz.f310 38 [.tmp 8] (by kernel_rfl) (by decide +kernel) rfl ?_;by_cases c1:hi<=m
  ·have d6:(hi:Int)<=(m:Int):=by omega
   have e:kC m (k+1) lo hi at_=0:=by unfold kC;rw[qH c1];rfl
   rw[e];simp -implicitDefEqProofs only[go_sem,d6,bb];try rfl
  have d6:¬(hi:Int)<=(m:Int):=by omega
  by_cases c0:at_<=lo
  ·have HP:(lo:Int)>=(at_:Int):=by omega
   have e:kC m (k+1) lo hi at_=0:=by
    unfold kC;rw[List.length_eq_zero_iff,List.filter_eq_nil_iff];intro x hx;have:=vK (m:=m) (k+1) lo hi h hk x (.inr hx);simp;omega
   rw[e];simp -implicitDefEqProofs only[go_sem,d6,HP,bb];try rfl
  have HP:¬(lo:Int)>=(at_:Int):=by omega
  by_cases c2:m<=lo
  ·have iK:(lo:Int)>=(m:Int):=by omega
   have e:kC m (k+1) lo hi at_=1:=by
    unfold kC;rw[pW c1 c2,List.filter_cons_of_pos (by simp;omega)];rfl
   rw[e];simp -implicitDefEqProofs only[go_sem,d6,HP,iK,bb];try rfl
  have iK:¬(lo:Int)>=(m:Int):=by omega
  have hs:=oH (n:=hi - lo) (by omega);have e:kC m (k+1) lo hi at_=kC m k lo (lo+cH (hi - lo)) at_+kC m k (lo+cH (hi - lo)) hi at_:=by
   unfold kC;rw[qI c1 c2,List.filter_append,List.length_append]
  have w1:IntKind.i64.wrap ((hi:Int) - (lo:Int))=((hi - lo:Nat):Int):=by rw[aN (by omega)];omega
  have w2:IntKind.i64.wrap ((lo:Int)+((cH (hi - lo):Nat):Int))=((lo+cH (hi - lo):Nat):Int):=by rw[aN (by omega)];omega
  rw[e];simp -implicitDefEqProofs only[go_sem,d6,HP,iK,w1,bb];refine aq.intro (HL (hi - lo) (by omega) (by omega)) ?_;have l1:=JS (m:=m) (k:=k) (lo:=lo) (hi:=lo+cH (hi - lo)) (at_:=at_) (by omega) (by omega);have l2:=JS (m:=m) (k:=k) (lo:=lo+cH (hi - lo)) (hi:=hi) (at_:=at_) (by omega) (by omega);have w3:IntKind.i64.wrap (((kC m k lo (lo+cH (hi - lo)) at_:Nat):Int)+((kC m k (lo+cH (hi - lo)) hi at_:Nat):Int))=((kC m k lo (lo+cH (hi - lo)) at_+kC m k (lo+cH (hi - lo)) hi at_:Nat):Int):=by rw[aN (by omega)];omega
  refine aA w2 ?_;refine cT (HA m at_ k lo (lo+cH (hi - lo)) (by omega) (by omega) (by omega)) ?_;refine aq.intro (HA m at_ k (lo+cH (hi - lo)) hi (by omega) (by omega) (by omega)) ?_;exact eE w3
theorem abf {m k lo hi:Nat}(h:lo<hi) (hk:hi - lo<=k):kC m k lo hi hi=(gN m k lo hi).2.length:=by
 unfold kC;rw[List.filter_eq_self.2];intro x hx;have:=vK (m:=m) k lo hi h hk x (.inr hx);simp;omega
theorem Fl {m n:Nat}(h1:0<m) (h2:m<n) (h3:n<=256):gm 9 m=(gN m n 0 n).1.length:=by
 rw[C1 (m:=m) n m 0 n (by omega) (by omega) (by omega) (by omega),Qo m 0 m 9 (by omega) (by omega)];rfl
theorem af0 (m n:Int):ba Tryz.prog 300 [vI m,vI n] (vI (lN m n)) []:=by
 refine aF Mj false Tryz.f300 ?_;conv=>enter[1];reduce
 refine bu Tryz.f300 23 [.tmp 4] (by kernel_rfl) (by decide +kernel) rfl ?_;unfold lN;refine au ?_;refine aq.intro (MA _ _) ?_;rw[FY];cases h:nz m n with
 | false=>simp -implicitDefEqProofs only[go_sem,Bool.not_false,aT,aV,Bool.false_eq_true]
 | true=>
  obtain⟨hn,hm⟩:=vg h;by_cases h0:m=0
  ·subst h0;exact N0
  have pV:(m==0)=false:=by simpa using h0
  by_cases h1:m=n
  ·subst h1;exact NZ pV
  have o6:(m==n)=false:=by simpa using h1
  obtain⟨M,rfl⟩:∃M:Nat,m=M:=⟨m.toNat,by omega⟩;obtain⟨N,rfl⟩:∃N:Nat,n=N:=⟨n.toNat,by omega⟩;have eU:¬((M:Int)=0\/(M:Int)=(N:Int)):=fun h=>h.elim h0 h1
  have hl:=o7 (m:=M) N 0 N (by omega) (by omega);have e1:=Fl (m:=M) (n:=N) (by omega) (by omega) (by omega);have e2:=abf (m:=M) (k:=N) (lo:=0) (hi:=N) (by omega) (by omega);have w1:IntKind.i64.wrap (((gN M N 0 N).1.length:Int)+((gN M N 0 N).2.length:Int))=(((gN M N 0 N).1.length+(gN M N 0 N).2.length:Nat):Int):=by rw[aN (by omega)];omega
  simp -implicitDefEqProofs only[go_sem,pV,o6,eU,Bool.not_true,aT,aV,eD,bW,fg,eC];refine cT (My M (by omega)) ?_;refine aq.intro (HA M N N 0 N (by omega) (by omega) (by omega)) ?_;rw[e1,e2];exact eE w1
end
def aX.bd (d:aX):BD:=⟨BitVec.ofNat 64 d.a,BitVec.ofNat 64 d.b,BitVec.ofNat 64 d.c,BitVec.ofNat 64 d.d⟩
theorem aX.ahN {d:aX}(h:d.ok):d.bd.dg=d:=by
 obtain⟨h1,h2,h3,h4⟩:=h;obtain⟨a,b,c,e⟩:=d;simp only at h1 h2 h3 h4;simp only[aX.bd,BD.dg,BitVec.toNat_ofNat,aX.mk.injEq];exact⟨Nat.mod_eq_of_lt h1,Nat.mod_eq_of_lt h2,Nat.mod_eq_of_lt h3,Nat.mod_eq_of_lt h4⟩
def nV:List BD->BD
 | []=>gu []
 | [x]=>x
 | x::y::l=>rI x (nV (y::l))
def AK (l:List Nd):Prop:=l.Pairwise fun x y=>x.1<y.1
theorem CZ {m:Nat}:∀(k lo hi:Nat),lo<hi->hi - lo<=k->AK (gN m k lo hi).1/\AK (gN m k lo hi).2
 | 0,lo,hi,h,hk=>by omega
 | k+1,lo,hi,h,hk=>by
  by_cases h1:hi<=m
  ·rw[qH h1];exact⟨List.pairwise_singleton _ _,List.Pairwise.nil⟩
  by_cases h2:m<=lo
  ·rw[pW h1 h2];exact⟨List.Pairwise.nil,List.pairwise_singleton _ _⟩
  rw[qI h1 h2];have hs:=oH (n:=hi - lo) (by omega);have a:=CZ (m:=m) k lo (lo+cH (hi - lo)) (by omega) (by omega);have b:=CZ (m:=m) k (lo+cH (hi - lo)) hi (by omega) (by omega);have ia:=vK (m:=m) k lo (lo+cH (hi - lo)) (by omega) (by omega);have ib:=vK (m:=m) k (lo+cH (hi - lo)) hi (by omega) (by omega);refine⟨List.pairwise_append.2 ⟨a.1,b.1,fun x hx y hy=>?_⟩,List.pairwise_append.2 ⟨a.2,b.2,fun x hx y hy=>?_⟩⟩
  ·have:=ia x (.inl hx);have:=ib y (.inl hy);omega
  have:=ia x (.inr hx);have:=ib y (.inr hy);omega
theorem G1 {m:Nat}:∀(k lo hi:Nat),(∀x∈(gN m k lo hi).1,x.2<=m)/\(∀x∈(gN m k lo hi).2,m<=x.1)
 | 0,lo,hi=>by simp[gN]
 | k+1,lo,hi=>by
  by_cases h1:hi<=m
  ·rw[qH h1];simp[h1]
  by_cases h2:m<=lo
  ·rw[pW h1 h2];simp[h2]
  rw[qI h1 h2];have a:=G1 (m:=m) k lo (lo+cH (hi - lo));have b:=G1 (m:=m) k (lo+cH (hi - lo)) hi;exact⟨fun x hx=>(List.mem_append.1 hx).elim (a.1 x) (b.1 x),fun x hx=>(List.mem_append.1 hx).elim (a.2 x) (b.2 x)⟩
def gA (m n:Nat):List Nd:=(gN m n 0 n).1++(gN m n 0 n).2
theorem Tn {m n:Nat}(h:1<=n):AK (gA m n):=by
 have a:=CZ (m:=m) n 0 n (by omega) (by omega);have i:=vK (m:=m) n 0 n (by omega) (by omega);have s:=G1 (m:=m) n 0 n;refine List.pairwise_append.2 ⟨a.1,a.2,fun x hx y hy=>?_⟩;have:=i x (.inl hx);have:=s.1 x hx;have:=s.2 y hy;omega
theorem OX:∀{l:List Nd}(h:AK l) {i:Nat}(hi:i<l.length),(l.filter fun x=>decide (x.1<l[i].1)).length=i
 | [],_,_,hi=>by simp at hi
 | x::l,h,0,_=>by
  obtain⟨h1,h2⟩:=List.pairwise_cons.1 h;simp only[List.getElem_cons_zero];rw[List.filter_cons_of_neg (by simp),List.length_eq_zero_iff,List.filter_eq_nil_iff];intro y hy;have:=h1 y hy;simp;omega
 | x::l,h,i+1,hi=>by
  obtain⟨h1,h2⟩:=List.pairwise_cons.1 h;have fS:i<l.length:=by simpa using hi
  simp only[List.getElem_cons_succ];have:=h1 l[i] (List.getElem_mem fS);rw[List.filter_cons_of_pos (by simpa using this),List.length_cons,OX h2 fS]
theorem OY {l:List Nd}(h:AK l):l.Pairwise (·≠·):=h.imp fun {a b} zW e=>by rw[e]at zW;exact Nat.lt_irrefl _ zW
section
set_option maxHeartbeats 4000000
set_option maxRecDepth 10000
set_option linter.unusedSectionVars false
def aeH:cc:=⟨[(271,.cm [false,false])],cw,cz,false⟩
theorem agj (l:List ByteArray) (m:Int) (hl:l.length<=maxLen):aY Tryz.prog 253 [] [.ro 1 (l.map cF),vI m] (.aw 0 0 [] 4 0 (lM l m).length) (ur l m):=by
 refine aF aeH false Tryz.f253 ?_;conv=>enter[1];reduce
 refine bI Tryz.f253 14 [.tmp 4] (by kernel_rfl) (by decide +kernel) rfl ?_;refine au ?_;refine aE.intro (Va l m hl) ?_;exact dy
end
end Go.Proofs.YtobpfkgabdeefaaGreat.E
