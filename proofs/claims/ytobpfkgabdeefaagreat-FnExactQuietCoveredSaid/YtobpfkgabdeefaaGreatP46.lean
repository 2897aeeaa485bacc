/- Contracts: lists in laws (printed by gent.py); Contracts: setups and steps as arguments of laws; FnExactWorldHeld, FnExactWorldPins: the laws; FnExactQuietPins, FnExactQuietCovered: the laws -/
import Derived.Test.YtobpfkgabdeefaaGreatP20
import Derived.Test.YtobpfkgabdeefaaGreatP38
import Derived.Test.YtobpfkgabdeefaaGreatP45
namespace Go.Proofs.YtobpfkgabdeefaaGreat.E
open Go Go.RowKit
set_option maxHeartbeats 4000000
set_option maxRecDepth 10000
set_option linter.unusedSimpArgs false
set_option linter.unusedVariables false
set_option linter.unusedSectionVars false
def yw:bX:=⟨[],[9,10,11],[24,26,30,44,47,50,51,52,57,58,59,62,76,88,138,185,186,187,253,254,297,311],false⟩
theorem Nm (b:ByteArray):(b.toList != b.toList)=false:=by simp
theorem UY (a:bh):aR Tryz.prog 29 [.agg (bh.cs a),.agg (bh.cs a)] (vB true) []:=by
 refine aA yw false Tryz.f29 ?_;conv=>enter[1];reduce
 refine bf Tryz.f29 16 [.tmp 4] (by kernel_rfl) (by decide +kernel) rfl ?_;simp -implicitDefEqProofs only[go_sem,bne_self_eq_false]
 repeat' first|(refine aq.intro (by first|exact UR _ _) ?_;try simp -implicitDefEqProofs only[go_sem,bne_self_eq_false,Ak])|(refine aD.intro (by first|exact UR _ _) ?_;try simp -implicitDefEqProofs only[go_sem,bne_self_eq_false,Ak])|(refine ew (fun h=>?_) (fun h=>?_)<;>try simp -implicitDefEqProofs only[go_sem,bne_self_eq_false,Ak,h])|(refine b8 (fun h=>?_) (fun h=>?_)<;>try simp -implicitDefEqProofs only[go_sem,bne_self_eq_false,Ak,h])
theorem Jt (l:List bh) (hl:l.length≤maxLen):aR Tryz.prog 20 [.ro 5 (l.map bh.cs),.ro 5 (l.map bh.cs)] (vB true) []:=by
 refine aA yw false Tryz.f20 ?_;conv=>enter[1];reduce
 refine bf Tryz.f20 27 [.tmp 4] (by kernel_rfl) (by decide +kernel) rfl ?_;simp -implicitDefEqProofs only[go_sem,bne_self_eq_false];refine cR (fun k s=>∃(i:Nat),i≤l.length∧k=l.length - i∧s=⟨27,[(0,.ro 5 (l.map bh.cs)),(1,.ro 5 (l.map bh.cs)),(5,vI i)],[],1⟩) l.length (by simp -implicitDefEqProofs only[go_sem];exact⟨0,aQ _,rfl,rfl⟩) ?_;rintro k s ⟨i,hi,rfl,rfl⟩;rcases bm i l.length with ab|bH
 ·have ae:(i:Int)<(l.length:Int):=by omega
  have hg:l[i]?=some l[i]:=bz ab;have hw:=df ab hl;simp -implicitDefEqProofs only[go_sem,ae,hg,hw,bne_self_eq_false,Nm];refine aq.intro (UY _) ?_;simp -implicitDefEqProofs only[go_sem,hw,bne_self_eq_false,Ak];exact⟨_,by omega,i+1,ab,rfl,rfl⟩
 have hi:i=l.length:=by omega
 subst hi;have ae:¬((l.length:Int)<(l.length:Int)):=by omega
 exact er ae
def fu (k:Int):bh × Int:=(⟨k,⟨(k+1).toNat,(k+1+1).toNat,(k+1+1+1).toNat,(k+1+1+1+1).toNat⟩⟩,k+1+1+1+1+1)
theorem B0 (n:Nat) (k:Int):(dE fu n k).2=k+5 * n:=by
 induction n with
 | zero=>simp[dE]
 | succ n ih=>simp only[dE,fu,ih];omega
theorem N6 {z:Int}(hz:0≤z∧z≤9000000000000):IntKind.i64.wrap (z+1)=z+1∧IntKind.i64.wrap (z+1+1)=z+1+1∧IntKind.i64.wrap (z+1+1+1)=z+1+1+1∧IntKind.i64.wrap (z+1+1+1+1)=z+1+1+1+1∧IntKind.i64.wrap (z+1+1+1+1+1)=z+1+1+1+1+1∧IntKind.u64.wrap (z+1)=((z+1).toNat:Int)∧IntKind.u64.wrap (z+1+1)=((z+1+1).toNat:Int)∧IntKind.u64.wrap (z+1+1+1)=((z+1+1+1).toNat:Int)∧IntKind.u64.wrap (z+1+1+1+1)=((z+1+1+1+1).toNat:Int):=⟨aV (by omega),aV (by omega),aV (by omega),aV (by omega),aV (by omega),EE (by omega),EE (by omega),EE (by omega),EE (by omega)⟩
theorem M3 (l:List bh) (k:Int) (hl:l.length≤2000000) (hk:0≤k∧k≤1000000000000):bb Tryz.prog 23 [(1000000,0,one ⟨5,l.map bh.cs,2,false⟩)] [.au 1000000 0 [] 5 0 l.length,vI k] (vI (dE fu l.length k).2) [(1000000,0,one ⟨5,(dE fu l.length k).1.map bh.cs,2,false⟩)]:=by
 refine aA yw false Tryz.f23 ?_;conv=>enter[1];reduce
 refine bT Tryz.f23 56 [.tmp 4] (by kernel_rfl) (by decide +kernel) rfl ?_;have lI:l.length≤maxLen:=by unfold maxLen;omega
 refine aw ?_;refine cR (fun m s=>∃(i:Nat),i≤l.length∧m=l.length - i∧s=⟨56,[(0,.au 1000000 0 [] 5 0 l.length),(1,vI (dE fu i k).2),(5,vI i)],[(1000000,0,one ⟨5,marked bh.cs fu l i k,2,false⟩)],1⟩) l.length ?_ ?_
 ·refine aw ?_;exact⟨0,aQ _,rfl,by simp[Rh,dE]⟩
 rintro m s ⟨i,hi,rfl,rfl⟩;rcases bm i l.length with ab|bH
 ·have ae:(i:Int)<(l.length:Int):=by omega
  have hw:=df ab lI;have SB:=B0 i k;have vh:=Ri (E:=bh.cs) (mk:=fu) (k:=k) ab;have kA:=Rj (E:=bh.cs) (mk:=fu) (k:=k) ab;have hlen:=FN (E:=bh.cs) (mk:=fu) (k:=k) hi;have Cu:(dE fu (i+1) k).2=(dE fu i k).2+1+1+1+1+1:=rfl;generalize marked bh.cs fu l i k=L at *;generalize Gi:(dE fu i k).2=z at *;have hz:0≤z∧z≤9000000000000:=by omega
  obtain⟨h1,h2,h3,h4,h5,u2,u3,u4,u5⟩:=N6 hz;have sx:∀x,(L.set i x)[i]?=some x:=fun x=>List.getElem?_set_self (by omega)
  simp -implicitDefEqProofs only[go_sem,ae,hw,hlen,kA,sx,h1,h2,h3,h4,h5,u2,u3,u4,u5];refine⟨_,by omega,i+1,ab,rfl,?_⟩;rw[Cu,←vh];rfl
 have hi:i=l.length:=by omega
 subst hi;have ae:¬((l.length:Int)<(l.length:Int)):=by omega
 have hlen:=FN (E:=bh.cs) (mk:=fu) (k:=k) hi;simp -implicitDefEqProofs only[go_sem,ae,Rk]
theorem Js (n:Nat) (k:Int) (hn:n≤2000000) (hk:0≤k∧k≤1000000000000):aR Tryz.prog 24 [.ro 5 ((dE fu n k).1.map bh.cs),vI k] (vI (dE fu n k).2) []:=by
 refine aA yw false Tryz.f24 ?_;conv=>enter[1];reduce
 refine bf Tryz.f24 66 [.tmp 4] (by kernel_rfl) (by decide +kernel) rfl ?_;have lI:n≤maxLen:=by unfold maxLen;omega
 have hG:(dE fu n k).1.length=n:=qv;refine aw ?_;refine cR (fun m s=>∃(i:Nat),i≤n∧m=n - i∧s=⟨66,[(0,.ro 5 ((dE fu n k).1.map bh.cs)),(1,vI (dE fu i k).2),(5,vI i)],[],1⟩) n ?_ ?_
 ·refine aw ?_;exact⟨0,aQ _,rfl,rfl⟩
 rintro m s ⟨i,hi,rfl,rfl⟩;rcases bm i n with ab|bH
 ·have ae:(i:Int)<((dE fu n k).1.length:Int):=by omega
  have hw:=df ab lI;have SB:=B0 i k;have hg:=adB (mk:=fu) (k:=k) ab;have Cu:(dE fu (i+1) k).2=(dE fu i k).2+1+1+1+1+1:=rfl;simp only[fu]at hg;generalize Gi:(dE fu i k).2=z at *;have hz:0≤z∧z≤9000000000000:=by omega
  obtain⟨h1,h2,h3,h4,h5,u2,u3,u4,u5⟩:=N6 hz;simp -implicitDefEqProofs only[go_sem,ae,hw,hg,bne_self_eq_false,Nm,h1,h2,h3,h4,h5,u2,u3,u4,u5];exact⟨_,by omega,i+1,ab,rfl,by rw[Cu]⟩
 have hi:i=n:=by omega
 subst hi;have ae:¬((i:Int)<((dE fu i k).1.length:Int)):=by omega
 exact er ae
theorem afA (a:aJ):aR Tryz.prog 64 [.agg (aJ.aO a),.agg (aJ.aO a)] (vB true) []:=by
 refine aA yw false Tryz.f64 ?_;conv=>enter[1];reduce
 refine bf Tryz.f64 25 [.tmp 4] (by kernel_rfl) (by decide +kernel) rfl ?_;simp -implicitDefEqProofs only[go_sem,bne_self_eq_false]
theorem Fa (l:List aJ) (hl:l.length≤maxLen):aR Tryz.prog 21 [.ro 4 (l.map aJ.aO),.ro 4 (l.map aJ.aO)] (vB true) []:=by
 refine aA yw false Tryz.f21 ?_;conv=>enter[1];reduce
 refine bf Tryz.f21 27 [.tmp 4] (by kernel_rfl) (by decide +kernel) rfl ?_;simp -implicitDefEqProofs only[go_sem,bne_self_eq_false];refine cR (fun k s=>∃(i:Nat),i≤l.length∧k=l.length - i∧s=⟨27,[(0,.ro 4 (l.map aJ.aO)),(1,.ro 4 (l.map aJ.aO)),(5,vI i)],[],1⟩) l.length (by simp -implicitDefEqProofs only[go_sem];exact⟨0,aQ _,rfl,rfl⟩) ?_;rintro k s ⟨i,hi,rfl,rfl⟩;rcases bm i l.length with ab|bH
 ·have ae:(i:Int)<(l.length:Int):=by omega
  have hg:l[i]?=some l[i]:=bz ab;have hw:=df ab hl;simp -implicitDefEqProofs only[go_sem,ae,hg,hw,bne_self_eq_false,Nm];refine aq.intro (afA _) ?_;simp -implicitDefEqProofs only[go_sem,hw,bne_self_eq_false,Ak];exact⟨_,by omega,i+1,ab,rfl,rfl⟩
 have hi:i=l.length:=by omega
 subst hi;have ae:¬((l.length:Int)<(l.length:Int)):=by omega
 exact er ae
def mw (k:Int):aJ × Int:=(⟨k,k+1,k+1+1,zF (k+1+1+1)⟩,k+1+1+1+1)
theorem FK (n:Nat) (k:Int):(dE mw n k).2=k+4 * n:=by
 induction n with
 | zero=>simp[dE]
 | succ n ih=>simp only[dE,mw,ih];omega
theorem W5 {z:Int}(hz:0≤z∧z≤9000000000000):IntKind.i64.wrap (z+1)=z+1∧IntKind.i64.wrap (z+1+1)=z+1+1∧IntKind.i64.wrap (z+1+1+1)=z+1+1+1∧IntKind.i64.wrap (z+1+1+1+1)=z+1+1+1+1:=⟨aV (by omega),aV (by omega),aV (by omega),aV (by omega)⟩
theorem M6 (l:List aJ) (k:Int) (hl:l.length≤2000000) (hk:0≤k∧k≤1000000000000):bb Tryz.prog 22 [(1000000,0,one ⟨4,l.map aJ.aO,2,false⟩)] [.au 1000000 0 [] 4 0 l.length,vI k] (vI (dE mw l.length k).2) [(1000000,0,one ⟨4,(dE mw l.length k).1.map aJ.aO,2,false⟩)]:=by
 refine aA yw false Tryz.f22 ?_;conv=>enter[1];reduce
 refine bT Tryz.f22 42 [.tmp 4] (by kernel_rfl) (by decide +kernel) rfl ?_;have lI:l.length≤maxLen:=by unfold maxLen;omega
 refine aw ?_;refine cR (fun m s=>∃(i:Nat),i≤l.length∧m=l.length - i∧s=⟨42,[(0,.au 1000000 0 [] 4 0 l.length),(1,vI (dE mw i k).2),(5,vI i)],[(1000000,0,one ⟨4,marked aJ.aO mw l i k,2,false⟩)],1⟩) l.length ?_ ?_
 ·refine aw ?_;exact⟨0,aQ _,rfl,by simp[Rh,dE]⟩
 rintro m s ⟨i,hi,rfl,rfl⟩;rcases bm i l.length with ab|bH
 ·have ae:(i:Int)<(l.length:Int):=by omega
  have hw:=df ab lI;have SB:=FK i k;have vh:=Ri (E:=aJ.aO) (mk:=mw) (k:=k) ab;have kA:=Rj (E:=aJ.aO) (mk:=mw) (k:=k) ab;have hlen:=FN (E:=aJ.aO) (mk:=mw) (k:=k) hi;have Cu:(dE mw (i+1) k).2=(dE mw i k).2+1+1+1+1:=rfl;generalize marked aJ.aO mw l i k=L at *;generalize Gi:(dE mw i k).2=z at *;have hz:0≤z∧z≤9000000000000:=by omega
  obtain⟨h1,h2,h3,h4⟩:=W5 hz;have sx:∀x,(L.set i x)[i]?=some x:=fun x=>List.getElem?_set_self (by omega)
  simp -implicitDefEqProofs only[go_sem,ae,hw,hlen,kA,sx,h1,h2,h3,h4];refine aq.intro (afz _ (by omega)) ?_;simp -implicitDefEqProofs only[go_sem,ae,hw,hlen,kA,sx,h1,h2,h3,h4];refine⟨_,by omega,i+1,ab,rfl,?_⟩;rw[Cu,←vh];rfl
 have hi:i=l.length:=by omega
 subst hi;have ae:¬((l.length:Int)<(l.length:Int)):=by omega
 have hlen:=FN (E:=aJ.aO) (mk:=mw) (k:=k) hi;simp -implicitDefEqProofs only[go_sem,ae,Rk]
def Dl:bX:=⟨[],[9,10,11],[24,26,30,44,47,50,51,52,57,58,59,62,76,88,138,185,186,187,253,254,297,311],false⟩
theorem HI (s:cK):aR Tryz.prog 17 [.agg s.cs] (.agg s.cs) []:=by
 refine aA Dl false Tryz.f17 ?_;conv=>enter[1];reduce
 refine bf Tryz.f17 20 [.cell 2 28] (by kernel_rfl) (by decide +kernel) rfl ?_;exact dt
def FQ (s:aJ) (left:Int):Int:=if IntKind.i64.wrap (left - s.text.size)<0 then -1 else IntKind.i64.wrap (left - s.text.size)
def zG:List aJ→Int→Int
 | [],x=>x
 | s::r,x=>if FQ s x<0 then -1 else zG r (FQ s x)
def qQ (l:List aJ) (left:Int):Int:=if IntKind.i64.wrap (left - l.length)<0 then -1 else zG l (IntKind.i64.wrap (left - l.length))
theorem afD (s:aJ) (left:Int):aR Tryz.prog 59 [.agg s.aO,vI left] (vI (FQ s left)) []:=by
 refine aA Dl false Tryz.f59 ?_;conv=>enter[1];reduce
 refine bf Tryz.f59 13 [.tmp 4] (by kernel_rfl) (by decide +kernel) rfl ?_;simp -implicitDefEqProofs only[go_sem,FQ];refine b8 (fun h=>?_) (fun h=>?_)
 ·refine aC h ?_;rw[if_pos (of_decide_eq_true h)]
 refine aC h ?_;rw[if_neg (of_decide_eq_false h)]
theorem HK (l:List aJ) (left:Int) (hl:l.length≤maxLen):aR Tryz.prog 15 [.ro 4 (l.map aJ.aO),vI left] (vI (qQ l left)) []:=by
 refine aA Dl false Tryz.f15 ?_;conv=>enter[1];reduce
 refine bf Tryz.f15 27 [.tmp 4] (by kernel_rfl) (by decide +kernel) rfl ?_;refine aw ?_;refine b8 (fun h=>?_) (fun h=>?_)
 ·refine aC h ?_;have h:IntKind.i64.wrap (left - l.length)<0:=of_decide_eq_true h;rw[qQ,if_pos h]
 have h1:¬IntKind.i64.wrap (left - l.length)<0:=of_decide_eq_false h;refine aC h ?_;have h0:zG l (IntKind.i64.wrap (left - l.length))=qQ l left:=by rw[qQ,if_neg h1]
 refine cR (fun m s=>∃(i:Nat) (x:Int),i≤l.length∧m=l.length - i∧zG (l.drop i) x=qQ l left∧s=⟨27,[(0,.ro 4 (l.map aJ.aO)),(1,vI x),(5,vI i)],[],1⟩) l.length
  (by simp -implicitDefEqProofs only[go_sem];exact⟨0,_,aQ _,rfl,h0,rfl⟩) ?_
 rintro m s ⟨i,x,hi,rfl,hx,rfl⟩;rcases bm i l.length with ab|bH
 ·have ae:(i:Int)<(l.length:Int):=by omega
  have hg:l[i]?=some l[i]:=bz ab;rw[List.drop_eq_getElem_cons ab,zG]at hx;have hw:=df ab hl;refine cg ae hg ?_;refine cz (afD _ _) ?_;refine b8 (fun h=>?_) (fun h=>?_)
  ·refine aC h ?_;rw[if_pos (of_decide_eq_true h)]at hx;rw[hx]
  refine cg h hw ?_;rw[if_neg (of_decide_eq_false h)]at hx;exact⟨_,by omega,i+1,_,ab,rfl,hx,rfl⟩
 have hi:i=l.length:=by omega
 subst hi;have ae:¬((l.length:Int)<(l.length:Int)):=by omega
 rw[List.drop_length,zG]at hx;exact dk ae hx
theorem afB (s:aJ):aR Tryz.prog 61 [.agg s.aO] (.agg s.aO) []:=by
 refine aA Dl false Tryz.f61 ?_;conv=>enter[1];reduce
 refine bf Tryz.f61 17 [.cell 2 83] (by kernel_rfl) (by decide +kernel) rfl ?_;exact dt
def fill {α:Type} (E:α→List AV) (z:List AV) (l:List α) (i:Nat):List (List AV):=(l.take i).map E++List.replicate (l.length - i) z
theorem ad5 {α:Type}{E:α→List AV}{z:List AV}{l:List α}:List.replicate l.length z=fill E z l 0:=by simp[fill]
theorem ad8 {α:Type}{E:α→List AV}{z:List AV}{l:List α}:fill E z l l.length=l.map E:=by simp[fill]
theorem ad7 {α:Type}{E:α→List AV}{z:List AV}{l:List α}{i:Nat}(h:i<l.length):(fill E z l i)[i]?=some z:=by
 have hl:(List.map E (l.take i)).length=i:=by simp;omega
 unfold fill;rw[List.getElem?_append_right (by omega),List.getElem?_replicate,if_pos (by omega)]
theorem ad6 {α:Type}{E:α→List AV}{z:List AV}{l:List α}{i:Nat}{x:α}(h:l[i]?=some x):(fill E z l i).set i (E x)=fill E z l (i+1):=by
 obtain⟨hi,rfl⟩:=List.getElem?_eq_some_iff.1 h;have hl:(List.map E (l.take i)).length=i:=by simp;omega
 unfold fill;rw[List.set_append_right _ _ (by omega),List.take_succ_eq_append_getElem hi,hl,Nat.sub_self];have e:l.length - i=(l.length - (i+1))+1:=by omega
 rw[e,List.replicate_succ,List.set_cons_zero,List.map_append,List.append_assoc];rfl
theorem HG (l:List aJ) (hl:l.length≤1048576):aR Tryz.prog 18 [.ro 4 (l.map aJ.aO)] (.au 0 0 [] 4 0 l.length) [([],⟨4,l.map aJ.aO,2,false⟩)]:=by
 refine aA Dl false Tryz.f18 ?_;conv=>enter[1];reduce
 refine bf Tryz.f18 23 [.tmp 2] (by kernel_rfl) (by decide +kernel) rfl ?_;have h1:(l.length:Int)=l.length∧0≤(l.length:Int)∧((40:Nat):Int) * (l.length:Int)≤281474976710656∧(l.length:Int)≤9223372036854775807:=by omega
 refine aC h1 ?_;have hz:∃z:List AV,z=[vI 0,vI 0,vI 0,.sc (.string ⟨#[]⟩)]:=⟨_,rfl⟩;obtain⟨z,hz⟩:=hz;refine cR (fun m s=>∃(i:Nat),i≤l.length∧m=l.length - i∧s=⟨23,[(0,.ro 4 (l.map aJ.aO)),(3,.au 3 0 [] 4 0 l.length),(4,vI i)],[(3,(0,one ⟨4,fill aJ.aO z l i,2,false⟩))],1⟩) l.length
  (by simp -implicitDefEqProofs only[go_sem];exact⟨0,aQ _,rfl,by rw[←ad5,hz];rfl⟩) ?_
 rintro m s ⟨i,hi,rfl,rfl⟩;rcases bm i l.length with ab|bH
 ·have ae:(i:Int)<(l.length:Int):=by omega
  have hg:l[i]?=some l[i]:=bz ab;have hw:=df ab (Nat.le_trans hl (by decide));have hf:(fill aJ.aO z l i)[i]?=some z:=ad7 ab;have hs:(fill aJ.aO z l i).set i [vI l[i].kind,vI l[i].node,vI l[i].arg,.sc (.string l[i].text)]=fill aJ.aO z l (i+1):=ad6 hg;subst hz;refine cg ae hg ?_;refine aq.intro (afB _) ?_;refine oe ae hg hf hs hw ?_;exact⟨_,by omega,i+1,ab,rfl,rfl⟩
 have hi:i=l.length:=by omega
 subst hi;have ae:¬((l.length:Int)<(l.length:Int)):=by omega
 simp -implicitDefEqProofs only[go_sem,ae,ad8]
theorem EI {l:List aJ}(hl:l.length≤maxLen) (h:¬qQ l 1048576<0):l.length≤1048576:=by
 unfold qQ at h;split at h
 ·omega
 rename_i h2;unfold maxLen at hl;rw[aV (by omega)]at h2;omega
def T8:bX:=⟨[(22,.cm [true,false]),(23,.cm [true,false])],[9,10,11],[24,26,30,44,47,50,51,52,57,58,59,62,76,88,138,185,186,187,253,254,297,311],false⟩
theorem ac8 (s:cK) (l:List aJ):(tK (gn s l)).length≤100:=by
 have:=(wN s l).n;unfold tK;rw[zX];omega
theorem aam (s:cK) (l:List aJ):(oz (gn s l)).length≤100:=by
 have:=(wN s l).c;unfold oz;split
 ·exact aQ _
 rw[List.length_append,uQ];simp;omega
theorem afF (s:cK) (l:List aJ) (hl:l.length≤maxLen):aR Tryz.prog 3 [.agg s.cs,.ro 4 (l.map aJ.aO)] (vB true) []:=by
 refine aA T8 false Tryz.f3 ?_;conv=>enter[1];reduce
 refine bf Tryz.f3 77 [.tmp 4] (by kernel_rfl) (by decide +kernel) rfl ?_;refine aw ?_;refine aq.intro (HK l _ hl) ?_;by_cases h:qQ l 1048576<0
 ·exact er h
 have hs:=EI hl h;have k1:=HI s;have k2:=HG l hs;have k3:=agB s l hl;have k4:=ago s l hl;have hL:=ac8 s l;generalize tK (gn s l)=L at *;have Aa:L.length≤maxLen:=by unfold maxLen;omega
 have k5:=Jt L Aa;have k6:=Fa l hl;have k7:=M6 l 1 (by omega) (by omega);have k8:=M3 L 1 (by omega) (by omega);have k9:=Js L.length 1 (by omega) (by omega);have n1:¬((dE mw l.length 1).2<0):=by rw[FK];omega
 have n2:¬((dE fu L.length 1).2<0):=by rw[B0];omega
 have hG:=qv (mk:=fu) (n:=L.length) (k:=1);have hT:List.take L.length (dE fu L.length 1).1=(dE fu L.length 1).1:=List.take_of_length_le (by rw[hG];exact Nat.le_refl _);simp -implicitDefEqProofs only[go_sem,h]
 repeat' first|(refine aq.intro (by first|exact k1|exact k2|exact k3|exact k4|exact k5|exact k6|exact k7|exact k8|exact k9) ?_;try simp -implicitDefEqProofs only[go_sem,h,n1,n2,hG,hT,bne_self_eq_false,Bool.not_true,Bool.not_false,bc])|(refine aD.intro (by first|exact k1|exact k2|exact k3|exact k4|exact k5|exact k6|exact k7|exact k8|exact k9) ?_;try simp -implicitDefEqProofs only[go_sem,h,n1,n2,hG,hT,bne_self_eq_false,Bool.not_true,Bool.not_false,bc])|(refine ew (fun h=>?_) (fun h=>?_)<;>try simp -implicitDefEqProofs only[go_sem,h,n1,n2,hG,hT,bne_self_eq_false,Bool.not_true,Bool.not_false,bc,h])|(refine b8 (fun h=>?_) (fun h=>?_)<;>try simp -implicitDefEqProofs only[go_sem,h,n1,n2,hG,hT,bne_self_eq_false,Bool.not_true,Bool.not_false,bc,h])
 all_goals trace_state
theorem afE (s:cK) (l:List aJ) (hl:l.length≤maxLen):aR Tryz.prog 4 [.agg s.cs,.ro 4 (l.map aJ.aO)] (vB true) []:=by
 refine aA T8 false Tryz.f4 ?_;conv=>enter[1];reduce
 refine bf Tryz.f4 77 [.tmp 4] (by kernel_rfl) (by decide +kernel) rfl ?_;refine aw ?_;refine aq.intro (HK l _ hl) ?_;by_cases h:qQ l 1048576<0
 ·exact er h
 have hs:=EI hl h;have k1:=HI s;have k2:=HG l hs;have k3:=Va s l hl;have k4:=U9 s l hl;have hL:=aam s l;generalize oz (gn s l)=L at *;have Aa:L.length≤maxLen:=by unfold maxLen;omega
 have k5:=Jt L Aa;have k6:=Fa l hl;have k7:=M6 l 1 (by omega) (by omega);have k8:=M3 L 1 (by omega) (by omega);have k9:=Js L.length 1 (by omega) (by omega);have n1:¬((dE mw l.length 1).2<0):=by rw[FK];omega
 have n2:¬((dE fu L.length 1).2<0):=by rw[B0];omega
 have hG:=qv (mk:=fu) (n:=L.length) (k:=1);have hT:List.take L.length (dE fu L.length 1).1=(dE fu L.length 1).1:=List.take_of_length_le (by rw[hG];exact Nat.le_refl _);simp -implicitDefEqProofs only[go_sem,h]
 repeat' first|(refine aq.intro (by first|exact k1|exact k2|exact k3|exact k4|exact k5|exact k6|exact k7|exact k8|exact k9) ?_;try simp -implicitDefEqProofs only[go_sem,h,n1,n2,hG,hT,bne_self_eq_false,Bool.not_true,Bool.not_false,bc])|(refine aD.intro (by first|exact k1|exact k2|exact k3|exact k4|exact k5|exact k6|exact k7|exact k8|exact k9) ?_;try simp -implicitDefEqProofs only[go_sem,h,n1,n2,hG,hT,bne_self_eq_false,Bool.not_true,Bool.not_false,bc])|(refine ew (fun h=>?_) (fun h=>?_)<;>try simp -implicitDefEqProofs only[go_sem,h,n1,n2,hG,hT,bne_self_eq_false,Bool.not_true,Bool.not_false,bc,h])|(refine b8 (fun h=>?_) (fun h=>?_)<;>try simp -implicitDefEqProofs only[go_sem,h,n1,n2,hG,hT,bne_self_eq_false,Bool.not_true,Bool.not_false,bc,h])
 all_goals trace_state
def T7:bX:=⟨[(22,.cm [true,false]),(23,.cm [true,false]),(30,.cm [false,false])],[9,10,11],[24,26,30,44,47,50,51,52,57,58,59,62,76,88,138,185,186,187,253,254,297,311],false⟩
theorem Z5 (s:cK) (l:List aJ):(r9 s l).length≤100:=by
 unfold r9;split
 ·exact aQ _
 have:=Kd s (l++fH s);rw[Mv];omega
theorem afv (s:cK) (l:List aJ) (hl:l.length≤maxLen):aR Tryz.prog 6 [.agg s.cs,.ro 4 (l.map aJ.aO)] (vB true) []:=by
 refine aA T7 false Tryz.f6 ?_;conv=>enter[1];reduce
 refine bf Tryz.f6 77 [.tmp 4] (by kernel_rfl) (by decide +kernel) rfl ?_;refine aw ?_;refine aq.intro (HK l _ hl) ?_;by_cases h:qQ l 1048576<0
 ·exact er h
 have hs:=EI hl h;have k1:=HI s;have k2:=HG l hs;have k3:=afK s l hl;have k4:=afH s l hl;have hL:=Z5 s l;generalize r9 s l=L at *;have Aa:L.length≤maxLen:=by unfold maxLen;omega
 have k5:=Jt L Aa;have k6:=Fa l hl;have k7:=M6 l 1 (by omega) (by omega);have k8:=M3 L 1 (by omega) (by omega);have k9:=Js L.length 1 (by omega) (by omega);have n1:¬((dE mw l.length 1).2<0):=by rw[FK];omega
 have n2:¬((dE fu L.length 1).2<0):=by rw[B0];omega
 have hG:=qv (mk:=fu) (n:=L.length) (k:=1);have hT:List.take L.length (dE fu L.length 1).1=(dE fu L.length 1).1:=List.take_of_length_le (by rw[hG];exact Nat.le_refl _);simp -implicitDefEqProofs only[go_sem,h]
 repeat' first|(refine aq.intro (by first|exact k1|exact k2|exact k3|exact k4|exact k5|exact k6|exact k7|exact k8|exact k9) ?_;try simp -implicitDefEqProofs only[go_sem,h,n1,n2,hG,hT,bne_self_eq_false,Bool.not_true,Bool.not_false,bc])|(refine aD.intro (by first|exact k1|exact k2|exact k3|exact k4|exact k5|exact k6|exact k7|exact k8|exact k9) ?_;try simp -implicitDefEqProofs only[go_sem,h,n1,n2,hG,hT,bne_self_eq_false,Bool.not_true,Bool.not_false,bc])|(refine ew (fun h=>?_) (fun h=>?_)<;>try simp -implicitDefEqProofs only[go_sem,h,n1,n2,hG,hT,bne_self_eq_false,Bool.not_true,Bool.not_false,bc,h])|(refine b8 (fun h=>?_) (fun h=>?_)<;>try simp -implicitDefEqProofs only[go_sem,h,n1,n2,hG,hT,bne_self_eq_false,Bool.not_true,Bool.not_false,bc,h])
 all_goals trace_state
theorem afC (s:cK) (l:List aJ) (hl:l.length≤maxLen):aR Tryz.prog 5 [.agg s.cs,.ro 4 (l.map aJ.aO)] (vB true) []:=by
 refine aA T7 false Tryz.f5 ?_;conv=>enter[1];reduce
 refine bf Tryz.f5 34 [.tmp 4] (by kernel_rfl) (by decide +kernel) rfl ?_;refine aw ?_;refine aq.intro (HK l _ hl) ?_;by_cases h:qQ l 1048576<0
 ·exact er h
 have hs:=EI hl h;have k1:=HI s;have k2:=HG l hs;have k3:=afW s l hl;have k4:=afU s l hl;generalize xj s l=p at *;have k5:=UY p;have k6:=Fa l hl;simp -implicitDefEqProofs only[go_sem,h]
 repeat' first|(refine aq.intro (by first|exact k1|exact k2|exact k3|exact k4|exact k5|exact k6) ?_;try simp -implicitDefEqProofs only[go_sem,h,bne_self_eq_false,Bool.not_true,Bool.not_false,bc])|(refine aD.intro (by first|exact k1|exact k2|exact k3|exact k4|exact k5|exact k6) ?_;try simp -implicitDefEqProofs only[go_sem,h,bne_self_eq_false,Bool.not_true,Bool.not_false,bc])|(refine ew (fun h=>?_) (fun h=>?_)<;>try simp -implicitDefEqProofs only[go_sem,h,bne_self_eq_false,Bool.not_true,Bool.not_false,bc,h])|(refine b8 (fun h=>?_) (fun h=>?_)<;>try simp -implicitDefEqProofs only[go_sem,h,bne_self_eq_false,Bool.not_true,Bool.not_false,bc,h])
 all_goals trace_state
end Go.Proofs.YtobpfkgabdeefaaGreat.E
