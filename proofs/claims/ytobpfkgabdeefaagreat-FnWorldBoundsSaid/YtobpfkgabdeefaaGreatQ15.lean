/- Contracts: wishes; witnesses that are ok. -/
import Derived.Test.YtobpfkgabdeefaaGreatQ13
import Derived.Test.YtobpfkgabdeefaaGreatQ14
namespace Go.Proofs.YtobpfkgabdeefaaGreat.E
open Go Go.RowKit
set_option maxHeartbeats 4000000
set_option maxRecDepth 10000
set_option linter.unusedSimpArgs false
set_option linter.unusedVariables false
set_option linter.unusedSectionVars false
def Hm:cc:=⟨[],cw,cz,false⟩
structure bD where
 bh:Int
 bU:Int
 pt:cg
def bD.cs (x:bD):List AV:=[vI x.bh,vI x.bU,vI x.pt.size,vU x.pt.root.a,vU x.pt.root.b,vU x.pt.root.c,vU x.pt.root.d]
attribute [go_sem] bD.cs
theorem bD.wide (l:List bD):fN 7 (l.map bD.cs)=true:=by
 induction l with
 | nil=>rfl
 | cons a l ih=>simp only[List.map_cons,fN,ih,bD.cs];rfl
theorem bD.flat (l:List bD):dJ (l.map bD.cs)=2:=by
 induction l with
 | nil=>rfl
 | cons a l ih=>simp only[List.map_cons,dJ,ih,bD.cs];rfl
attribute [go_sem] bD.wide bD.flat
theorem ez.wide (l:List ez):fN 13 (l.map ez.cs)=true:=by
 induction l with
 | nil=>rfl
 | cons a l ih=>simp only[List.map_cons,fN,ih,ez.cs];rfl
theorem ez.flat (l:List ez):dJ (l.map ez.cs)=2:=by
 induction l with
 | nil=>rfl
 | cons a l ih=>simp only[List.map_cons,dJ,ih,ez.cs];rfl
attribute [go_sem] ez.wide ez.flat
theorem DF (l:List bD) (hl:l.length * 56<=140737488355328):ba Tryz.prog 120 [.ro 7 (l.map bD.cs)] (.aw 0 0 [] 7 0 l.length) [([],⟨7,l.map bD.cs,2,false⟩)]:=by
 refine aF Hm false Tryz.f120 ?_;conv=>enter[1];reduce
 refine bu Tryz.f120 14 [.tmp 2] (by kernel_rfl) (by decide +kernel) rfl ?_;refine au ?_;refine bX (fun h=>?_) (fun h=>?_)
 ·have:l=[]:=by simpa using h
  subst this;exact dy
 have hm:=pA hl (by omega);have jz:((56:Nat):Int) * (l.length:Int)<=281474976710656/\(l.length:Int)<=9223372036854775807:=by unfold maxLen at hm;omega
 exact uO h jz
theorem Dx (l:List ez) (hl:l.length * 104<=140737488355328):ba Tryz.prog 216 [.ro 13 (l.map ez.cs)] (.aw 0 0 [] 13 0 l.length) [([],⟨13,l.map ez.cs,2,false⟩)]:=by
 refine aF Hm false Tryz.f216 ?_;conv=>enter[1];reduce
 refine bu Tryz.f216 14 [.tmp 2] (by kernel_rfl) (by decide +kernel) rfl ?_;refine au ?_;refine bX (fun h=>?_) (fun h=>?_)
 ·have:l=[]:=by simpa using h
  subst this;exact dy
 have hm:=pA hl (by omega);have jz:((104:Nat):Int) * (l.length:Int)<=281474976710656/\(l.length:Int)<=9223372036854775807:=by unfold maxLen at hm;omega
 exact uO h jz
theorem afo:ba Tryz.prog 216 [.aG] (.aw 0 0 [] 13 0 0) [([],⟨13,[],2,false⟩)]:=
 (Dx [] (by simp)).arg fun rd vs h=>by
  obtain⟨v,us,rfl,hr,hp⟩:=h.kV;have:us=[]:=List.eq_nil_of_length_eq_zero hp.1.symm;subst this;exact PW.cons (hr.wk (.inr ⟨rfl,13,rfl⟩)) PW.nil
structure bz where
 aH:cX
 aQ:List bD
def bz.cs (w:bz) (l:AV):List AV:=w.aH.cs++[l]
def bz.ro (w:bz):AV:=.agg (w.cs (.ro 7 (w.aQ.map bD.cs)))
attribute [go_sem] bz.cs bz.ro
def gW (h:Int) (l:List bD) (i:Nat):Bool:=match l[i]? with
 | some x=>aS x.bh 1 20&&((match i with
  | 0=>true
  | j+1=>match l[j]? with
   | some y=>decide (y.bh<x.bh)
   | none=>true)&&(aS x.bU 1 1000000&&aS x.pt.size (h+1) 256))
 | none=>true
def iQ (w:bz):Bool:=decide (w.aQ.length<=8)&&(List.range w.aQ.length).all fun i=>gW (cO w.aH).size w.aQ i
theorem Ob {w:bz}{i:Nat}(hi:i<w.aQ.length) (h:gW (cO w.aH).size w.aQ i=false):iQ w=false:=by
 unfold iQ;rw[Bool.and_eq_false_iff];right;rw[List.all_eq_false];exact⟨i,List.mem_range.2 hi,by rw[h];decide⟩
theorem Oa {w:bz}(h:∀j,j<w.aQ.length->gW (cO w.aH).size w.aQ j=true):iQ w=decide (w.aQ.length<=8):=by
 unfold iQ;have:((List.range w.aQ.length).all fun i=>gW (cO w.aH).size w.aQ i)=true:=by
  rw[List.all_eq_true];exact fun j hj=>h j (List.mem_range.1 hj)
 rw[this,Bool.and_true]
theorem agv (w:bz) (h:w.aH.ok) (hl:w.aQ.length<=maxLen):ba Tryz.prog 213 [w.ro] (vB (iQ w)) []:=by
 refine aF Hm false Tryz.f213 ?_;conv=>enter[1];reduce
 refine bu Tryz.f213 58 [.tmp 2] (by kernel_rfl) (by decide +kernel) rfl ?_;have hH:=Mu w.aH h;have rH:=FW w.aH;have Lv:=@Ob w;have K5:=@Oa w;obtain⟨aH,l⟩:=w;simp only at *;generalize cO aH=H at *;obtain⟨hs,hr⟩:=H;simp only at *;have w1:IntKind.i64.wrap (hs+1)=hs+1:=aN (by omega);refine au ?_;refine cT hH ?_;refine dq (fun m z=>∃i,(i<=l.length/\∀j,j<i->gW hs l j=true)/\m=l.length - i/\z=⟨58,[(1,.ptr 1 0 [] 15 0 0),(3,.ptr 3 0 [] 5 0 0),(10,.ro 7 (l.map bD.cs)),(11,vI l.length),(12,vI i)],[(1,0,one ⟨15,[bz.cs ⟨aH,l⟩ (.ro 7 (l.map bD.cs))],0,false⟩),(3,0,one ⟨5,[cg.cs ⟨hs,hr⟩],0,false⟩)],1⟩) l.length ?_ ?_
 ·refine au ?_;exact⟨0,⟨aR _,fun j hj=>absurd hj (Nat.not_lt_zero _)⟩,rfl,rfl⟩
 rintro m z ⟨i,⟨hi,gE⟩,rfl,rfl⟩;rcases bp i l.length with ab|bM
 ·have ah:(i:Int)<(l.length:Int):=by omega
  have hg:l[i]?=some l[i]:=bm ab;have hw:=dx ab hl;have hb:=Lv ab;have cB:gW hs l i=gW hs l i:=rfl;conv at cB=>rhs;unfold gW
  rw[hg]at cB;simp only at cB;generalize l[i]=x at *;refine AY ah hg ?_;refine aq.intro (dQ x.bh 1 20) ?_;cases a1:aS x.bh 1 20 with
  | false=>
   have hf:gW hs l i=false:=by rw[cB];simp[a1]
   rw[hb hf];exact wH a1
  | true=>
   cases i with
   | zero=>
    have q0:¬(((0:Nat):Int)>0):=by decide
    simp -implicitDefEqProofs only[go_sem,a1,q0,d7,Bool.false_eq_true];refine aq.intro (dQ x.bU 1 1000000) ?_;cases a3:aS x.bU 1 1000000 with
    | false=>
     have hf:gW hs l 0=false:=by rw[cB];simp[a1,a3]
     rw[hb hf];simp -implicitDefEqProofs only[go_sem,a3,q0,d7,Bool.false_eq_true]
    | true=>
     refine AR a3 w1 ?_;refine aq.intro (dQ x.pt.size (hs+1) 256) ?_;cases a4:aS x.pt.size (hs+1) 256 with
     | false=>
      have hf:gW hs l 0=false:=by rw[cB];simp[a1,a3,a4]
      rw[hb hf];exact wH a4
     | true=>
      have hf:gW hs l 0=true:=by rw[cB];simp[a1,a3,a4]
      simp -implicitDefEqProofs only[go_sem,a4,w1,hw,q0,d7,Bool.false_eq_true];exact⟨_,by omega,0+1,⟨ab,fun k hk=>by rcases Nat.lt_succ_iff_lt_or_eq.1 hk with hk|rfl;exact gE k hk;exact hf⟩,rfl,rfl⟩
   | succ j=>
    have q0:(((j+1:Nat):Int)>0):=by omega
    have w5:IntKind.i64.wrap (((j+1:Nat):Int) - 1)=(j:Int):=by rw[aN (by unfold maxLen at hl;omega)];omega
    have hj:j<l.length:=by omega
    have iV:(j:Int)<(l.length:Int):=by omega
    have xZ:l[j]?=some l[j]:=bm hj;simp only[xZ]at cB;generalize l[j]=y at *;by_cases a2:y.bh>=x.bh
    ·have uE:decide (y.bh<x.bh)=false:=decide_eq_false (by omega);have hf:gW hs l (j+1)=false:=by rw[cB];simp[a1,uE]
     rw[hb hf];simp -implicitDefEqProofs only[go_sem,a1,q0,w5,iV,xZ,a2,d7,Bool.false_eq_true]
    have uE:decide (y.bh<x.bh)=true:=decide_eq_true (by omega);simp -implicitDefEqProofs only[go_sem,a1,q0,w5,iV,xZ,a2,d7,Bool.false_eq_true];refine aq.intro (dQ x.bU 1 1000000) ?_;cases a3:aS x.bU 1 1000000 with
    | false=>
     have hf:gW hs l (j+1)=false:=by rw[cB];simp[a1,uE,a3]
     rw[hb hf];simp -implicitDefEqProofs only[go_sem,a3,a1,d7,Bool.false_eq_true]
    | true=>
     refine AR a3 w1 ?_;refine aq.intro (dQ x.pt.size (hs+1) 256) ?_;cases a4:aS x.pt.size (hs+1) 256 with
     | false=>
      have hf:gW hs l (j+1)=false:=by rw[cB];simp[a1,uE,a3,a4]
      rw[hb hf];exact wH a4
     | true=>
      have hf:gW hs l (j+1)=true:=by rw[cB];simp[a1,uE,a3,a4]
      simp -implicitDefEqProofs only[go_sem,a4,w1,hw,a1,d7,Bool.false_eq_true];exact⟨_,by omega,(j+1)+1,⟨ab,fun k hk=>by rcases Nat.lt_succ_iff_lt_or_eq.1 hk with hk|rfl;exact gE k hk;exact hf⟩,rfl,rfl⟩
 have hi:i=l.length:=by omega
 subst hi;have ah:¬((l.length:Int)<(l.length:Int)):=by omega
 rw[K5 gE];have e8:decide ((l.length:Int)<=8)=decide (l.length<=8):=by simp only[decide_eq_decide];omega
 exact dp ah e8
theorem UY (w:bz) (h:w.aH.ok) (hl:w.aQ.length<=maxLen):ba Tryz.prog 38 [w.ro] (vB (iQ w)) []:=by
 refine aF Hm false Tryz.f38 ?_;conv=>enter[1];reduce
 refine bu Tryz.f38 59 [.tmp 2] (by kernel_rfl) (by decide +kernel) rfl ?_;have hH:=Hz w.aH h;have rH:=FW w.aH;have Lv:=@Ob w;have K5:=@Oa w;obtain⟨aH,l⟩:=w;simp only at *;generalize cO aH=H at *;obtain⟨hs,hr⟩:=H;simp only at *;have w1:IntKind.i64.wrap (hs+1)=hs+1:=aN (by omega);rcases bp 8 l.length with h8|h8
 ·have uo:(l.length:Int)>8:=by omega
  have e8:iQ ⟨aH,l⟩=false:=by unfold iQ;rw[decide_eq_false (by show ¬l.length<=8;omega)];rfl
  rw[e8];exact AX uo
 have uo:¬((l.length:Int)>8):=by omega
 refine pn uo ?_;refine cT hH ?_;refine dq (fun m z=>∃i,(i<=l.length/\∀j,j<i->gW hs l j=true)/\m=l.length - i/\z=⟨59,[(1,.ptr 1 0 [] 15 0 0),(3,.ptr 3 0 [] 5 0 0),(4,vI i)],[(1,0,one ⟨15,[bz.cs ⟨aH,l⟩ (.ro 7 (l.map bD.cs))],0,false⟩),(3,0,one ⟨5,[cg.cs ⟨hs,hr⟩],0,false⟩)],1⟩) l.length ?_ ?_
 ·refine au ?_;exact⟨0,⟨aR _,fun j hj=>absurd hj (Nat.not_lt_zero _)⟩,rfl,rfl⟩
 rintro m z ⟨i,⟨hi,gE⟩,rfl,rfl⟩;rcases bp i l.length with ab|bM
 ·have ah:(i:Int)<(l.length:Int):=by omega
  have hg:l[i]?=some l[i]:=bm ab;have hw:=dx ab hl;have hb:=Lv ab;have cB:gW hs l i=gW hs l i:=rfl;conv at cB=>rhs;unfold gW
  rw[hg]at cB;simp only at cB;generalize l[i]=x at *;refine AY ah hg ?_;refine aq.intro (fG x.bh 1 20) ?_;cases a1:aS x.bh 1 20 with
  | false=>
   have hf:gW hs l i=false:=by rw[cB];simp[a1]
   rw[hb hf];exact wH a1
  | true=>
   refine pn a1 ?_;refine aq.intro (fG x.bU 1 1000000) ?_;cases a3:aS x.bU 1 1000000 with
   | false=>
    have hf:gW hs l i=false:=by rw[cB];simp[a1,a3]
    rw[hb hf];exact wH a3
   | true=>
    refine AR a3 w1 ?_;refine aq.intro (fG x.pt.size (hs+1) 256) ?_;cases a4:aS x.pt.size (hs+1) 256 with
    | false=>
     have hf:gW hs l i=false:=by rw[cB];simp[a1,a3,a4]
     rw[hb hf];exact wH a4
    | true=>
     cases i with
     | zero=>
      have q0:¬(((0:Nat):Int)>0):=by decide
      have hf:gW hs l 0=true:=by rw[cB];simp[a1,a3,a4]
      simp -implicitDefEqProofs only[go_sem,a4,q0,hw,d7,Bool.false_eq_true];exact⟨_,by omega,0+1,⟨ab,fun k hk=>by rcases Nat.lt_succ_iff_lt_or_eq.1 hk with hk|rfl;exact gE k hk;exact hf⟩,rfl,rfl⟩
     | succ j=>
      have q0:(((j+1:Nat):Int)>0):=by omega
      have w5:IntKind.i64.wrap (((j+1:Nat):Int) - 1)=(j:Int):=by rw[aN (by unfold maxLen at hl;omega)];omega
      have hj:j<l.length:=by omega
      have iV:(j:Int)<(l.length:Int):=by omega
      have xZ:l[j]?=some l[j]:=bm hj;simp only[xZ]at cB;generalize l[j]=y at *;by_cases a2:y.bh>=x.bh
      ·have uE:decide (y.bh<x.bh)=false:=decide_eq_false (by omega);have hf:gW hs l (j+1)=false:=by rw[cB];simp[a1,uE,a3,a4]
       rw[hb hf];simp -implicitDefEqProofs only[go_sem,a4,q0,w5,iV,xZ,a2,d7,Bool.false_eq_true]
      have uE:decide (y.bh<x.bh)=true:=decide_eq_true (by omega);have hf:gW hs l (j+1)=true:=by rw[cB];simp[a1,uE,a3,a4]
      simp -implicitDefEqProofs only[go_sem,a4,q0,w5,iV,xZ,a2,hw,d7,Bool.false_eq_true];exact⟨_,by omega,j+1+1,⟨ab,fun k hk=>by rcases Nat.lt_succ_iff_lt_or_eq.1 hk with hk|rfl;exact gE k hk;exact hf⟩,rfl,rfl⟩
 have hi:i=l.length:=by omega
 subst hi;have ah:¬((l.length:Int)<(l.length:Int)):=by omega
 rw[K5 gE,decide_eq_true h8];exact eE ah
end Go.Proofs.YtobpfkgabdeefaaGreat.E
