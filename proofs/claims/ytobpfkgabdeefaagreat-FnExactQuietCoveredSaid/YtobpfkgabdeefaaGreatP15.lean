/- Contracts: wishes; witnesses that are ok. -/
import Derived.Test.YtobpfkgabdeefaaGreatP13
import Derived.Test.YtobpfkgabdeefaaGreatP14
namespace Go.Proofs.YtobpfkgabdeefaaGreat.E
open Go Go.RowKit
set_option maxHeartbeats 4000000
set_option maxRecDepth 10000
set_option linter.unusedSimpArgs false
set_option linter.unusedVariables false
set_option linter.unusedSectionVars false
def Hh:bX:=⟨[],[9,10,11],[24,26,30,44,47,50,51,52,57,58,59,62,76,88,138,185,186,187,253,254,297,311],false⟩
structure bG where
 br:Int
 bR:Int
 pt:bh
def bG.cs (x:bG):List AV:=[vI x.br,vI x.bR,vI x.pt.size,vU x.pt.root.a,vU x.pt.root.b,vU x.pt.root.c,vU x.pt.root.d]
attribute [go_sem] bG.cs
theorem bG.wide (l:List bG):fp 7 (l.map bG.cs)=true:=by
 induction l with
 | nil=>rfl
 | cons a l ih=>simp only[List.map_cons,fp,ih,bG.cs];rfl
theorem bG.flat (l:List bG):dx (l.map bG.cs)=2:=by
 induction l with
 | nil=>rfl
 | cons a l ih=>simp only[List.map_cons,dx,ih,bG.cs];rfl
attribute [go_sem] bG.wide bG.flat
theorem ec.wide (l:List ec):fp 13 (l.map ec.cs)=true:=by
 induction l with
 | nil=>rfl
 | cons a l ih=>simp only[List.map_cons,fp,ih,ec.cs];rfl
theorem ec.flat (l:List ec):dx (l.map ec.cs)=2:=by
 induction l with
 | nil=>rfl
 | cons a l ih=>simp only[List.map_cons,dx,ih,ec.cs];rfl
attribute [go_sem] ec.wide ec.flat
theorem DJ (l:List bG) (hl:l.length * 56≤140737488355328):aR Tryz.prog 120 [.ro 7 (l.map bG.cs)] (.au 0 0 [] 7 0 l.length) [([],⟨7,l.map bG.cs,2,false⟩)]:=by
 refine aA Hh false Tryz.f120 ?_;conv=>enter[1];reduce
 refine bf Tryz.f120 14 [.tmp 2] (by kernel_rfl) (by decide +kernel) rfl ?_;refine aw ?_;refine b8 (fun h=>?_) (fun h=>?_)
 ·have:l=[]:=by simpa using h
  subst this;exact dt
 have hm:=mm hl (by omega);have hJ:((56:Nat):Int) * (l.length:Int)≤281474976710656∧(l.length:Int)≤9223372036854775807:=by unfold maxLen at hm;omega
 exact rN h hJ
theorem DB (l:List ec) (hl:l.length * 104≤140737488355328):aR Tryz.prog 216 [.ro 13 (l.map ec.cs)] (.au 0 0 [] 13 0 l.length) [([],⟨13,l.map ec.cs,2,false⟩)]:=by
 refine aA Hh false Tryz.f216 ?_;conv=>enter[1];reduce
 refine bf Tryz.f216 14 [.tmp 2] (by kernel_rfl) (by decide +kernel) rfl ?_;refine aw ?_;refine b8 (fun h=>?_) (fun h=>?_)
 ·have:l=[]:=by simpa using h
  subst this;exact dt
 have hm:=mm hl (by omega);have hJ:((104:Nat):Int) * (l.length:Int)≤281474976710656∧(l.length:Int)≤9223372036854775807:=by unfold maxLen at hm;omega
 exact rN h hJ
theorem ae5:aR Tryz.prog 216 [.aG] (.au 0 0 [] 13 0 0) [([],⟨13,[],2,false⟩)]:=
 (DB [] (by simp)).arg fun rd vs h=>by
  obtain⟨v,us,rfl,hr,hp⟩:=h.kI;have:us=[]:=List.eq_nil_of_length_eq_zero hp.1.symm;subst this;exact PW.cons (hr.wk (.inr ⟨rfl,13,rfl⟩)) PW.nil
structure bE where
 aH:cS
 aS:List bG
def bE.cs (w:bE) (l:AV):List AV:=w.aH.cs++[l]
def bE.ro (w:bE):AV:=.agg (w.cs (.ro 7 (w.aS.map bG.cs)))
attribute [go_sem] bE.cs bE.ro
def gD (h:Int) (l:List bG) (i:Nat):Bool:=match l[i]? with
 | some x=>aT x.br 1 20&&((match i with
  | 0=>true
  | j+1=>match l[j]? with
   | some y=>decide (y.br<x.br)
   | none=>true)&&(aT x.bR 1 1000000&&aT x.pt.size (h+1) 256))
 | none=>true
def iE (w:bE):Bool:=decide (w.aS.length≤8)&&(List.range w.aS.length).all fun i=>gD (cH w.aH).size w.aS i
theorem Oq {w:bE}{i:Nat}(hi:i<w.aS.length) (h:gD (cH w.aH).size w.aS i=false):iE w=false:=by
 unfold iE;rw[Bool.and_eq_false_iff];right;rw[List.all_eq_false];exact⟨i,List.mem_range.2 hi,by rw[h];decide⟩
theorem Oo {w:bE}(h:∀j,j<w.aS.length→gD (cH w.aH).size w.aS j=true):iE w=decide (w.aS.length≤8):=by
 unfold iE;have:((List.range w.aS.length).all fun i=>gD (cH w.aH).size w.aS i)=true:=by
  rw[List.all_eq_true];exact fun j hj=>h j (List.mem_range.1 hj)
 rw[this,Bool.and_true]
theorem agl (w:bE) (h:w.aH.ok) (hl:w.aS.length≤maxLen):aR Tryz.prog 213 [w.ro] (vB (iE w)) []:=by
 refine aA Hh false Tryz.f213 ?_;conv=>enter[1];reduce
 refine bf Tryz.f213 58 [.tmp 2] (by kernel_rfl) (by decide +kernel) rfl ?_;have hH:=Hw w.aH h;have re:=FX w.aH;have LH:=@Oq w;have Le:=@Oo w;obtain⟨aH,l⟩:=w;simp only at *;generalize cH aH=H at *;obtain⟨hs,hr⟩:=H;simp only at *;have w1:IntKind.i64.wrap (hs+1)=hs+1:=aV (by omega);refine aw ?_;refine cz hH ?_;refine cR (fun m z=>∃i,(i≤l.length∧∀j,j<i→gD hs l j=true)∧m=l.length - i∧z=⟨58,[(1,.ptr 1 0 [] 15 0 0),(3,.ptr 3 0 [] 5 0 0),(10,.ro 7 (l.map bG.cs)),(11,vI l.length),(12,vI i)],[(1,0,one ⟨15,[bE.cs ⟨aH,l⟩ (.ro 7 (l.map bG.cs))],0,false⟩),(3,0,one ⟨5,[bh.cs ⟨hs,hr⟩],0,false⟩)],1⟩) l.length ?_ ?_
 ·refine aw ?_;exact⟨0,⟨aQ _,fun j hj=>absurd hj (Nat.not_lt_zero _)⟩,rfl,rfl⟩
 rintro m z ⟨i,⟨hi,gh⟩,rfl,rfl⟩;rcases bm i l.length with ab|bH
 ·have ae:(i:Int)<(l.length:Int):=by omega
  have hg:l[i]?=some l[i]:=bz ab;have hw:=df ab hl;have hb:=LH ab;have cj:gD hs l i=gD hs l i:=rfl;conv at cj=>rhs;unfold gD
  rw[hg]at cj;simp only at cj;generalize l[i]=x at *;refine yQ ae hg ?_;refine aq.intro (dG x.br 1 20) ?_;cases a1:aT x.br 1 20 with
  | false=>
   have hf:gD hs l i=false:=by rw[cj];simp[a1]
   rw[hb hf];exact wm a1
  | true=>
   cases i with
   | zero=>
    have q0:¬(((0:Nat):Int)>0):=by decide
    simp -implicitDefEqProofs only[go_sem,a1,q0,eZ,Bool.false_eq_true];refine aq.intro (dG x.bR 1 1000000) ?_;cases a3:aT x.bR 1 1000000 with
    | false=>
     have hf:gD hs l 0=false:=by rw[cj];simp[a1,a3]
     rw[hb hf];simp -implicitDefEqProofs only[go_sem,a3,q0,eZ,Bool.false_eq_true]
    | true=>
     refine o0 a3 w1 ?_;refine aq.intro (dG x.pt.size (hs+1) 256) ?_;cases a4:aT x.pt.size (hs+1) 256 with
     | false=>
      have hf:gD hs l 0=false:=by rw[cj];simp[a1,a3,a4]
      rw[hb hf];exact wm a4
     | true=>
      have hf:gD hs l 0=true:=by rw[cj];simp[a1,a3,a4]
      refine yP a4 w1 hw q0 ?_;exact⟨_,by omega,0+1,⟨ab,fun k hk=>by rcases Nat.lt_succ_iff_lt_or_eq.1 hk with hk|rfl;exact gh k hk;exact hf⟩,rfl,rfl⟩
   | succ j=>
    have q0:(((j+1:Nat):Int)>0):=by omega
    have w5:IntKind.i64.wrap (((j+1:Nat):Int) - 1)=(j:Int):=by rw[aV (by unfold maxLen at hl;omega)];omega
    have hj:j<l.length:=by omega
    have iH:(j:Int)<(l.length:Int):=by omega
    have x9:l[j]?=some l[j]:=bz hj;simp only[x9]at cj;generalize l[j]=y at *;by_cases a2:y.br≥x.br
    ·have uz:decide (y.br<x.br)=false:=decide_eq_false (by omega);have hf:gD hs l (j+1)=false:=by rw[cj];simp[a1,uz]
     rw[hb hf];simp -implicitDefEqProofs only[go_sem,a1,q0,w5,iH,x9,a2,eZ,Bool.false_eq_true]
    have uz:decide (y.br<x.br)=true:=decide_eq_true (by omega);simp -implicitDefEqProofs only[go_sem,a1,q0,w5,iH,x9,a2,eZ,Bool.false_eq_true];refine aq.intro (dG x.bR 1 1000000) ?_;cases a3:aT x.bR 1 1000000 with
    | false=>
     have hf:gD hs l (j+1)=false:=by rw[cj];simp[a1,uz,a3]
     rw[hb hf];simp -implicitDefEqProofs only[go_sem,a3,a1,eZ,Bool.false_eq_true]
    | true=>
     refine o0 a3 w1 ?_;refine aq.intro (dG x.pt.size (hs+1) 256) ?_;cases a4:aT x.pt.size (hs+1) 256 with
     | false=>
      have hf:gD hs l (j+1)=false:=by rw[cj];simp[a1,uz,a3,a4]
      rw[hb hf];exact wm a4
     | true=>
      have hf:gD hs l (j+1)=true:=by rw[cj];simp[a1,uz,a3,a4]
      refine yP a4 w1 hw a1 ?_;exact⟨_,by omega,(j+1)+1,⟨ab,fun k hk=>by rcases Nat.lt_succ_iff_lt_or_eq.1 hk with hk|rfl;exact gh k hk;exact hf⟩,rfl,rfl⟩
 have hi:i=l.length:=by omega
 subst hi;have ae:¬((l.length:Int)<(l.length:Int)):=by omega
 rw[Le gh];have e8:decide ((l.length:Int)≤8)=decide (l.length≤8):=by simp only[decide_eq_decide];omega
 exact dk ae e8
theorem afG (w:bE) (h:w.aH.ok) (hl:w.aS.length≤maxLen):aR Tryz.prog 38 [w.ro] (vB (iE w)) []:=by
 refine aA Hh false Tryz.f38 ?_;conv=>enter[1];reduce
 refine bf Tryz.f38 59 [.tmp 2] (by kernel_rfl) (by decide +kernel) rfl ?_;have hH:=Dw w.aH h;have re:=FX w.aH;have LH:=@Oq w;have Le:=@Oo w;obtain⟨aH,l⟩:=w;simp only at *;generalize cH aH=H at *;obtain⟨hs,hr⟩:=H;simp only at *;have w1:IntKind.i64.wrap (hs+1)=hs+1:=aV (by omega);rcases bm 8 l.length with h8|h8
 ·have CT:(l.length:Int)>8:=by omega
  have e8:iE ⟨aH,l⟩=false:=by unfold iE;rw[decide_eq_false (by show ¬l.length≤8;omega)];rfl
  rw[e8];exact A2 CT
 have CT:¬((l.length:Int)>8):=by omega
 refine o4 CT ?_;refine cz hH ?_;refine cR (fun m z=>∃i,(i≤l.length∧∀j,j<i→gD hs l j=true)∧m=l.length - i∧z=⟨59,[(1,.ptr 1 0 [] 15 0 0),(3,.ptr 3 0 [] 5 0 0),(4,vI i)],[(1,0,one ⟨15,[bE.cs ⟨aH,l⟩ (.ro 7 (l.map bG.cs))],0,false⟩),(3,0,one ⟨5,[bh.cs ⟨hs,hr⟩],0,false⟩)],1⟩) l.length ?_ ?_
 ·refine aw ?_;exact⟨0,⟨aQ _,fun j hj=>absurd hj (Nat.not_lt_zero _)⟩,rfl,rfl⟩
 rintro m z ⟨i,⟨hi,gh⟩,rfl,rfl⟩;rcases bm i l.length with ab|bH
 ·have ae:(i:Int)<(l.length:Int):=by omega
  have hg:l[i]?=some l[i]:=bz ab;have hw:=df ab hl;have hb:=LH ab;have cj:gD hs l i=gD hs l i:=rfl;conv at cj=>rhs;unfold gD
  rw[hg]at cj;simp only at cj;generalize l[i]=x at *;refine yQ ae hg ?_;refine aq.intro (e9 x.br 1 20) ?_;cases a1:aT x.br 1 20 with
  | false=>
   have hf:gD hs l i=false:=by rw[cj];simp[a1]
   rw[hb hf];exact wm a1
  | true=>
   refine o4 a1 ?_;refine aq.intro (e9 x.bR 1 1000000) ?_;cases a3:aT x.bR 1 1000000 with
   | false=>
    have hf:gD hs l i=false:=by rw[cj];simp[a1,a3]
    rw[hb hf];exact wm a3
   | true=>
    refine o0 a3 w1 ?_;refine aq.intro (e9 x.pt.size (hs+1) 256) ?_;cases a4:aT x.pt.size (hs+1) 256 with
    | false=>
     have hf:gD hs l i=false:=by rw[cj];simp[a1,a3,a4]
     rw[hb hf];exact wm a4
    | true=>
     cases i with
     | zero=>
      have q0:¬(((0:Nat):Int)>0):=by decide
      have hf:gD hs l 0=true:=by rw[cj];simp[a1,a3,a4]
      simp -implicitDefEqProofs only[go_sem,a4,q0,hw,eZ,Bool.false_eq_true];exact⟨_,by omega,0+1,⟨ab,fun k hk=>by rcases Nat.lt_succ_iff_lt_or_eq.1 hk with hk|rfl;exact gh k hk;exact hf⟩,rfl,rfl⟩
     | succ j=>
      have q0:(((j+1:Nat):Int)>0):=by omega
      have w5:IntKind.i64.wrap (((j+1:Nat):Int) - 1)=(j:Int):=by rw[aV (by unfold maxLen at hl;omega)];omega
      have hj:j<l.length:=by omega
      have iH:(j:Int)<(l.length:Int):=by omega
      have x9:l[j]?=some l[j]:=bz hj;simp only[x9]at cj;generalize l[j]=y at *;by_cases a2:y.br≥x.br
      ·have uz:decide (y.br<x.br)=false:=decide_eq_false (by omega);have hf:gD hs l (j+1)=false:=by rw[cj];simp[a1,uz,a3,a4]
       rw[hb hf];simp -implicitDefEqProofs only[go_sem,a4,q0,w5,iH,x9,a2,eZ,Bool.false_eq_true]
      have uz:decide (y.br<x.br)=true:=decide_eq_true (by omega);have hf:gD hs l (j+1)=true:=by rw[cj];simp[a1,uz,a3,a4]
      simp -implicitDefEqProofs only[go_sem,a4,q0,w5,iH,x9,a2,hw,eZ,Bool.false_eq_true];exact⟨_,by omega,j+1+1,⟨ab,fun k hk=>by rcases Nat.lt_succ_iff_lt_or_eq.1 hk with hk|rfl;exact gh k hk;exact hf⟩,rfl,rfl⟩
 have hi:i=l.length:=by omega
 subst hi;have ae:¬((l.length:Int)<(l.length:Int)):=by omega
 rw[Le gh,decide_eq_true h8];exact er ae
end Go.Proofs.YtobpfkgabdeefaaGreat.E
