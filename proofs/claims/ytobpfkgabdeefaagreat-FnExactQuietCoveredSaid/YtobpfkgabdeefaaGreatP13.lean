/- Contracts: the raw writes that keep a point; Plain law: what a disk says behind the raw writes that keep a point; Plain law: disks stay within their words; what a disk holds, wherever its raw writes and its mending are cut; Contracts: the mending of a disk; raw writes that are cut -/
import Derived.Test.YtobpfkgabdeefaaGreatP12
import Derived.Test.YtobpfkgabdeefaaGreatP9
namespace Go.Proofs.YtobpfkgabdeefaaGreat.E
open Go Go.RowKit
set_option linter.unusedSimpArgs false
set_option linter.unusedVariables false
section
set_option maxHeartbeats 4000000
set_option maxRecDepth 10000
set_option linter.unusedSectionVars false
def Mk:bX:=⟨[(230,.cm [true])],[9,10,11],[24,26,30,44,47,50,51,52,57,58,59,62,76,88,138,185,186,187,253,254,297,311],false⟩
def wM (d:cS):Int:=if (ea d).2=1 then 2 else 1
def iX (d:cS) (size:Int) (root:aW):dM:=⟨0,((ea d).1.seq+1).toNat,size.toNat,root⟩
def eU (to:Int) (s:dM) (S:Nat):List cL:=[⟨to,0,0⟩,⟨to,1,s.seq⟩,⟨to,2,s.size⟩,⟨to,3,s.root.a⟩,⟨to,4,s.root.b⟩,⟨to,5,s.root.c⟩,⟨to,6,s.root.d⟩,⟨to,0,S⟩]
theorem uZ (d:cS) (size:Int) (root:aW):jA d size root=if aT size 1 256=true∧(ea d).1.seq≠1000000000 then eU (wM d) (iX d size root) (kb (iX d size root)) else []:=rfl
theorem P0 {d:cS}{size:Int}{root:aW}(hr:root.ok) (hs:aT size 1 256=true):(iX d size root).ok:=by
 have:=B4 d;have:=cf.1 hs;exact⟨by show 0<_;omega,by show((ea d).1.seq+1).toNat<_;omega,by show size.toNat<_;omega,hr⟩
theorem cL.wide (l:List cL):fp 3 (l.map cL.cs)=true:=by
 induction l with
 | nil=>rfl
 | cons a l ih=>simp only[List.map_cons,fp,ih,cL.cs];rfl
theorem cL.flat (l:List cL):dx (l.map cL.cs)=2:=by
 induction l with
 | nil=>rfl
 | cons a l ih=>simp only[List.map_cons,dx,ih,cL.cs];rfl
attribute [go_sem] cL.wide cL.flat
theorem afY (d:cS) (size:Int) (root:aW) (h:d.ok) (hr:root.ok):aR Tryz.prog 276 [.agg d.cs,vI size,.agg root.cs] (.au 0 0 [] 3 0 (jA d size root).length) [([],⟨3,(jA d size root).map cL.cs,2,false⟩)]:=by
 refine aA Mk false Tryz.f276 ?_;conv=>enter[1];reduce
 refine bf Tryz.f276 66 [.tmp 6] (by kernel_rfl) (by decide +kernel) rfl ?_;have m9:=UM d h;have cc:=e9 size 1 256;have aF:=fun hs=>Vu (iX d size root) (P0 (d:=d) hr hs)
 have re:=B4 d;rw[uZ];generalize hS:kb (iX d size root)=S at *;unfold iX wM at *;generalize ea d=R at *;obtain⟨r,a⟩:=R;simp only at re aF ⊢;refine aw ?_;refine cz m9 ?_;refine aq.intro cc ?_;cases hi:aT size 1 256 with
 | false=>
  simp -implicitDefEqProofs only[go_sem,Bool.not_false,bc,Bool.false_eq_true,false_and,if_false]
 | true=>
  have ki:=cf.1 hi;have aF:=aF hi;by_cases q:r.seq=1000000000
  ·have q':r.seq≥1000000000:=by omega
   simp -implicitDefEqProofs only[go_sem,q,q',Bool.not_true,bc,ne_eq,not_true_eq_false,and_false,if_false]
  have q':¬r.seq≥1000000000:=by omega
  have w1:IntKind.i64.wrap (r.seq+1)=r.seq+1:=aV (by omega);have w2:IntKind.u64.wrap (r.seq+1)=((r.seq+1).toNat:Int):=by rw[wU];omega
  have w3:IntKind.u64.wrap size=(size.toNat:Int):=by rw[wU];omega
  by_cases e:a=1
  ·subst e;simp -implicitDefEqProofs only[go_sem,q,q',w1,w2,w3,Bool.not_true,bc,ne_eq,not_false_eq_true,and_true,if_true,beq_self_eq_true];refine aq.intro aF ?_;simp -implicitDefEqProofs only[go_sem,eU];rfl
  have e':(a==1)=false:=beq_eq_false_iff_ne.2 e;simp -implicitDefEqProofs only[go_sem,q,q',e,e',w1,w2,w3,Bool.not_true,bc,ne_eq,not_false_eq_true,and_true,if_true,beq_self_eq_true];refine aq.intro aF ?_;simp -implicitDefEqProofs only[go_sem,eU];rfl
theorem M5 (l:List cL) (hl:l.length * 24≤140737488355328):aR Tryz.prog 231 [.ro 3 (l.map cL.cs)] (.au 0 0 [] 3 0 l.length) [([],⟨3,l.map cL.cs,2,false⟩)]:=by
 refine aA Mk false Tryz.f231 ?_;conv=>enter[1];reduce
 refine bf Tryz.f231 14 [.tmp 2] (by kernel_rfl) (by decide +kernel) rfl ?_;refine aw ?_;refine b8 (fun h=>?_) (fun h=>?_)
 ·have:l=[]:=by simpa using h
  subst this;exact dt
 have hm:=mm hl (by omega);have hJ:((24:Nat):Int) * (l.length:Int)≤281474976710656∧(l.length:Int)≤9223372036854775807:=by unfold maxLen at hm;omega
 exact rN h hJ
theorem af4 (d:cS) (size:Int) (root:aW) (h:d.ok):aR Tryz.prog 262 [.agg d.cs,vI size,.agg root.cs] (.au 0 0 [] 3 0 (jA d size root).length) [([],⟨3,(jA d size root).map cL.cs,2,false⟩)]:=by
 refine aA Mk false Tryz.f262 ?_;conv=>enter[1];reduce
 refine bf Tryz.f262 68 [.tmp 6] (by kernel_rfl) (by decide +kernel) rfl ?_;have m9:=UL d h;have cc:=dG size 1 256;have aF:=Vt (iX d size root);have re:=B4 d;rw[uZ];generalize hS:kb (iX d size root)=S at *;unfold iX wM at *;generalize ea d=R at *;obtain⟨r,a⟩:=R;simp only at re aF ⊢;refine aw ?_;refine cz m9 ?_;refine aq.intro cc ?_;cases hi:aT size 1 256 with
 | false=>
  simp -implicitDefEqProofs only[go_sem,Bool.not_false,bc,Bool.false_eq_true,false_and,if_false]
 | true=>
  have ki:=cf.1 hi;by_cases q:r.seq=1000000000
  ·have q':(r.seq==1000000000)=true:=by rw[q];rfl
   simp -implicitDefEqProofs only[go_sem,q,q',Bool.not_true,bc,ne_eq,not_true_eq_false,and_false,if_false]
  have q':(r.seq==1000000000)=false:=beq_eq_false_iff_ne.2 q;have w1:IntKind.i64.wrap (r.seq+1)=r.seq+1:=aV (by omega);have w2:IntKind.u64.wrap (r.seq+1)=((r.seq+1).toNat:Int):=by rw[wU];omega
  have w3:IntKind.u64.wrap size=(size.toNat:Int):=by rw[wU];omega
  by_cases e:a=1
  ·subst e;simp -implicitDefEqProofs only[go_sem,q,q',w1,w2,w3,Bool.not_true,bc,ne_eq,not_false_eq_true,and_true,if_true,beq_self_eq_true];refine cz aF ?_;refine eP (A6 ⟨S,(r.seq+1).toNat,size.toNat,root⟩) ?_;refine cR (fun m z=>∃i:Nat,(1≤i∧i≤7)∧m=7 - i∧z=⟨68,[(9,vI 2),(10,.ptr 10 0 [] 7 0 0),(11,.au 11 0 [] 3 0 ((eU 2 ⟨0,(r.seq+1).toNat,size.toNat,root⟩ S).take i).length),(12,.au 12 0 [] 1 0 7),(13,vI i)],[(10,0,one ⟨7,[dM.cs ⟨S,(r.seq+1).toNat,size.toNat,root⟩],0,false⟩),(11,0,one ⟨3,((eU 2 ⟨0,(r.seq+1).toNat,size.toNat,root⟩ S).take i).map cL.cs,2,false⟩),(12,0,one ⟨1,tC 7 10 0,0,false⟩)],1⟩) 6 ?_ ?_
   ·refine aw ?_;exact⟨1,by omega,rfl,rfl⟩
   rintro m z ⟨i,hi,rfl,rfl⟩;have fK:i=1∨i=2∨i=3∨i=4∨i=5∨i=6∨i=7:=by omega
   rcases fK with rfl|rfl|rfl|rfl|rfl|rfl|rfl
   ·have h1:((1:Nat):Int)≤6:=by decide
    have h2:((1:Nat):Int)<((7:Nat):Int):=by decide
    have w4:IntKind.i64.wrap (((1:Nat):Int)+1)=((2:Nat):Int):=by decide
    have ha:∀x,_:=fun x=>du (E:=cL.cs) (l:=(eU 2 ⟨0,(r.seq+1).toNat,size.toNat,root⟩ S).take 1) (xs:=[x]) (b:=24) (n:=100) (by simp[eU]) (by omega) (by omega)
    refine eI h1 h2 w4 ha ?_;exact⟨6 - 1,by omega,2,by omega,rfl,rfl⟩
   ·have h1:((2:Nat):Int)≤6:=by decide
    have h2:((2:Nat):Int)<((7:Nat):Int):=by decide
    have w4:IntKind.i64.wrap (((2:Nat):Int)+1)=((3:Nat):Int):=by decide
    have ha:∀x,_:=fun x=>du (E:=cL.cs) (l:=(eU 2 ⟨0,(r.seq+1).toNat,size.toNat,root⟩ S).take 2) (xs:=[x]) (b:=24) (n:=100) (by simp[eU]) (by omega) (by omega)
    refine eI h1 h2 w4 ha ?_;exact⟨6 - 2,by omega,3,by omega,rfl,rfl⟩
   ·have h1:((3:Nat):Int)≤6:=by decide
    have h2:((3:Nat):Int)<((7:Nat):Int):=by decide
    have w4:IntKind.i64.wrap (((3:Nat):Int)+1)=((4:Nat):Int):=by decide
    have ha:∀x,_:=fun x=>du (E:=cL.cs) (l:=(eU 2 ⟨0,(r.seq+1).toNat,size.toNat,root⟩ S).take 3) (xs:=[x]) (b:=24) (n:=100) (by simp[eU]) (by omega) (by omega)
    refine eI h1 h2 w4 ha ?_;exact⟨6 - 3,by omega,4,by omega,rfl,rfl⟩
   ·have h1:((4:Nat):Int)≤6:=by decide
    have h2:((4:Nat):Int)<((7:Nat):Int):=by decide
    have w4:IntKind.i64.wrap (((4:Nat):Int)+1)=((5:Nat):Int):=by decide
    have ha:∀x,_:=fun x=>du (E:=cL.cs) (l:=(eU 2 ⟨0,(r.seq+1).toNat,size.toNat,root⟩ S).take 4) (xs:=[x]) (b:=24) (n:=100) (by simp[eU]) (by omega) (by omega)
    refine eI h1 h2 w4 ha ?_;exact⟨6 - 4,by omega,5,by omega,rfl,rfl⟩
   ·have h1:((5:Nat):Int)≤6:=by decide
    have h2:((5:Nat):Int)<((7:Nat):Int):=by decide
    have w4:IntKind.i64.wrap (((5:Nat):Int)+1)=((6:Nat):Int):=by decide
    have ha:∀x,_:=fun x=>du (E:=cL.cs) (l:=(eU 2 ⟨0,(r.seq+1).toNat,size.toNat,root⟩ S).take 5) (xs:=[x]) (b:=24) (n:=100) (by simp[eU]) (by omega) (by omega)
    refine eI h1 h2 w4 ha ?_;exact⟨6 - 5,by omega,6,by omega,rfl,rfl⟩
   ·have h1:((6:Nat):Int)≤6:=by decide
    have h2:((6:Nat):Int)<((7:Nat):Int):=by decide
    have w4:IntKind.i64.wrap (((6:Nat):Int)+1)=((7:Nat):Int):=by decide
    have ha:∀x,_:=fun x=>du (E:=cL.cs) (l:=(eU 2 ⟨0,(r.seq+1).toNat,size.toNat,root⟩ S).take 6) (xs:=[x]) (b:=24) (n:=100) (by simp[eU]) (by omega) (by omega)
    refine eI h1 h2 w4 ha ?_;exact⟨6 - 6,by omega,7,by omega,rfl,rfl⟩
   have h1:¬(((7:Nat):Int)≤6):=by decide
   have ha:∀x,_:=fun x=>du (E:=cL.cs) (l:=(eU 2 ⟨0,(r.seq+1).toNat,size.toNat,root⟩ S).take 7) (xs:=[x]) (b:=24) (n:=100) (by simp[eU]) (by omega) (by omega)
   refine cg h1 ha ?_;refine aq.intro (M5 (eU 2 ⟨0,(r.seq+1).toNat,size.toNat,root⟩ S) (by show 8 * 24≤_;decide)) ?_;exact dt
  have e':(a==1)=false:=beq_eq_false_iff_ne.2 e;simp -implicitDefEqProofs only[go_sem,q,q',e,e',w1,w2,w3,Bool.not_true,bc,ne_eq,not_false_eq_true,and_true,if_true,beq_self_eq_true];refine cz aF ?_;refine eP (A6 ⟨S,(r.seq+1).toNat,size.toNat,root⟩) ?_;refine cR (fun m z=>∃i:Nat,(1≤i∧i≤7)∧m=7 - i∧z=⟨68,[(9,vI 1),(10,.ptr 10 0 [] 7 0 0),(11,.au 11 0 [] 3 0 ((eU 1 ⟨0,(r.seq+1).toNat,size.toNat,root⟩ S).take i).length),(12,.au 12 0 [] 1 0 7),(13,vI i)],[(10,0,one ⟨7,[dM.cs ⟨S,(r.seq+1).toNat,size.toNat,root⟩],0,false⟩),(11,0,one ⟨3,((eU 1 ⟨0,(r.seq+1).toNat,size.toNat,root⟩ S).take i).map cL.cs,2,false⟩),(12,0,one ⟨1,tC 7 10 0,0,false⟩)],1⟩) 6 ?_ ?_
  ·refine aw ?_;exact⟨1,by omega,rfl,rfl⟩
  rintro m z ⟨i,hi,rfl,rfl⟩;have fK:i=1∨i=2∨i=3∨i=4∨i=5∨i=6∨i=7:=by omega
  rcases fK with rfl|rfl|rfl|rfl|rfl|rfl|rfl
  ·have h1:((1:Nat):Int)≤6:=by decide
   have h2:((1:Nat):Int)<((7:Nat):Int):=by decide
   have w4:IntKind.i64.wrap (((1:Nat):Int)+1)=((2:Nat):Int):=by decide
   have ha:∀x,_:=fun x=>du (E:=cL.cs) (l:=(eU 1 ⟨0,(r.seq+1).toNat,size.toNat,root⟩ S).take 1) (xs:=[x]) (b:=24) (n:=100) (by simp[eU]) (by omega) (by omega)
   refine eI h1 h2 w4 ha ?_;exact⟨6 - 1,by omega,2,by omega,rfl,rfl⟩
  ·have h1:((2:Nat):Int)≤6:=by decide
   have h2:((2:Nat):Int)<((7:Nat):Int):=by decide
   have w4:IntKind.i64.wrap (((2:Nat):Int)+1)=((3:Nat):Int):=by decide
   have ha:∀x,_:=fun x=>du (E:=cL.cs) (l:=(eU 1 ⟨0,(r.seq+1).toNat,size.toNat,root⟩ S).take 2) (xs:=[x]) (b:=24) (n:=100) (by simp[eU]) (by omega) (by omega)
   refine eI h1 h2 w4 ha ?_;exact⟨6 - 2,by omega,3,by omega,rfl,rfl⟩
  ·have h1:((3:Nat):Int)≤6:=by decide
   have h2:((3:Nat):Int)<((7:Nat):Int):=by decide
   have w4:IntKind.i64.wrap (((3:Nat):Int)+1)=((4:Nat):Int):=by decide
   have ha:∀x,_:=fun x=>du (E:=cL.cs) (l:=(eU 1 ⟨0,(r.seq+1).toNat,size.toNat,root⟩ S).take 3) (xs:=[x]) (b:=24) (n:=100) (by simp[eU]) (by omega) (by omega)
   refine eI h1 h2 w4 ha ?_;exact⟨6 - 3,by omega,4,by omega,rfl,rfl⟩
  ·have h1:((4:Nat):Int)≤6:=by decide
   have h2:((4:Nat):Int)<((7:Nat):Int):=by decide
   have w4:IntKind.i64.wrap (((4:Nat):Int)+1)=((5:Nat):Int):=by decide
   have ha:∀x,_:=fun x=>du (E:=cL.cs) (l:=(eU 1 ⟨0,(r.seq+1).toNat,size.toNat,root⟩ S).take 4) (xs:=[x]) (b:=24) (n:=100) (by simp[eU]) (by omega) (by omega)
   refine eI h1 h2 w4 ha ?_;exact⟨6 - 4,by omega,5,by omega,rfl,rfl⟩
  ·have h1:((5:Nat):Int)≤6:=by decide
   have h2:((5:Nat):Int)<((7:Nat):Int):=by decide
   have w4:IntKind.i64.wrap (((5:Nat):Int)+1)=((6:Nat):Int):=by decide
   have ha:∀x,_:=fun x=>du (E:=cL.cs) (l:=(eU 1 ⟨0,(r.seq+1).toNat,size.toNat,root⟩ S).take 5) (xs:=[x]) (b:=24) (n:=100) (by simp[eU]) (by omega) (by omega)
   refine eI h1 h2 w4 ha ?_;exact⟨6 - 5,by omega,6,by omega,rfl,rfl⟩
  ·have h1:((6:Nat):Int)≤6:=by decide
   have h2:((6:Nat):Int)<((7:Nat):Int):=by decide
   have w4:IntKind.i64.wrap (((6:Nat):Int)+1)=((7:Nat):Int):=by decide
   have ha:∀x,_:=fun x=>du (E:=cL.cs) (l:=(eU 1 ⟨0,(r.seq+1).toNat,size.toNat,root⟩ S).take 6) (xs:=[x]) (b:=24) (n:=100) (by simp[eU]) (by omega) (by omega)
   refine eI h1 h2 w4 ha ?_;exact⟨6 - 6,by omega,7,by omega,rfl,rfl⟩
  have h1:¬(((7:Nat):Int)≤6):=by decide
  have ha:∀x,_:=fun x=>du (E:=cL.cs) (l:=(eU 1 ⟨0,(r.seq+1).toNat,size.toNat,root⟩ S).take 7) (xs:=[x]) (b:=24) (n:=100) (by simp[eU]) (by omega) (by omega)
  refine cg h1 ha ?_;refine aq.intro (M5 (eU 1 ⟨0,(r.seq+1).toNat,size.toNat,root⟩ S) (by show 8 * 24≤_;decide)) ?_;exact dt
end
theorem Io (d:cS) (s:dM) (S:Nat):ep d (eU 1 s S)={d with one:=⟨S,s.seq,s.size,s.root⟩}:=rfl
theorem Od (d:cS) (s:dM) (S:Nat):ep d (eU 2 s S)={d with two:=⟨S,s.seq,s.size,s.root⟩}:=rfl
theorem aaV {d:cS}{size:Int}{root:aW}(h:aT size 1 256=true) (hq:(ea d).1.seq≠1000000000):
  fX ⟨kb (iX d size root),(iX d size root).seq,(iX d size root).size,(iX d size root).root⟩=true:=by
 have hb:=B4 d;have hi:=cf.1 h;have e:kb ⟨kb (iX d size root),(iX d size root).seq,(iX d size root).size,(iX d size root).root⟩=kb (iX d size root):=rfl;have e1:(iX d size root).seq=((ea d).1.seq+1).toNat:=rfl;have e2:(iX d size root).size=size.toNat:=rfl;simp only[fX,e,e1,e2,Bool.and_eq_true,beq_self_eq_true,decide_eq_true_eq,true_and];refine⟨beq_self_eq_true _,by omega⟩
theorem Zm {d:cS}{size:Int}{root:aW}(h:aT size 1 256=true) (hq:(ea d).1.seq≠1000000000):
  ea (ep d (jA d size root))=(⟨(ea d).1.seq+1,size,root⟩,wM d):=by
 have hb:=B4 d;have hi:=cf.1 h;have ho:=aaV (root:=root) h hq;rw[uZ,if_pos ⟨h,hq⟩];have e1:(iX d size root).seq=((ea d).1.seq+1).toNat:=rfl;have e2:(iX d size root).size=size.toNat:=rfl;have e3:(iX d size root).root=root:=rfl;generalize kb (iX d size root)=S at *;generalize iX d size root=s at *;obtain⟨s0,sq,sz,sr⟩:=s;simp only at e1 e2 e3 ho;subst e1 e2 e3;unfold wM;cases h1:fX d.one<;>cases h2:fX d.two
 ·have r:ea d=(⟨0,0,gr⟩,0):=by unfold ea;rw[h1,h2]
  rw[r]at ho ⊢;rw[if_neg (by decide),Io];unfold ea;simp only[h2,ho,dM.lS];refine Prod.ext ?_ rfl;simp only[dM.lS,tf.mk.injEq];exact⟨rfl,by omega,trivial⟩
 ·have r:ea d=(d.two.lS,2):=by unfold ea;rw[h1,h2]
  rw[r]at ho hb hq ⊢;simp only[dM.lS]at ho hb hq ⊢;rw[if_neg (by simp),Io];unfold ea;simp only[h2,ho];rw[if_neg (by omega)];refine Prod.ext ?_ rfl;simp only[dM.lS,tf.mk.injEq]
  first|omega|exact⟨by omega,by omega,trivial⟩|exact⟨by omega,by omega,rfl⟩|(constructor<;>omega)|trace_state
 ·have r:ea d=(d.one.lS,1):=by unfold ea;rw[h1,h2]
  rw[r]at ho hb hq ⊢;simp only[dM.lS]at ho hb hq ⊢;simp only[if_true];rw[Od];unfold ea;simp only[h1,ho];rw[if_pos (by omega)];refine Prod.ext ?_ rfl;simp only[dM.lS,tf.mk.injEq]
  first|omega|exact⟨by omega,by omega,trivial⟩|exact⟨by omega,by omega,rfl⟩|(constructor<;>omega)|trace_state
 by_cases q:d.two.seq>d.one.seq
 ·have r:ea d=(d.two.lS,2):=by unfold ea;rw[h1,h2];simp only;rw[if_pos q]
  rw[r]at ho hb hq ⊢;simp only[dM.lS]at ho hb hq ⊢;rw[if_neg (by simp),Io];unfold ea;simp only[h2,ho];rw[if_neg (by omega)];refine Prod.ext ?_ rfl;simp only[dM.lS,tf.mk.injEq]
  first|omega|exact⟨by omega,by omega,trivial⟩|exact⟨by omega,by omega,rfl⟩|(constructor<;>omega)|trace_state
 have r:ea d=(d.one.lS,1):=by unfold ea;rw[h1,h2];simp only;rw[if_neg q]
 rw[r]at ho hb hq ⊢;simp only[dM.lS]at ho hb hq ⊢;simp only[if_true];rw[Od];unfold ea;simp only[h1,ho];rw[if_pos (by omega)];refine Prod.ext ?_ rfl;simp only[dM.lS,tf.mk.injEq]
 first|omega|exact⟨by omega,by omega,trivial⟩|exact⟨by omega,by omega,rfl⟩|(constructor<;>omega)|trace_state
theorem SN {d:cS}{size:Int}{root:aW}(h:jA d size root≠[]):cH (ep d (jA d size root))=⟨size,root⟩:=by
 have hc:aT size 1 256=true∧(ea d).1.seq≠1000000000:=by
  apply Classical.byContradiction;intro hn;exact h (by rw[uZ,if_neg hn])
 unfold cH;rw[Zm hc.1 hc.2];have:wM d≠0:=by unfold wM;split<;>decide
 rw[if_neg this]
theorem abp {d:cS}(h:d.ok) {r:cL}(hr:r.value<18446744073709551616):(my d r).ok:=by
 unfold my;split
 ·exact⟨Ru h.a hr,h.b⟩
 split
 ·exact⟨h.a,Ru h.b hr⟩
 exact h
theorem FP:∀{l:List cL}{d:cS},d.ok→(∀r∈l,r.value<18446744073709551616)→(ep d l).ok
 | [],d,h,_=>h
 | r::l,d,h,hl=>FP (l:=l) (d:=my d r) (abp h (hl r (List.mem_cons_self ..))) fun x hx=>hl x (List.mem_cons_of_mem _ hx)
theorem Zr {to:Int}{s:dM}{S:Nat}(h:s.ok) (hS:S<18446744073709551616):∀r∈eU to s S,r.value<18446744073709551616:=by
 obtain⟨h1,h2,h3,h4,h5,h6,h7⟩:=h;intro r hr;simp only[eU,List.mem_cons,List.not_mem_nil,or_false]at hr;rcases hr with rfl|rfl|rfl|rfl|rfl|rfl|rfl|rfl
 all_goals first|exact(by decide:(0:Nat)<18446744073709551616)|assumption
theorem Rt {d:cS}{size:Int}{root:aW}(hr:root.ok):∀r∈jA d size root,r.value<18446744073709551616:=by
 rw[uZ];split
 ·rename_i h;exact Zr (P0 hr h.1) (abm _)
 intro r hr;cases hr
theorem abV {d:cS}{size:Int}{root:aW}(h:d.ok) (hr:root.ok):(ep d (jA d size root)).ok:=FP h (Rt hr)
theorem N7:pN.ok:=by
 have hz:(⟨0,0,0,gr⟩:dM).ok:=⟨by decide,by decide,by decide,sO⟩;exact⟨hz,hz⟩
def dM.wl (s:dM):List Nat:=[s.sum,s.seq,s.size,s.root.a,s.root.b,s.root.c,s.root.d]
def i5 (at_:Int) (l:List Nat) (n:Nat):List cL:=((List.range n).filter fun k=>!(l.getD k 0==0)).map fun k:Nat=>(⟨at_,(k:Int),0⟩:cL)
theorem J2 (at_:Int) (l:List Nat) (n:Nat):i5 at_ l (n+1)=i5 at_ l n++(if l.getD n 0=0 then [] else [⟨at_,n,0⟩]):=by
 unfold i5;rw[List.range_succ,List.filter_append,List.map_append];congr 1;by_cases h:l.getD n 0=0
 ·rw[if_pos h,List.filter_cons,h];rfl
 rw[if_neg h,List.filter_cons,beq_false_of_ne h];rfl
theorem FM (at_:Int) (l:List Nat) (n:Nat):(i5 at_ l n).length≤n:=by
 unfold i5;rw[List.length_map];have h:=List.length_filter_le (fun k=>!(l.getD k 0==0)) (List.range n);rw[List.length_range]at h;exact h
def eL (at_:Int) (s:dM):List cL:=if fX s then [] else i5 at_ s.wl 7
def gw (d:cS):List cL:=eL 1 d.one++eL 2 d.two
def eX (d:cS) (l:List cL) (cut:Int):cS:=ep d (l.take cut.toNat)
theorem B2 (at_:Int) (s:dM):(eL at_ s).length≤7:=by
 unfold eL;split
 ·exact aQ _
 exact FM _ _ _
theorem B5 (d:cS):(gw d).length≤14:=by
 unfold gw;rw[List.length_append];have:=B2 1 d.one;have:=B2 2 d.two;omega
theorem J1 (at_:Int) (l:List Nat) (n:Nat):∀r∈i5 at_ l n,r.slot=at_∧r.value=0:=by
 intro r hr;obtain⟨k,-,rfl⟩:=List.mem_map.1 hr;exact⟨rfl,rfl⟩
theorem FL (at_:Int) (s:dM):∀r∈eL at_ s,r.slot=at_∧r.value=0:=by
 unfold eL;split
 ·intro r hr;cases hr
 exact J1 _ _ _
theorem abv (d:cS):∀r∈gw d,r.value=0:=by
 intro r hr;rcases List.mem_append.1 hr with h|h
 ·exact(FL _ _ r h).2
 exact(FL _ _ r h).2
theorem aar (x:Int):lf .u64 x 1≠0:=by
 unfold lf;rw[wU];intro h;have h1:((BitVec.ofInt IntKind.u64.bits x||| BitVec.ofInt IntKind.u64.bits 1).toNat:Int)%18446744073709551616=0:=h;have h2:(BitVec.ofInt IntKind.u64.bits x||| BitVec.ofInt IntKind.u64.bits 1).toNat<18446744073709551616:=(BitVec.ofInt IntKind.u64.bits x||| BitVec.ofInt IntKind.u64.bits 1).isLt;have h3:(BitVec.ofInt IntKind.u64.bits x||| BitVec.ofInt IntKind.u64.bits 1).toNat=0:=by omega
 rw[BitVec.toNat_or]at h3;have h4:(BitVec.ofInt IntKind.u64.bits 1).toNat=1:=by decide
 rw[h4]at h3;have h5:1≤(BitVec.ofInt IntKind.u64.bits x).toNat||| 1:=Nat.right_le_or
 omega
theorem abl (s:dM):kb s≠0:=by
 unfold kb;have h:=aar ((fY (eC s 6)).a.toNat:Int);have h2:=JE ((fY (eC s 6)).a.toNat:Int);omega
theorem EJ {s:dM}(h:s.sum=0):fX s=false:=by
 have:=abl s;unfold fX;rw[h];have:(((0:Nat):Int)==(kb s:Int))=false:=by rw[beq_eq_false_iff_ne];omega
 rw[this];rfl
theorem P4 {s:dM}{w:Int}(h:s.sum=0):(sa s w 0).sum=0:=by
 unfold sa
 repeat' split
 all_goals first|rfl|exact h
def wa (s t:dM):Prop:=(fX s=true∧t=s)∨(fX s=false∧fX t=false)
theorem wa.refl (s:dM):wa s s:=by
 cases h:fX s with
 | true=>exact .inl ⟨h,rfl⟩
 | false=>exact .inr ⟨h,h⟩
theorem wa.read {d e:cS}(h1:wa d.one e.one) (h2:wa d.two e.two):ea e=ea d:=by
 unfold ea;rcases h1 with ⟨a1,b1⟩|⟨a1,b1⟩<;>rcases h2 with ⟨a2,b2⟩|⟨a2,b2⟩
 ·rw[b1,b2]
 ·rw[b1,a1,a2,b2]
 ·rw[b2,a1,a2,b1]
 rw[a1,a2,b1,b2]
theorem AW:∀{l:List cL}{d:cS},(∀r∈l,r.value=0)→(d.one.sum=0→(ep d l).one.sum=0)∧(d.two.sum=0→(ep d l).two.sum=0)
 | [],d,_=>⟨id,id⟩
 | r::l,d,h=>by
  have hr:=h r (List.mem_cons_self ..);obtain⟨i1,i2⟩:=AW (l:=l) (d:=my d r) fun x hx=>h x (List.mem_cons_of_mem _ hx)
  have e:ep d (r::l)=ep (my d r) l:=rfl;rw[e];refine⟨fun h0=>i1 ?_,fun h0=>i2 ?_⟩
  ·unfold my;rw[hr];split
   ·exact P4 h0
   split
   ·exact h0
   exact h0
  unfold my;rw[hr];split
  ·exact h0
  split
  ·exact P4 h0
  exact h0
theorem Oe:∀{l:List cL}{d:cS},(∀r∈l,r.slot=1)→(ep d l).two=d.two
 | [],d,_=>rfl
 | r::l,d,h=>by
  have e:ep d (r::l)=ep (my d r) l:=rfl;rw[e,Oe (l:=l) fun x hx=>h x (List.mem_cons_of_mem _ hx)];unfold my;rw[if_pos (h r (List.mem_cons_self ..))]
theorem Oc:∀{l:List cL}{d:cS},(∀r∈l,r.slot=2)→(ep d l).one=d.one
 | [],d,_=>rfl
 | r::l,d,h=>by
  have e:ep d (r::l)=ep (my d r) l:=rfl;rw[e,Oc (l:=l) fun x hx=>h x (List.mem_cons_of_mem _ hx)];unfold my;have h2:=h r (List.mem_cons_self ..);rw[if_neg (by rw[h2];decide),if_pos h2]
theorem Xc (d:cS) (a b:List cL):ep d (a++b)=ep (ep d a) b:=by unfold ep;exact List.foldl_append
theorem Re (at_:Int) (s:dM):(s.sum=0)∨∃l,i5 at_ s.wl 7=⟨at_,0,0⟩::l:=by
 by_cases h:s.sum=0
 ·exact .inl h
 refine .inr ?_;unfold i5;have e:List.range 7=[0,1,2,3,4,5,6]:=rfl;have h0:(s.wl.getD 0 0==0)=false:=beq_false_of_ne h;rw[e,List.filter_cons,h0];exact⟨_,rfl⟩
theorem za {l:List cL}{P:cL→Prop}(h:∀r∈l,P r) (j:Nat):∀r∈l.take j,P r:=fun r hr=>h r (List.mem_of_mem_take hr)
theorem aa9 (d:cS) (j:Nat):wa d.one (ep d ((eL 1 d.one).take j)).one∧(ep d ((eL 1 d.one).take j)).two=d.two:=by
 refine⟨?_,Oe (za (fun r hr=>(FL 1 d.one r hr).1) j)⟩;cases h:fX d.one with
 | true=>
  have e:eL 1 d.one=[]:=by unfold eL;rw[h];rfl
  rw[e,List.take_nil];exact .inl ⟨h,rfl⟩
 | false=>
  refine .inr ⟨h,?_⟩;have e:eL 1 d.one=i5 1 d.one.wl 7:=by unfold eL;rw[h];rfl
  have hv:=fun r hr=>(J1 1 d.one.wl 7 r hr).2
  rw[e];rcases Re 1 d.one with h0|⟨l,hl⟩
  ·exact EJ ((AW (za hv j)).1 h0)
  cases j with
  | zero=>exact h
  | succ j=>
   rw[hl]at hv ⊢;rw[List.take_succ_cons];exact EJ ((AW (d:=my d ⟨1,0,0⟩) (za (fun r hr=>hv r (List.mem_cons_of_mem _ hr)) j)).1 rfl)
theorem aa8 (d:cS) (j:Nat):wa d.two (ep d ((eL 2 d.two).take j)).two∧(ep d ((eL 2 d.two).take j)).one=d.one:=by
 refine⟨?_,Oc (za (fun r hr=>(FL 2 d.two r hr).1) j)⟩;cases h:fX d.two with
 | true=>
  have e:eL 2 d.two=[]:=by unfold eL;rw[h];rfl
  rw[e,List.take_nil];exact .inl ⟨h,rfl⟩
 | false=>
  refine .inr ⟨h,?_⟩;have e:eL 2 d.two=i5 2 d.two.wl 7:=by unfold eL;rw[h];rfl
  have hv:=fun r hr=>(J1 2 d.two.wl 7 r hr).2
  rw[e];rcases Re 2 d.two with h0|⟨l,hl⟩
  ·exact EJ ((AW (za hv j)).2 h0)
  cases j with
  | zero=>exact h
  | succ j=>
   rw[hl]at hv ⊢;rw[List.take_succ_cons];exact EJ ((AW (d:=my d ⟨2,0,0⟩) (za (fun r hr=>hv r (List.mem_cons_of_mem _ hr)) j)).2 rfl)
theorem Rd (d:cS) (j:Int):ea (eX d (gw d) j)=ea d:=by
 unfold eX gw;rw[List.take_append,Xc];obtain⟨k1,e1⟩:=aa9 d j.toNat;generalize ep d ((eL 1 d.one).take j.toNat)=D at *;obtain⟨k2,e2⟩:=aa8 D (j.toNat - (eL 1 d.one).length);rw[e1]at k2 e2;exact wa.read (by rw[e2];exact k1) k2
section
set_option maxHeartbeats 4000000
set_option maxRecDepth 10000
set_option linter.unusedSectionVars false
def T4:bX:=⟨[(230,.cm [true])],[9,10,11],[24,26,30,44,47,50,51,52,57,58,59,62,76,88,138,185,186,187,253,254,297,311],false⟩
theorem E8 (l:List cL) (h:l.length≤100000):∀x,(l.map cL.cs++[x]).length≤maxLen∧(l.map cL.cs++[x]).length * 24≤140737488355328:=fun x=>du (E:=cL.cs) (l:=l) (xs:=[x]) (b:=24) (n:=1000000) (by simp;omega) (by omega) (by omega)
def xf (d:cS):Nat→List cL
 | 0=>[]
 | 1=>eL 1 d.one
 | _=>gw d
theorem VB (d:cS) (h:d.ok):aR Tryz.prog 177 [.agg d.cs] (.au 0 0 [] 3 0 (gw d).length) [([],⟨3,(gw d).map cL.cs,2,false⟩)]:=by
 refine aA T4 false Tryz.f177 ?_;conv=>enter[1];reduce
 refine bf Tryz.f177 43 [.tmp 2] (by kernel_rfl) (by decide +kernel) rfl ?_;have sA:=B5 d;have pz:=B2 1 d.one;refine aw ?_;refine jX [(3,3)] (fun n s=>∃i,i≤2∧n=2 - i∧s=⟨43,[(3,.au 3 0 [] 3 0 (xf d i).length),(12,.au 12 0 [] 7 0 2),(13,vI ((2:Nat):Int)),(14,vI i)],[(3,0,one ⟨3,(xf d i).map cL.cs,2,false⟩),(12,0,one ⟨7,[d.one.cs,d.two.cs],2,false⟩)],1⟩) 2 ?_ ?_
 ·refine aw ?_;exact⟨0,by omega,rfl,rfl⟩
 have x0:(0:Int)<((2:Nat):Int):=by decide
 have x1:(1:Int)<((2:Nat):Int):=by decide
 have x2:¬(((2:Nat):Int)<((2:Nat):Int)):=by decide
 have u0:IntKind.i64.wrap (0+1)=1:=aV (by omega);have u1:IntKind.i64.wrap (1+1)=2:=aV (by omega);have z0:((0:Nat):Int)=0:=rfl;have z1:((1:Nat):Int)=1:=rfl;have z2:((2:Nat):Int)=2:=rfl;have z7:((7:Nat):Int)=7:=rfl;have y7:¬(((7:Nat):Int)<((7:Nat):Int)):=by decide
 rintro n s ⟨i,hi,rfl,rfl⟩;have hi3:i=0∨i=1∨i=2:=by omega
 rcases hi3 with rfl|rfl|rfl
 ·have hS:=HL d.one h.a;have hW:=A6 d.one;have e1:xf d 1=[]++eL 1 d.one:=by rw[List.nil_append];rfl
  have e0:xf d 0=[]:=rfl;have hA:([]:List cL).length≤7:=by simp
  rw[e0];generalize ([]:List cL)=A at *;generalize d.one=S at *;refine eI z0 z1 x0 u0 ?_;refine aq.intro hS ?_;cases hs:fX S with
  | true=>
   refine ez z0 z1 u0 ?_;refine⟨2 - 1,by omega,1,by omega,rfl,?_⟩;have e2:eL 1 S=[]:=by unfold eL;rw[hs];rfl
   rw[e1,e2,List.append_nil];rfl
  | false=>
   have e2:eL 1 S=i5 1 S.wl 7:=by unfold eL;rw[hs];rfl
   rw[e2]at e1;refine ez z0 z1 u0 ?_;refine mb hW z0 z1 u0 ?_;refine cR (fun n s=>∃k,k≤7∧n=7 - k∧s=⟨43,[(3,.au 3 0 [] 3 0 (A++i5 1 S.wl k).length),(4,vI 0),(12,.au 12 0 [] 7 0 2),(13,vI ((2:Nat):Int)),(14,vI 0),(21,.au 21 0 [] 1 0 7),(22,vI ((7:Nat):Int)),(23,vI k)],[(3,0,one ⟨3,(A++i5 1 S.wl k).map cL.cs,2,false⟩),(12,0,one ⟨7,[S.cs,d.two.cs],2,false⟩),(21,0,one ⟨1,tC 7 10021 0,0,false⟩),(10021,0,one ⟨7,[S.cs],0,false⟩)],1⟩) 7 ?_ ?_
   ·refine aw ?_;refine⟨0,by omega,rfl,?_⟩;have g0:i5 1 S.wl 0=[]:=rfl;rw[g0,List.append_nil];rfl
   rintro n s ⟨k,hk,rfl,rfl⟩;have qm:=FM 1 S.wl k;have ej:=E8 (A++i5 1 S.wl k) (by rw[List.length_append];omega);rcases bm k 7 with ab|bH
   ·have kt:=J2 1 S.wl k;have Gr:([[.ptr 10021 0 [] 7 0 0],[.ptr 10021 0 [] 7 0 1],[.ptr 10021 0 [] 7 0 2],[.ptr 10021 0 [] 7 0 3],[.ptr 10021 0 [] 7 0 4],[.ptr 10021 0 [] 7 0 5],[.ptr 10021 0 [] 7 0 6]]:List (List AV))[k]?=some [.ptr 10021 0 [] 7 0 k]∧([vU S.sum,vU S.seq,vU S.size,vU S.root.a,vU S.root.b,vU S.root.c,vU S.root.d]:List AV)[k]?=some (vU (S.wl.getD k 0)):=by
     have q9:k=0∨k=1∨k=2∨k=3∨k=4∨k=5∨k=6:=by omega
     rcases q9 with rfl|rfl|rfl|rfl|rfl|rfl|rfl<;>exact⟨rfl,rfl⟩
    have ae:(k:Int)<((7:Nat):Int):=by omega
    have w1:IntKind.i64.wrap ((k:Int)+1)=((k+1:Nat):Int):=by rw[aV (by omega)];omega
    generalize S.wl.getD k 0=v at *;obtain⟨Cr,vj⟩:=Gr;by_cases z:v=0
    ·have hb:((v:Int) != 0)=false:=by rw[z];rfl
     rw[if_pos z,List.append_nil]at kt;refine oe ae Cr vj hb w1 ?_;exact⟨_,by omega,k+1,ab,rfl,by first|(rw[kt];done)|(rw[kt];rfl)⟩
    have hb:((v:Int) != 0)=true:=by rw[bne_iff_ne];omega
    rw[if_neg z]at kt;simp -implicitDefEqProofs only[go_sem,ae,Cr,vj,hb,ej,w1,u0,u1];refine⟨_,by omega,k+1,ab,rfl,?_⟩;rw[kt,←List.append_assoc];simp only[List.length_append,List.length_map,List.map_append,List.length_cons,List.length_nil,List.map_cons,List.map_nil];rfl
   have q9:k=7:=by omega
   subst q9;refine cg y7 u0 ?_;refine⟨2 - 1,by omega,1,by omega,rfl,?_⟩;rw[e1];rfl
 ·have hS:=HL d.two h.b;have hW:=A6 d.two;have e1:xf d 2=eL 1 d.one++eL 2 d.two:=by rfl
  have e0:xf d 1=eL 1 d.one:=rfl;have hA:(eL 1 d.one).length≤7:=by exact pz
  rw[e0];generalize (eL 1 d.one:List cL)=A at *;generalize d.two=S at *;refine eI z0 z1 x1 u1 ?_;refine aq.intro hS ?_;cases hs:fX S with
  | true=>
   refine ez z0 z1 u1 ?_;refine⟨2 - 2,by omega,2,by omega,rfl,?_⟩;have e2:eL 2 S=[]:=by unfold eL;rw[hs];rfl
   rw[e1,e2,List.append_nil];rfl
  | false=>
   have e2:eL 2 S=i5 2 S.wl 7:=by unfold eL;rw[hs];rfl
   rw[e2]at e1;refine ez z0 z1 u1 ?_;refine mb hW z0 z1 u1 ?_;refine cR (fun n s=>∃k,k≤7∧n=7 - k∧s=⟨43,[(3,.au 3 0 [] 3 0 (A++i5 2 S.wl k).length),(4,vI 1),(12,.au 12 0 [] 7 0 2),(13,vI ((2:Nat):Int)),(14,vI 1),(21,.au 21 0 [] 1 0 7),(22,vI ((7:Nat):Int)),(23,vI k)],[(3,0,one ⟨3,(A++i5 2 S.wl k).map cL.cs,2,false⟩),(12,0,one ⟨7,[d.one.cs,S.cs],2,false⟩),(21,0,one ⟨1,tC 7 10021 0,0,false⟩),(10021,0,one ⟨7,[S.cs],0,false⟩)],1⟩) 7 ?_ ?_
   ·refine aw ?_;refine⟨0,by omega,rfl,?_⟩;have g0:i5 2 S.wl 0=[]:=rfl;rw[g0,List.append_nil];rfl
   rintro n s ⟨k,hk,rfl,rfl⟩;have qm:=FM 2 S.wl k;have ej:=E8 (A++i5 2 S.wl k) (by rw[List.length_append];omega);rcases bm k 7 with ab|bH
   ·have kt:=J2 2 S.wl k;have Gr:([[.ptr 10021 0 [] 7 0 0],[.ptr 10021 0 [] 7 0 1],[.ptr 10021 0 [] 7 0 2],[.ptr 10021 0 [] 7 0 3],[.ptr 10021 0 [] 7 0 4],[.ptr 10021 0 [] 7 0 5],[.ptr 10021 0 [] 7 0 6]]:List (List AV))[k]?=some [.ptr 10021 0 [] 7 0 k]∧([vU S.sum,vU S.seq,vU S.size,vU S.root.a,vU S.root.b,vU S.root.c,vU S.root.d]:List AV)[k]?=some (vU (S.wl.getD k 0)):=by
     have q9:k=0∨k=1∨k=2∨k=3∨k=4∨k=5∨k=6:=by omega
     rcases q9 with rfl|rfl|rfl|rfl|rfl|rfl|rfl<;>exact⟨rfl,rfl⟩
    have ae:(k:Int)<((7:Nat):Int):=by omega
    have w1:IntKind.i64.wrap ((k:Int)+1)=((k+1:Nat):Int):=by rw[aV (by omega)];omega
    generalize S.wl.getD k 0=v at *;obtain⟨Cr,vj⟩:=Gr;by_cases z:v=0
    ·have hb:((v:Int) != 0)=false:=by rw[z];rfl
     rw[if_pos z,List.append_nil]at kt;refine oe ae Cr vj hb w1 ?_;exact⟨_,by omega,k+1,ab,rfl,by first|(rw[kt];done)|(rw[kt];rfl)⟩
    have hb:((v:Int) != 0)=true:=by rw[bne_iff_ne];omega
    rw[if_neg z]at kt;simp -implicitDefEqProofs only[go_sem,ae,Cr,vj,hb,ej,w1,u0,u1];refine⟨_,by omega,k+1,ab,rfl,?_⟩;rw[kt,←List.append_assoc];simp only[List.length_append,List.length_map,List.map_append,List.length_cons,List.length_nil,List.map_cons,List.map_nil];rfl
   have q9:k=7:=by omega
   subst q9;refine cg y7 u1 ?_;refine⟨2 - 2,by omega,2,by omega,rfl,?_⟩;rw[e1];rfl
 have e2:xf d 2=gw d:=rfl;rw[e2];refine aC x2 ?_;refine cz (M5 (gw d) (by omega)) ?_
 first|exact True.intro|rfl|exact⟨rfl,rfl⟩|trace_state
theorem VC (d:cS) (l:List cL) (cut:Int) (hl:l.length≤maxLen):aR Tryz.prog 176 [.agg d.cs,.ro 3 (l.map cL.cs),vI cut] (.agg (eX d l cut).cs) []:=by
 refine aA T4 false Tryz.f176 ?_;conv=>enter[1];reduce
 refine bf Tryz.f176 16 [.cell 6 75] (by kernel_rfl) (by decide +kernel) rfl ?_;unfold eX;have k1:0≤max 0 (min cut (l.length:Int))∧max 0 (min cut (l.length:Int))≤(l.length:Int):=by omega
 have k2:l.take (max 0 (min cut (l.length:Int))).toNat=l.take cut.toNat:=by
  by_cases h:cut≤(l.length:Int)
  ·rw[show(max 0 (min cut (l.length:Int))).toNat=cut.toNat by omega]
  rw[List.take_of_length_le (by omega),List.take_of_length_le (by omega)]
 have yh:=M7 d (l.take cut.toNat) (by rw[List.length_take];omega);simp -implicitDefEqProofs only[go_sem,k1,Nat.sub_zero,k2];refine aq.intro yh ?_;exact dt
end
end Go.Proofs.YtobpfkgabdeefaaGreat.E
