/- Contracts: the raw writes that keep a point; Plain law: what a disk says behind the raw writes that keep a point; Plain law: disks stay within their words; what a disk holds, wherever its raw writes and its mending are cut; Contracts: the mending of a disk; raw writes that are cut -/
import Derived.Test.YtobpfkgabdeefaaGreatQ12
namespace Go.Proofs.YtobpfkgabdeefaaGreat.E
open Go Go.RowKit
set_option linter.unusedSimpArgs false
set_option linter.unusedVariables false
section
set_option maxHeartbeats 4000000
set_option maxRecDepth 10000
set_option linter.unusedSectionVars false
def Mb:cc:=⟨[(230,.cm [true])],cw,cz,false⟩
def xg (d:cX):Int:=if (ej d).2=1 then 2 else 1
def jk (d:cX) (size:Int) (root:aX):dT:=⟨0,((ej d).1.seq+1).toNat,size.toNat,root⟩
def fo (to:Int) (s:dT) (S:Nat):List cR:=[⟨to,0,0⟩,⟨to,1,s.seq⟩,⟨to,2,s.size⟩,⟨to,3,s.root.a⟩,⟨to,4,s.root.b⟩,⟨to,5,s.root.c⟩,⟨to,6,s.root.d⟩,⟨to,0,S⟩]
theorem vd (d:cX) (size:Int) (root:aX):jQ d size root=if aS size 1 256=true/\(ej d).1.seq≠1000000000 then fo (xg d) (jk d size root) (kD (jk d size root)) else []:=rfl
theorem P8 {d:cX}{size:Int}{root:aX}(hr:root.ok) (hs:aS size 1 256=true):(jk d size root).ok:=by
 have:=BX d;have:=cr.1 hs;exact⟨by show 0<_;omega,by show((ej d).1.seq+1).toNat<_;omega,by show size.toNat<_;omega,hr⟩
theorem cR.wide (l:List cR):fN 3 (l.map cR.cs)=true:=by
 induction l with
 | nil=>rfl
 | cons a l ih=>simp only[List.map_cons,fN,ih,cR.cs];rfl
theorem cR.flat (l:List cR):dJ (l.map cR.cs)=2:=by
 induction l with
 | nil=>rfl
 | cons a l ih=>simp only[List.map_cons,dJ,ih,cR.cs];rfl
attribute [go_sem] cR.wide cR.flat
theorem af7 (d:cX) (size:Int) (root:aX) (h:d.ok) (hr:root.ok):ba Tryz.prog 276 [.agg d.cs,vI size,.agg root.cs] (.aw 0 0 [] 3 0 (jQ d size root).length) [([],⟨3,(jQ d size root).map cR.cs,2,false⟩)]:=by
 refine aF Mb false Tryz.f276 ?_;conv=>enter[1];reduce
 refine bu Tryz.f276 66 [.tmp 6] (by kernel_rfl) (by decide +kernel) rfl ?_;have nE:=US d h;have cq:=fG size 1 256;have aI:=fun hs=>Vu (jk d size root) (P8 (d:=d) hr hs)
 have rH:=BX d;rw[vd];generalize hS:kD (jk d size root)=S at *;unfold jk xg at *;generalize ej d=R at *;obtain⟨r,a⟩:=R;simp only at rH aI ⊢;refine au ?_;refine cT nE ?_;refine aq.intro cq ?_;cases hi:aS size 1 256 with
 | false=>
  simp -implicitDefEqProofs only[go_sem,Bool.not_false,bb,Bool.false_eq_true,false_and,if_false]
 | true=>
  have ki:=cr.1 hi;have aI:=aI hi;by_cases q:r.seq=1000000000
  ·have q':r.seq>=1000000000:=by omega
   simp -implicitDefEqProofs only[go_sem,q,q',Bool.not_true,bb,ne_eq,not_true_eq_false,and_false,if_false]
  have q':¬r.seq>=1000000000:=by omega
  have w1:IntKind.i64.wrap (r.seq+1)=r.seq+1:=aN (by omega);have w2:IntKind.u64.wrap (r.seq+1)=((r.seq+1).toNat:Int):=by rw[wU];omega
  have w3:IntKind.u64.wrap size=(size.toNat:Int):=by rw[wU];omega
  by_cases e:a=1
  ·subst e;simp -implicitDefEqProofs only[go_sem,q,q',w1,w2,w3,Bool.not_true,bb,ne_eq,not_false_eq_true,and_true,if_true,beq_self_eq_true];refine aq.intro aI ?_;simp -implicitDefEqProofs only[go_sem,fo];rfl
  have e':(a==1)=false:=beq_eq_false_iff_ne.2 e;simp -implicitDefEqProofs only[go_sem,q,q',e,e',w1,w2,w3,Bool.not_true,bb,ne_eq,not_false_eq_true,and_true,if_true,beq_self_eq_true];refine aq.intro aI ?_;simp -implicitDefEqProofs only[go_sem,fo];rfl
theorem MQ (l:List cR) (hl:l.length * 24<=140737488355328):ba Tryz.prog 231 [.ro 3 (l.map cR.cs)] (.aw 0 0 [] 3 0 l.length) [([],⟨3,l.map cR.cs,2,false⟩)]:=by
 refine aF Mb false Tryz.f231 ?_;conv=>enter[1];reduce
 refine bu Tryz.f231 14 [.tmp 2] (by kernel_rfl) (by decide +kernel) rfl ?_;refine au ?_;refine bX (fun h=>?_) (fun h=>?_)
 ·have:l=[]:=by simpa using h
  subst this;exact dy
 have hm:=pA hl (by omega);have jz:((24:Nat):Int) * (l.length:Int)<=281474976710656/\(l.length:Int)<=9223372036854775807:=by unfold maxLen at hm;omega
 exact uO h jz
theorem agc (d:cX) (size:Int) (root:aX) (h:d.ok):ba Tryz.prog 262 [.agg d.cs,vI size,.agg root.cs] (.aw 0 0 [] 3 0 (jQ d size root).length) [([],⟨3,(jQ d size root).map cR.cs,2,false⟩)]:=by
 refine aF Mb false Tryz.f262 ?_;conv=>enter[1];reduce
 refine bu Tryz.f262 68 [.tmp 6] (by kernel_rfl) (by decide +kernel) rfl ?_;have nE:=UR d h;have cq:=dQ size 1 256;have aI:=Vt (jk d size root);have rH:=BX d;rw[vd];generalize hS:kD (jk d size root)=S at *;unfold jk xg at *;generalize ej d=R at *;obtain⟨r,a⟩:=R;simp only at rH aI ⊢;refine au ?_;refine cT nE ?_;refine aq.intro cq ?_;cases hi:aS size 1 256 with
 | false=>
  simp -implicitDefEqProofs only[go_sem,Bool.not_false,bb,Bool.false_eq_true,false_and,if_false]
 | true=>
  have ki:=cr.1 hi;by_cases q:r.seq=1000000000
  ·have q':(r.seq==1000000000)=true:=by rw[q];rfl
   simp -implicitDefEqProofs only[go_sem,q,q',Bool.not_true,bb,ne_eq,not_true_eq_false,and_false,if_false]
  have q':(r.seq==1000000000)=false:=beq_eq_false_iff_ne.2 q;have w1:IntKind.i64.wrap (r.seq+1)=r.seq+1:=aN (by omega);have w2:IntKind.u64.wrap (r.seq+1)=((r.seq+1).toNat:Int):=by rw[wU];omega
  have w3:IntKind.u64.wrap size=(size.toNat:Int):=by rw[wU];omega
  by_cases e:a=1
  ·subst e;simp -implicitDefEqProofs only[go_sem,q,q',w1,w2,w3,Bool.not_true,bb,ne_eq,not_false_eq_true,and_true,if_true,beq_self_eq_true];refine cT aI ?_;refine ep (A1 ⟨S,(r.seq+1).toNat,size.toNat,root⟩) ?_;refine dq (fun m z=>∃i:Nat,(1<=i/\i<=7)/\m=7 - i/\z=⟨68,[(9,vI 2),(10,.ptr 10 0 [] 7 0 0),(11,.aw 11 0 [] 3 0 ((fo 2 ⟨0,(r.seq+1).toNat,size.toNat,root⟩ S).take i).length),(12,.aw 12 0 [] 1 0 7),(13,vI i)],[(10,0,one ⟨7,[dT.cs ⟨S,(r.seq+1).toNat,size.toNat,root⟩],0,false⟩),(11,0,one ⟨3,((fo 2 ⟨0,(r.seq+1).toNat,size.toNat,root⟩ S).take i).map cR.cs,2,false⟩),(12,0,one ⟨1,tQ 7 10 0,0,false⟩)],1⟩) 6 ?_ ?_
   ·refine au ?_;exact⟨1,by omega,rfl,rfl⟩
   rintro m z ⟨i,hi,rfl,rfl⟩;have fS:i=1\/i=2\/i=3\/i=4\/i=5\/i=6\/i=7:=by omega
   rcases fS with rfl|rfl|rfl|rfl|rfl|rfl|rfl
   ·have h1:((1:Nat):Int)<=6:=by decide
    have h2:((1:Nat):Int)<((7:Nat):Int):=by decide
    have w4:IntKind.i64.wrap (((1:Nat):Int)+1)=((2:Nat):Int):=by decide
    have ha:∀x,_:=fun x=>ed (E:=cR.cs) (l:=(fo 2 ⟨0,(r.seq+1).toNat,size.toNat,root⟩ S).take 1) (xs:=[x]) (b:=24) (n:=100) (by simp[fo]) (by omega) (by omega)
    refine dP h1 h2 w4 ha ?_;exact⟨6 - 1,by omega,2,by omega,rfl,rfl⟩
   ·have h1:((2:Nat):Int)<=6:=by decide
    have h2:((2:Nat):Int)<((7:Nat):Int):=by decide
    have w4:IntKind.i64.wrap (((2:Nat):Int)+1)=((3:Nat):Int):=by decide
    have ha:∀x,_:=fun x=>ed (E:=cR.cs) (l:=(fo 2 ⟨0,(r.seq+1).toNat,size.toNat,root⟩ S).take 2) (xs:=[x]) (b:=24) (n:=100) (by simp[fo]) (by omega) (by omega)
    refine dP h1 h2 w4 ha ?_;exact⟨6 - 2,by omega,3,by omega,rfl,rfl⟩
   ·have h1:((3:Nat):Int)<=6:=by decide
    have h2:((3:Nat):Int)<((7:Nat):Int):=by decide
    have w4:IntKind.i64.wrap (((3:Nat):Int)+1)=((4:Nat):Int):=by decide
    have ha:∀x,_:=fun x=>ed (E:=cR.cs) (l:=(fo 2 ⟨0,(r.seq+1).toNat,size.toNat,root⟩ S).take 3) (xs:=[x]) (b:=24) (n:=100) (by simp[fo]) (by omega) (by omega)
    refine dP h1 h2 w4 ha ?_;exact⟨6 - 3,by omega,4,by omega,rfl,rfl⟩
   ·have h1:((4:Nat):Int)<=6:=by decide
    have h2:((4:Nat):Int)<((7:Nat):Int):=by decide
    have w4:IntKind.i64.wrap (((4:Nat):Int)+1)=((5:Nat):Int):=by decide
    have ha:∀x,_:=fun x=>ed (E:=cR.cs) (l:=(fo 2 ⟨0,(r.seq+1).toNat,size.toNat,root⟩ S).take 4) (xs:=[x]) (b:=24) (n:=100) (by simp[fo]) (by omega) (by omega)
    refine dP h1 h2 w4 ha ?_;exact⟨6 - 4,by omega,5,by omega,rfl,rfl⟩
   ·have h1:((5:Nat):Int)<=6:=by decide
    have h2:((5:Nat):Int)<((7:Nat):Int):=by decide
    have w4:IntKind.i64.wrap (((5:Nat):Int)+1)=((6:Nat):Int):=by decide
    have ha:∀x,_:=fun x=>ed (E:=cR.cs) (l:=(fo 2 ⟨0,(r.seq+1).toNat,size.toNat,root⟩ S).take 5) (xs:=[x]) (b:=24) (n:=100) (by simp[fo]) (by omega) (by omega)
    refine dP h1 h2 w4 ha ?_;exact⟨6 - 5,by omega,6,by omega,rfl,rfl⟩
   ·have h1:((6:Nat):Int)<=6:=by decide
    have h2:((6:Nat):Int)<((7:Nat):Int):=by decide
    have w4:IntKind.i64.wrap (((6:Nat):Int)+1)=((7:Nat):Int):=by decide
    have ha:∀x,_:=fun x=>ed (E:=cR.cs) (l:=(fo 2 ⟨0,(r.seq+1).toNat,size.toNat,root⟩ S).take 6) (xs:=[x]) (b:=24) (n:=100) (by simp[fo]) (by omega) (by omega)
    refine dP h1 h2 w4 ha ?_;exact⟨6 - 6,by omega,7,by omega,rfl,rfl⟩
   have h1:¬(((7:Nat):Int)<=6):=by decide
   have ha:∀x,_:=fun x=>ed (E:=cR.cs) (l:=(fo 2 ⟨0,(r.seq+1).toNat,size.toNat,root⟩ S).take 7) (xs:=[x]) (b:=24) (n:=100) (by simp[fo]) (by omega) (by omega)
   refine b8 h1 ha ?_;refine aq.intro (MQ (fo 2 ⟨0,(r.seq+1).toNat,size.toNat,root⟩ S) (by show 8 * 24<=_;decide)) ?_;exact dy
  have e':(a==1)=false:=beq_eq_false_iff_ne.2 e;simp -implicitDefEqProofs only[go_sem,q,q',e,e',w1,w2,w3,Bool.not_true,bb,ne_eq,not_false_eq_true,and_true,if_true,beq_self_eq_true];refine cT aI ?_;refine ep (A1 ⟨S,(r.seq+1).toNat,size.toNat,root⟩) ?_;refine dq (fun m z=>∃i:Nat,(1<=i/\i<=7)/\m=7 - i/\z=⟨68,[(9,vI 1),(10,.ptr 10 0 [] 7 0 0),(11,.aw 11 0 [] 3 0 ((fo 1 ⟨0,(r.seq+1).toNat,size.toNat,root⟩ S).take i).length),(12,.aw 12 0 [] 1 0 7),(13,vI i)],[(10,0,one ⟨7,[dT.cs ⟨S,(r.seq+1).toNat,size.toNat,root⟩],0,false⟩),(11,0,one ⟨3,((fo 1 ⟨0,(r.seq+1).toNat,size.toNat,root⟩ S).take i).map cR.cs,2,false⟩),(12,0,one ⟨1,tQ 7 10 0,0,false⟩)],1⟩) 6 ?_ ?_
  ·refine au ?_;exact⟨1,by omega,rfl,rfl⟩
  rintro m z ⟨i,hi,rfl,rfl⟩;have fS:i=1\/i=2\/i=3\/i=4\/i=5\/i=6\/i=7:=by omega
  rcases fS with rfl|rfl|rfl|rfl|rfl|rfl|rfl
  ·have h1:((1:Nat):Int)<=6:=by decide
   have h2:((1:Nat):Int)<((7:Nat):Int):=by decide
   have w4:IntKind.i64.wrap (((1:Nat):Int)+1)=((2:Nat):Int):=by decide
   have ha:∀x,_:=fun x=>ed (E:=cR.cs) (l:=(fo 1 ⟨0,(r.seq+1).toNat,size.toNat,root⟩ S).take 1) (xs:=[x]) (b:=24) (n:=100) (by simp[fo]) (by omega) (by omega)
   refine dP h1 h2 w4 ha ?_;exact⟨6 - 1,by omega,2,by omega,rfl,rfl⟩
  ·have h1:((2:Nat):Int)<=6:=by decide
   have h2:((2:Nat):Int)<((7:Nat):Int):=by decide
   have w4:IntKind.i64.wrap (((2:Nat):Int)+1)=((3:Nat):Int):=by decide
   have ha:∀x,_:=fun x=>ed (E:=cR.cs) (l:=(fo 1 ⟨0,(r.seq+1).toNat,size.toNat,root⟩ S).take 2) (xs:=[x]) (b:=24) (n:=100) (by simp[fo]) (by omega) (by omega)
   refine dP h1 h2 w4 ha ?_;exact⟨6 - 2,by omega,3,by omega,rfl,rfl⟩
  ·have h1:((3:Nat):Int)<=6:=by decide
   have h2:((3:Nat):Int)<((7:Nat):Int):=by decide
   have w4:IntKind.i64.wrap (((3:Nat):Int)+1)=((4:Nat):Int):=by decide
   have ha:∀x,_:=fun x=>ed (E:=cR.cs) (l:=(fo 1 ⟨0,(r.seq+1).toNat,size.toNat,root⟩ S).take 3) (xs:=[x]) (b:=24) (n:=100) (by simp[fo]) (by omega) (by omega)
   refine dP h1 h2 w4 ha ?_;exact⟨6 - 3,by omega,4,by omega,rfl,rfl⟩
  ·have h1:((4:Nat):Int)<=6:=by decide
   have h2:((4:Nat):Int)<((7:Nat):Int):=by decide
   have w4:IntKind.i64.wrap (((4:Nat):Int)+1)=((5:Nat):Int):=by decide
   have ha:∀x,_:=fun x=>ed (E:=cR.cs) (l:=(fo 1 ⟨0,(r.seq+1).toNat,size.toNat,root⟩ S).take 4) (xs:=[x]) (b:=24) (n:=100) (by simp[fo]) (by omega) (by omega)
   refine dP h1 h2 w4 ha ?_;exact⟨6 - 4,by omega,5,by omega,rfl,rfl⟩
  ·have h1:((5:Nat):Int)<=6:=by decide
   have h2:((5:Nat):Int)<((7:Nat):Int):=by decide
   have w4:IntKind.i64.wrap (((5:Nat):Int)+1)=((6:Nat):Int):=by decide
   have ha:∀x,_:=fun x=>ed (E:=cR.cs) (l:=(fo 1 ⟨0,(r.seq+1).toNat,size.toNat,root⟩ S).take 5) (xs:=[x]) (b:=24) (n:=100) (by simp[fo]) (by omega) (by omega)
   refine dP h1 h2 w4 ha ?_;exact⟨6 - 5,by omega,6,by omega,rfl,rfl⟩
  ·have h1:((6:Nat):Int)<=6:=by decide
   have h2:((6:Nat):Int)<((7:Nat):Int):=by decide
   have w4:IntKind.i64.wrap (((6:Nat):Int)+1)=((7:Nat):Int):=by decide
   have ha:∀x,_:=fun x=>ed (E:=cR.cs) (l:=(fo 1 ⟨0,(r.seq+1).toNat,size.toNat,root⟩ S).take 6) (xs:=[x]) (b:=24) (n:=100) (by simp[fo]) (by omega) (by omega)
   refine dP h1 h2 w4 ha ?_;exact⟨6 - 6,by omega,7,by omega,rfl,rfl⟩
  have h1:¬(((7:Nat):Int)<=6):=by decide
  have ha:∀x,_:=fun x=>ed (E:=cR.cs) (l:=(fo 1 ⟨0,(r.seq+1).toNat,size.toNat,root⟩ S).take 7) (xs:=[x]) (b:=24) (n:=100) (by simp[fo]) (by omega) (by omega)
  refine b8 h1 ha ?_;refine aq.intro (MQ (fo 1 ⟨0,(r.seq+1).toNat,size.toNat,root⟩ S) (by show 8 * 24<=_;decide)) ?_;exact dy
end
theorem Ij (d:cX) (s:dT) (S:Nat):eB d (fo 1 s S)={d with one:=⟨S,s.seq,s.size,s.root⟩}:=rfl
theorem NX (d:cX) (s:dT) (S:Nat):eB d (fo 2 s S)={d with two:=⟨S,s.seq,s.size,s.root⟩}:=rfl
theorem aa9 {d:cX}{size:Int}{root:aX}(h:aS size 1 256=true) (hq:(ej d).1.seq≠1000000000):
  gr ⟨kD (jk d size root),(jk d size root).seq,(jk d size root).size,(jk d size root).root⟩=true:=by
 have hb:=BX d;have hi:=cr.1 h;have e:kD ⟨kD (jk d size root),(jk d size root).seq,(jk d size root).size,(jk d size root).root⟩=kD (jk d size root):=rfl;have e1:(jk d size root).seq=((ej d).1.seq+1).toNat:=rfl;have e2:(jk d size root).size=size.toNat:=rfl;simp only[gr,e,e1,e2,Bool.and_eq_true,beq_self_eq_true,decide_eq_true_eq,true_and];refine⟨beq_self_eq_true _,by omega⟩
theorem Zy {d:cX}{size:Int}{root:aX}(h:aS size 1 256=true) (hq:(ej d).1.seq≠1000000000):
  ej (eB d (jQ d size root))=(⟨(ej d).1.seq+1,size,root⟩,xg d):=by
 have hb:=BX d;have hi:=cr.1 h;have ho:=aa9 (root:=root) h hq;rw[vd,if_pos ⟨h,hq⟩];have e1:(jk d size root).seq=((ej d).1.seq+1).toNat:=rfl;have e2:(jk d size root).size=size.toNat:=rfl;have e3:(jk d size root).root=root:=rfl;generalize kD (jk d size root)=S at *;generalize jk d size root=s at *;obtain⟨s0,sq,sz,sr⟩:=s;simp only at e1 e2 e3 ho;subst e1 e2 e3;unfold xg;cases h1:gr d.one<;>cases h2:gr d.two
 ·have r:ej d=(⟨0,0,gh⟩,0):=by unfold ej;rw[h1,h2]
  rw[r]at ho ⊢;rw[if_neg (by decide),Ij];unfold ej;simp only[h2,ho,dT.l6];refine Prod.ext ?_ rfl;simp only[dT.l6,tz.mk.injEq];exact⟨rfl,by omega,trivial⟩
 ·have r:ej d=(d.two.l6,2):=by unfold ej;rw[h1,h2]
  rw[r]at ho hb hq ⊢;simp only[dT.l6]at ho hb hq ⊢;rw[if_neg (by simp),Ij];unfold ej;simp only[h2,ho];rw[if_neg (by omega)];refine Prod.ext ?_ rfl;simp only[dT.l6,tz.mk.injEq]
  first|omega|exact⟨by omega,by omega,trivial⟩|exact⟨by omega,by omega,rfl⟩|(constructor<;>omega)
 ·have r:ej d=(d.one.l6,1):=by unfold ej;rw[h1,h2]
  rw[r]at ho hb hq ⊢;simp only[dT.l6]at ho hb hq ⊢;simp only[if_true];rw[NX];unfold ej;simp only[h1,ho];rw[if_pos (by omega)];refine Prod.ext ?_ rfl;simp only[dT.l6,tz.mk.injEq]
  first|omega|exact⟨by omega,by omega,trivial⟩|exact⟨by omega,by omega,rfl⟩|(constructor<;>omega)
 by_cases q:d.two.seq>d.one.seq
 ·have r:ej d=(d.two.l6,2):=by unfold ej;rw[h1,h2];simp only;rw[if_pos q]
  rw[r]at ho hb hq ⊢;simp only[dT.l6]at ho hb hq ⊢;rw[if_neg (by simp),Ij];unfold ej;simp only[h2,ho];rw[if_neg (by omega)];refine Prod.ext ?_ rfl;simp only[dT.l6,tz.mk.injEq]
  first|omega|exact⟨by omega,by omega,trivial⟩|exact⟨by omega,by omega,rfl⟩|(constructor<;>omega)
 have r:ej d=(d.one.l6,1):=by unfold ej;rw[h1,h2];simp only;rw[if_neg q]
 rw[r]at ho hb hq ⊢;simp only[dT.l6]at ho hb hq ⊢;simp only[if_true];rw[NX];unfold ej;simp only[h1,ho];rw[if_pos (by omega)];refine Prod.ext ?_ rfl;simp only[dT.l6,tz.mk.injEq]
 first|omega|exact⟨by omega,by omega,trivial⟩|exact⟨by omega,by omega,rfl⟩|(constructor<;>omega)
theorem SQ {d:cX}{size:Int}{root:aX}(h:jQ d size root≠[]):cO (eB d (jQ d size root))=⟨size,root⟩:=by
 have hc:aS size 1 256=true/\(ej d).1.seq≠1000000000:=by
  apply Classical.byContradiction;intro hn;exact h (by rw[vd,if_neg hn])
 unfold cO;rw[Zy hc.1 hc.2];have:xg d≠0:=by unfold xg;split<;>decide
 rw[if_neg this]
theorem abG {d:cX}(h:d.ok) {r:cR}(hr:r.value<18446744073709551616):(mO d r).ok:=by
 unfold mO;split
 ·exact⟨Rv h.a hr,h.b⟩
 split
 ·exact⟨h.a,Rv h.b hr⟩
 exact h
theorem FO:∀{l:List cR}{d:cX},d.ok->(∀r∈l,r.value<18446744073709551616)->(eB d l).ok
 | [],d,h,_=>h
 | r::l,d,h,hl=>FO (l:=l) (d:=mO d r) (abG h (hl r (List.mem_cons_self ..))) fun x hx=>hl x (List.mem_cons_of_mem _ hx)
theorem ZD {to:Int}{s:dT}{S:Nat}(h:s.ok) (hS:S<18446744073709551616):∀r∈fo to s S,r.value<18446744073709551616:=by
 obtain⟨h1,h2,h3,h4,h5,h6,h7⟩:=h;intro r hr;simp only[fo,List.mem_cons,List.not_mem_nil,or_false]at hr;rcases hr with rfl|rfl|rfl|rfl|rfl|rfl|rfl|rfl
 all_goals first|exact(by decide:(0:Nat)<18446744073709551616)|assumption
theorem Ru {d:cX}{size:Int}{root:aX}(hr:root.ok):∀r∈jQ d size root,r.value<18446744073709551616:=by
 rw[vd];split
 ·rename_i h;exact ZD (P8 hr h.1) (abD _)
 intro r hr;cases hr
theorem ach {d:cX}{size:Int}{root:aX}(h:d.ok) (hr:root.ok):(eB d (jQ d size root)).ok:=FO h (Ru hr)
theorem NR:qb.ok:=by
 have hz:(⟨0,0,0,gh⟩:dT).ok:=⟨by decide,by decide,by decide,pX⟩;exact⟨hz,hz⟩
def dT.wl (s:dT):List Nat:=[s.sum,s.seq,s.size,s.root.a,s.root.b,s.root.c,s.root.d]
def jo (at_:Int) (l:List Nat) (n:Nat):List cR:=((List.range n).filter fun k=>!(l.getD k 0==0)).map fun k:Nat=>(⟨at_,(k:Int),0⟩:cR)
theorem JX (at_:Int) (l:List Nat) (n:Nat):jo at_ l (n+1)=jo at_ l n++(if l.getD n 0=0 then [] else [⟨at_,n,0⟩]):=by
 unfold jo;rw[List.range_succ,List.filter_append,List.map_append];congr 1;by_cases h:l.getD n 0=0
 ·rw[if_pos h,List.filter_cons,h];rfl
 rw[if_neg h,List.filter_cons,beq_false_of_ne h];rfl
theorem FM (at_:Int) (l:List Nat) (n:Nat):(jo at_ l n).length<=n:=by
 unfold jo;rw[List.length_map];have h:=List.length_filter_le (fun k=>!(l.getD k 0==0)) (List.range n);rw[List.length_range]at h;exact h
def eY (at_:Int) (s:dT):List cR:=if gr s then [] else jo at_ s.wl 7
def gQ (d:cX):List cR:=eY 1 d.one++eY 2 d.two
def fu (d:cX) (l:List cR) (cut:Int):cX:=eB d (l.take cut.toNat)
theorem BU (at_:Int) (s:dT):(eY at_ s).length<=7:=by
 unfold eY;split
 ·exact aR _
 exact FM _ _ _
theorem BY (d:cX):(gQ d).length<=14:=by
 unfold gQ;rw[List.length_append];have:=BU 1 d.one;have:=BU 2 d.two;omega
theorem JW (at_:Int) (l:List Nat) (n:Nat):∀r∈jo at_ l n,r.slot=at_/\r.value=0:=by
 intro r hr;obtain⟨k,-,rfl⟩:=List.mem_map.1 hr;exact⟨rfl,rfl⟩
theorem FL (at_:Int) (s:dT):∀r∈eY at_ s,r.slot=at_/\r.value=0:=by
 unfold eY;split
 ·intro r hr;cases hr
 exact JW _ _ _
theorem abK (d:cX):∀r∈gQ d,r.value=0:=by
 intro r hr;rcases List.mem_append.1 hr with h|h
 ·exact(FL _ _ r h).2
 exact(FL _ _ r h).2
theorem aaA (x:Int):kZ .u64 x 1≠0:=by
 unfold kZ;rw[wU];intro h;have h1:((BitVec.ofInt IntKind.u64.bits x||| BitVec.ofInt IntKind.u64.bits 1).toNat:Int)%18446744073709551616=0:=h;have h2:(BitVec.ofInt IntKind.u64.bits x||| BitVec.ofInt IntKind.u64.bits 1).toNat<18446744073709551616:=(BitVec.ofInt IntKind.u64.bits x||| BitVec.ofInt IntKind.u64.bits 1).isLt;have h3:(BitVec.ofInt IntKind.u64.bits x||| BitVec.ofInt IntKind.u64.bits 1).toNat=0:=by omega
 rw[BitVec.toNat_or]at h3;have h4:(BitVec.ofInt IntKind.u64.bits 1).toNat=1:=by decide
 rw[h4]at h3;have h5:1<=(BitVec.ofInt IntKind.u64.bits x).toNat||| 1:=Nat.right_le_or
 omega
theorem abC (s:dT):kD s≠0:=by
 unfold kD;have h:=aaA ((gu (eN s 6)).a.toNat:Int);have h2:=Jz ((gu (eN s 6)).a.toNat:Int);omega
theorem EM {s:dT}(h:s.sum=0):gr s=false:=by
 have:=abC s;unfold gr;rw[h];have:(((0:Nat):Int)==(kD s:Int))=false:=by rw[beq_eq_false_iff_ne];omega
 rw[this];rfl
theorem Qa {s:dT}{w:Int}(h:s.sum=0):(sE s w 0).sum=0:=by
 unfold sE
 repeat' split
 all_goals first|rfl|exact h
def wy (s t:dT):Prop:=(gr s=true/\t=s)\/(gr s=false/\gr t=false)
theorem wy.refl (s:dT):wy s s:=by
 cases h:gr s with
 | true=>exact .inl ⟨h,rfl⟩
 | false=>exact .inr ⟨h,h⟩
theorem wy.read {d e:cX}(h1:wy d.one e.one) (h2:wy d.two e.two):ej e=ej d:=by
 unfold ej;rcases h1 with ⟨a1,b1⟩|⟨a1,b1⟩<;>rcases h2 with ⟨a2,b2⟩|⟨a2,b2⟩
 ·rw[b1,b2]
 ·rw[b1,a1,a2,b2]
 ·rw[b2,a1,a2,b1]
 rw[a1,a2,b1,b2]
theorem AP:∀{l:List cR}{d:cX},(∀r∈l,r.value=0)->(d.one.sum=0->(eB d l).one.sum=0)/\(d.two.sum=0->(eB d l).two.sum=0)
 | [],d,_=>⟨id,id⟩
 | r::l,d,h=>by
  have hr:=h r (List.mem_cons_self ..);obtain⟨i1,i2⟩:=AP (l:=l) (d:=mO d r) fun x hx=>h x (List.mem_cons_of_mem _ hx)
  have e:eB d (r::l)=eB (mO d r) l:=rfl;rw[e];refine⟨fun h0=>i1 ?_,fun h0=>i2 ?_⟩
  ·unfold mO;rw[hr];split
   ·exact Qa h0
   split
   ·exact h0
   exact h0
  unfold mO;rw[hr];split
  ·exact h0
  split
  ·exact Qa h0
  exact h0
theorem NY:∀{l:List cR}{d:cX},(∀r∈l,r.slot=1)->(eB d l).two=d.two
 | [],d,_=>rfl
 | r::l,d,h=>by
  have e:eB d (r::l)=eB (mO d r) l:=rfl;rw[e,NY (l:=l) fun x hx=>h x (List.mem_cons_of_mem _ hx)];unfold mO;rw[if_pos (h r (List.mem_cons_self ..))]
theorem NW:∀{l:List cR}{d:cX},(∀r∈l,r.slot=2)->(eB d l).one=d.one
 | [],d,_=>rfl
 | r::l,d,h=>by
  have e:eB d (r::l)=eB (mO d r) l:=rfl;rw[e,NW (l:=l) fun x hx=>h x (List.mem_cons_of_mem _ hx)];unfold mO;have h2:=h r (List.mem_cons_self ..);rw[if_neg (by rw[h2];decide),if_pos h2]
theorem Xl (d:cX) (a b:List cR):eB d (a++b)=eB (eB d a) b:=by unfold eB;exact List.foldl_append
theorem Rj (at_:Int) (s:dT):(s.sum=0)\/∃l,jo at_ s.wl 7=⟨at_,0,0⟩::l:=by
 by_cases h:s.sum=0
 ·exact .inl h
 refine .inr ?_;unfold jo;have e:List.range 7=[0,1,2,3,4,5,6]:=rfl;have h0:(s.wl.getD 0 0==0)=false:=beq_false_of_ne h;rw[e,List.filter_cons,h0];exact⟨_,rfl⟩
theorem y0 {l:List cR}{P:cR->Prop}(h:∀r∈l,P r) (j:Nat):∀r∈l.take j,P r:=fun r hr=>h r (List.mem_of_mem_take hr)
theorem abo (d:cX) (j:Nat):wy d.one (eB d ((eY 1 d.one).take j)).one/\(eB d ((eY 1 d.one).take j)).two=d.two:=by
 refine⟨?_,NY (y0 (fun r hr=>(FL 1 d.one r hr).1) j)⟩;cases h:gr d.one with
 | true=>
  have e:eY 1 d.one=[]:=by unfold eY;rw[h];rfl
  rw[e,List.take_nil];exact .inl ⟨h,rfl⟩
 | false=>
  refine .inr ⟨h,?_⟩;have e:eY 1 d.one=jo 1 d.one.wl 7:=by unfold eY;rw[h];rfl
  have hv:=fun r hr=>(JW 1 d.one.wl 7 r hr).2
  rw[e];rcases Rj 1 d.one with h0|⟨l,hl⟩
  ·exact EM ((AP (y0 hv j)).1 h0)
  cases j with
  | zero=>exact h
  | succ j=>
   rw[hl]at hv ⊢;rw[List.take_succ_cons];exact EM ((AP (d:=mO d ⟨1,0,0⟩) (y0 (fun r hr=>hv r (List.mem_cons_of_mem _ hr)) j)).1 rfl)
theorem abn (d:cX) (j:Nat):wy d.two (eB d ((eY 2 d.two).take j)).two/\(eB d ((eY 2 d.two).take j)).one=d.one:=by
 refine⟨?_,NW (y0 (fun r hr=>(FL 2 d.two r hr).1) j)⟩;cases h:gr d.two with
 | true=>
  have e:eY 2 d.two=[]:=by unfold eY;rw[h];rfl
  rw[e,List.take_nil];exact .inl ⟨h,rfl⟩
 | false=>
  refine .inr ⟨h,?_⟩;have e:eY 2 d.two=jo 2 d.two.wl 7:=by unfold eY;rw[h];rfl
  have hv:=fun r hr=>(JW 2 d.two.wl 7 r hr).2
  rw[e];rcases Rj 2 d.two with h0|⟨l,hl⟩
  ·exact EM ((AP (y0 hv j)).2 h0)
  cases j with
  | zero=>exact h
  | succ j=>
   rw[hl]at hv ⊢;rw[List.take_succ_cons];exact EM ((AP (d:=mO d ⟨2,0,0⟩) (y0 (fun r hr=>hv r (List.mem_cons_of_mem _ hr)) j)).2 rfl)
theorem Ri (d:cX) (j:Int):ej (fu d (gQ d) j)=ej d:=by
 unfold fu gQ;rw[List.take_append,Xl];obtain⟨k1,e1⟩:=abo d j.toNat;generalize eB d ((eY 1 d.one).take j.toNat)=D at *;obtain⟨k2,e2⟩:=abn D (j.toNat - (eY 1 d.one).length);rw[e1]at k2 e2;exact wy.read (by rw[e2];exact k1) k2
section
set_option maxHeartbeats 4000000
set_option maxRecDepth 10000
set_option linter.unusedSectionVars false
def Ue:cc:=⟨[(230,.cm [true])],cw,cz,false⟩
theorem Fb (l:List cR) (h:l.length<=100000):∀x,(l.map cR.cs++[x]).length<=maxLen/\(l.map cR.cs++[x]).length * 24<=140737488355328:=fun x=>ed (E:=cR.cs) (l:=l) (xs:=[x]) (b:=24) (n:=1000000) (by simp;omega) (by omega) (by omega)
def xq (d:cX):Nat->List cR
 | 0=>[]
 | 1=>eY 1 d.one
 | _=>gQ d
theorem VE (d:cX) (h:d.ok):ba Tryz.prog 177 [.agg d.cs] (.aw 0 0 [] 3 0 (gQ d).length) [([],⟨3,(gQ d).map cR.cs,2,false⟩)]:=by
 refine aF Ue false Tryz.f177 ?_;conv=>enter[1];reduce
 refine bu Tryz.f177 43 [.tmp 2] (by kernel_rfl) (by decide +kernel) rfl ?_;have rB:=BY d;have oq:=BU 1 d.one;refine au ?_;refine mj [(3,3)] (fun n s=>∃i,i<=2/\n=2 - i/\s=⟨43,[(3,.aw 3 0 [] 3 0 (xq d i).length),(12,.aw 12 0 [] 7 0 2),(13,vI ((2:Nat):Int)),(14,vI i)],[(3,0,one ⟨3,(xq d i).map cR.cs,2,false⟩),(12,0,one ⟨7,[d.one.cs,d.two.cs],2,false⟩)],1⟩) 2 ?_ ?_
 ·refine au ?_;exact⟨0,by omega,rfl,rfl⟩
 have x0:(0:Int)<((2:Nat):Int):=by decide
 have x1:(1:Int)<((2:Nat):Int):=by decide
 have x2:¬(((2:Nat):Int)<((2:Nat):Int)):=by decide
 have u0:IntKind.i64.wrap (0+1)=1:=aN (by omega);have u1:IntKind.i64.wrap (1+1)=2:=aN (by omega);have z0:((0:Nat):Int)=0:=rfl;have z1:((1:Nat):Int)=1:=rfl;have z2:((2:Nat):Int)=2:=rfl;have z7:((7:Nat):Int)=7:=rfl;have y7:¬(((7:Nat):Int)<((7:Nat):Int)):=by decide
 rintro n s ⟨i,hi,rfl,rfl⟩;have hi3:i=0\/i=1\/i=2:=by omega
 rcases hi3 with rfl|rfl|rfl
 ·have hS:=HK d.one h.a;have hW:=A1 d.one;have e1:xq d 1=[]++eY 1 d.one:=by rw[List.nil_append];rfl
  have e0:xq d 0=[]:=rfl;have hA:([]:List cR).length<=7:=by simp
  rw[e0];generalize ([]:List cR)=A at *;generalize d.one=S at *;simp -implicitDefEqProofs only[go_sem,z0,z1,x0,u0];refine aq.intro hS ?_;cases hs:gr S with
  | true=>
   simp -implicitDefEqProofs only[go_sem,z0,z1,u0];refine⟨2 - 1,by omega,1,by omega,rfl,?_⟩;have e2:eY 1 S=[]:=by unfold eY;rw[hs];rfl
   rw[e1,e2,List.append_nil];rfl
  | false=>
   have e2:eY 1 S=jo 1 S.wl 7:=by unfold eY;rw[hs];rfl
   rw[e2]at e1;simp -implicitDefEqProofs only[go_sem,z0,z1,u0];refine aE.intro hW ?_;simp -implicitDefEqProofs only[go_sem,z0,z1,u0];refine dq (fun n s=>∃k,k<=7/\n=7 - k/\s=⟨43,[(3,.aw 3 0 [] 3 0 (A++jo 1 S.wl k).length),(4,vI 0),(12,.aw 12 0 [] 7 0 2),(13,vI ((2:Nat):Int)),(14,vI 0),(21,.aw 21 0 [] 1 0 7),(22,vI ((7:Nat):Int)),(23,vI k)],[(3,0,one ⟨3,(A++jo 1 S.wl k).map cR.cs,2,false⟩),(12,0,one ⟨7,[S.cs,d.two.cs],2,false⟩),(21,0,one ⟨1,tQ 7 10021 0,0,false⟩),(10021,0,one ⟨7,[S.cs],0,false⟩)],1⟩) 7 ?_ ?_
   ·refine au ?_;refine⟨0,by omega,rfl,?_⟩;have g0:jo 1 S.wl 0=[]:=rfl;rw[g0,List.append_nil];rfl
   rintro n s ⟨k,hk,rfl,rfl⟩;have qB:=FM 1 S.wl k;have gv:=Fb (A++jo 1 S.wl k) (by rw[List.length_append];omega);rcases bp k 7 with ab|bM
   ·have kF:=JX 1 S.wl k;have Gt:([[.ptr 10021 0 [] 7 0 0],[.ptr 10021 0 [] 7 0 1],[.ptr 10021 0 [] 7 0 2],[.ptr 10021 0 [] 7 0 3],[.ptr 10021 0 [] 7 0 4],[.ptr 10021 0 [] 7 0 5],[.ptr 10021 0 [] 7 0 6]]:List (List AV))[k]?=some [.ptr 10021 0 [] 7 0 k]/\([vU S.sum,vU S.seq,vU S.size,vU S.root.a,vU S.root.b,vU S.root.c,vU S.root.d]:List AV)[k]?=some (vU (S.wl.getD k 0)):=by
     have rE:k=0\/k=1\/k=2\/k=3\/k=4\/k=5\/k=6:=by omega
     rcases rE with rfl|rfl|rfl|rfl|rfl|rfl|rfl<;>exact⟨rfl,rfl⟩
    have ah:(k:Int)<((7:Nat):Int):=by omega
    have w1:IntKind.i64.wrap ((k:Int)+1)=((k+1:Nat):Int):=by rw[aN (by omega)];omega
    generalize S.wl.getD k 0=v at *;obtain⟨Cs,vu⟩:=Gt;by_cases z:v=0
    ·have hb:((v:Int) != 0)=false:=by rw[z];rfl
     rw[if_pos z,List.append_nil]at kF;refine qc ah Cs vu hb w1 ?_;exact⟨_,by omega,k+1,ab,rfl,by first|(rw[kF];done)|(rw[kF];rfl)⟩
    have hb:((v:Int) != 0)=true:=by rw[bne_iff_ne];omega
    rw[if_neg z]at kF;simp -implicitDefEqProofs only[go_sem,ah,Cs,vu,hb,gv,w1,u0,u1];refine⟨_,by omega,k+1,ab,rfl,?_⟩;rw[kF,<-List.append_assoc];simp only[List.length_append,List.length_map,List.map_append,List.length_cons,List.length_nil,List.map_cons,List.map_nil];rfl
   have rE:k=7:=by omega
   subst rE;simp -implicitDefEqProofs only[go_sem,y7,u0];refine⟨2 - 1,by omega,1,by omega,rfl,?_⟩;rw[e1];rfl
 ·have hS:=HK d.two h.b;have hW:=A1 d.two;have e1:xq d 2=eY 1 d.one++eY 2 d.two:=by rfl
  have e0:xq d 1=eY 1 d.one:=rfl;have hA:(eY 1 d.one).length<=7:=by exact oq
  rw[e0];generalize (eY 1 d.one:List cR)=A at *;generalize d.two=S at *;refine dP z0 z1 x1 u1 ?_;refine aq.intro hS ?_;cases hs:gr S with
  | true=>
   refine eV z0 z1 u1 ?_;refine⟨2 - 2,by omega,2,by omega,rfl,?_⟩;have e2:eY 2 S=[]:=by unfold eY;rw[hs];rfl
   rw[e1,e2,List.append_nil];rfl
  | false=>
   have e2:eY 2 S=jo 2 S.wl 7:=by unfold eY;rw[hs];rfl
   rw[e2]at e1;refine eV z0 z1 u1 ?_;refine ji hW z0 z1 u1 ?_;refine dq (fun n s=>∃k,k<=7/\n=7 - k/\s=⟨43,[(3,.aw 3 0 [] 3 0 (A++jo 2 S.wl k).length),(4,vI 1),(12,.aw 12 0 [] 7 0 2),(13,vI ((2:Nat):Int)),(14,vI 1),(21,.aw 21 0 [] 1 0 7),(22,vI ((7:Nat):Int)),(23,vI k)],[(3,0,one ⟨3,(A++jo 2 S.wl k).map cR.cs,2,false⟩),(12,0,one ⟨7,[d.one.cs,S.cs],2,false⟩),(21,0,one ⟨1,tQ 7 10021 0,0,false⟩),(10021,0,one ⟨7,[S.cs],0,false⟩)],1⟩) 7 ?_ ?_
   ·refine au ?_;refine⟨0,by omega,rfl,?_⟩;have g0:jo 2 S.wl 0=[]:=rfl;rw[g0,List.append_nil];rfl
   rintro n s ⟨k,hk,rfl,rfl⟩;have qB:=FM 2 S.wl k;have gv:=Fb (A++jo 2 S.wl k) (by rw[List.length_append];omega);rcases bp k 7 with ab|bM
   ·have kF:=JX 2 S.wl k;have Gt:([[.ptr 10021 0 [] 7 0 0],[.ptr 10021 0 [] 7 0 1],[.ptr 10021 0 [] 7 0 2],[.ptr 10021 0 [] 7 0 3],[.ptr 10021 0 [] 7 0 4],[.ptr 10021 0 [] 7 0 5],[.ptr 10021 0 [] 7 0 6]]:List (List AV))[k]?=some [.ptr 10021 0 [] 7 0 k]/\([vU S.sum,vU S.seq,vU S.size,vU S.root.a,vU S.root.b,vU S.root.c,vU S.root.d]:List AV)[k]?=some (vU (S.wl.getD k 0)):=by
     have rE:k=0\/k=1\/k=2\/k=3\/k=4\/k=5\/k=6:=by omega
     rcases rE with rfl|rfl|rfl|rfl|rfl|rfl|rfl<;>exact⟨rfl,rfl⟩
    have ah:(k:Int)<((7:Nat):Int):=by omega
    have w1:IntKind.i64.wrap ((k:Int)+1)=((k+1:Nat):Int):=by rw[aN (by omega)];omega
    generalize S.wl.getD k 0=v at *;obtain⟨Cs,vu⟩:=Gt;by_cases z:v=0
    ·have hb:((v:Int) != 0)=false:=by rw[z];rfl
     rw[if_pos z,List.append_nil]at kF;refine qc ah Cs vu hb w1 ?_;exact⟨_,by omega,k+1,ab,rfl,by first|(rw[kF];done)|(rw[kF];rfl)⟩
    have hb:((v:Int) != 0)=true:=by rw[bne_iff_ne];omega
    rw[if_neg z]at kF;simp -implicitDefEqProofs only[go_sem,ah,Cs,vu,hb,gv,w1,u0,u1];refine⟨_,by omega,k+1,ab,rfl,?_⟩;rw[kF,<-List.append_assoc];simp only[List.length_append,List.length_map,List.map_append,List.length_cons,List.length_nil,List.map_cons,List.map_nil];rfl
   have rE:k=7:=by omega
   subst rE;refine b8 y7 u1 ?_;refine⟨2 - 2,by omega,2,by omega,rfl,?_⟩;rw[e1];rfl
 have e2:xq d 2=gQ d:=rfl;rw[e2];refine aA x2 ?_;refine cT (MQ (gQ d) (by omega)) ?_
 first|exact True.intro|rfl|exact⟨rfl,rfl⟩
theorem VF (d:cX) (l:List cR) (cut:Int) (hl:l.length<=maxLen):ba Tryz.prog 176 [.agg d.cs,.ro 3 (l.map cR.cs),vI cut] (.agg (fu d l cut).cs) []:=by
 refine aF Ue false Tryz.f176 ?_;conv=>enter[1];reduce
 refine bu Tryz.f176 16 [.cell 6 75] (by kernel_rfl) (by decide +kernel) rfl ?_;unfold fu;have k1:0<=max 0 (min cut (l.length:Int))/\max 0 (min cut (l.length:Int))<=(l.length:Int):=by omega
 have k2:l.take (max 0 (min cut (l.length:Int))).toNat=l.take cut.toNat:=by
  by_cases h:cut<=(l.length:Int)
  ·rw[show(max 0 (min cut (l.length:Int))).toNat=cut.toNat by omega]
  rw[List.take_of_length_le (by omega),List.take_of_length_le (by omega)]
 have yf:=MS d (l.take cut.toNat) (by rw[List.length_take];omega);simp -implicitDefEqProofs only[go_sem,k1,Nat.sub_zero,k2];refine aq.intro yf ?_;exact dy
end
end Go.Proofs.YtobpfkgabdeefaaGreat.E
