/- Contracts: sums of slots, records, what a disk holds; Contracts: raw writes; the raw writes that keep a point -/
import Derived.Test.YtobpfkgabdeefaaGreatP11
import Derived.Test.YtobpfkgabdeefaaGreatP7
namespace Go.Proofs.YtobpfkgabdeefaaGreat.E
open Go Go.RowKit
set_option maxHeartbeats 4000000
set_option maxRecDepth 10000
set_option linter.unusedSimpArgs false
set_option linter.unusedVariables false
set_option linter.unusedSectionVars false
section
def rA:bX:=⟨[(152,.cm [false,true,false]),(230,.cm [true])],[9,10,11],[24,26,30,44,47,50,51,52,57,58,59,62,76,88,138,185,186,187,253,254,297,311],false⟩
attribute [-go_sem] oS
@[go_sem] theorem aje:oS Tryz.prog 39 0=some 37:=by kernel_rfl
def tC (n a:Nat):Nat→List (List AV)
 | 0=>[[.ptr a 0 [] n 0 0],[.ptr a 0 [] n 0 1],[.ptr a 0 [] n 0 2],[.ptr a 0 [] n 0 3],[.ptr a 0 [] n 0 4],[.ptr a 0 [] n 0 5],[.ptr a 0 [] n 0 6]]
 | _=>[[.ptr a 0 [] n 0 7],[.ptr a 0 [] n 0 8],[.ptr a 0 [] n 0 9],[.ptr a 0 [] n 0 10],[.ptr a 0 [] n 0 11],[.ptr a 0 [] n 0 12],[.ptr a 0 [] n 0 13]]
attribute [go_sem] tC
theorem A6 (s:dM):bb Tryz.prog 230 [(1000000,0,one ⟨7,[s.cs],0,false⟩)] [.ptr 1000000 0 [] 7 0 0] (.au 0 0 [] 1 0 7) [(1000000,0,one ⟨7,[s.cs],0,false⟩),(0,0,one ⟨1,tC 7 1000000 0,0,false⟩)]:=by
 refine aA rA false Tryz.f230 ?_;conv=>enter[1];reduce
 refine bT Tryz.f230 29 [.tmp 2] (by kernel_rfl) (by decide +kernel) rfl ?_;exact dt
theorem Xo (s:cS):bb Tryz.prog 230 [(1000000,0,one ⟨14,[s.cs],0,false⟩)] [.ptr 1000000 0 [] 14 0 0] (.au 0 0 [] 1 0 7) [(1000000,0,one ⟨14,[s.cs],0,false⟩),(0,0,one ⟨1,tC 14 1000000 0,0,false⟩)]:=by
 refine aA rA false Tryz.f230 ?_;conv=>enter[1];reduce
 refine bT Tryz.f230 29 [.tmp 2] (by kernel_rfl) (by decide +kernel) rfl ?_;exact dt
theorem Xn (s:cS):bb Tryz.prog 230 [(1000000,0,one ⟨14,[s.cs],0,false⟩)] [.ptr 1000000 0 [] 14 0 7] (.au 0 0 [] 1 0 7) [(1000000,0,one ⟨14,[s.cs],0,false⟩),(0,0,one ⟨1,tC 14 1000000 7,0,false⟩)]:=by
 refine aA rA false Tryz.f230 ?_;conv=>enter[1];reduce
 refine bT Tryz.f230 29 [.tmp 2] (by kernel_rfl) (by decide +kernel) rfl ?_;exact dt
theorem Vu (s:dM) (h:s.ok):aR Tryz.prog 204 [.agg s.cs] (vU (kb s)) []:=by
 refine aA rA false Tryz.f204 ?_;conv=>enter[1];reduce
 refine bf Tryz.f204 17 [.tmp 2] (by kernel_rfl) (by decide +kernel) rfl ?_;have hs:∀v,(fN v 8).size=8:=fun v=>JM v 8
 have hb:s.root.bytes.size=32:=by unfold aW.bytes;simp[hs]
 have z1:¬((((fN s.seq 8).size+(fN s.size 8).size:Nat):Int)>9223372036854775807):=by rw[hs,hs];decide
 have z2:¬((((fN s.seq 8++fN s.size 8).size+s.root.bytes.size:Nat):Int)>9223372036854775807):=by rw[hb];simp[hs]
 have hh:=vO (fN s.seq 8++fN s.size 8++s.root.bytes) (by rw[Pg];show(eC s 6).length≤_;rw[I6 s (by omega)];omega);have eT:(fN s.seq 8++fN s.size 8++s.root.bytes).data.toList=eC s 6:=by rw[Pg]
 rw[eT]at hh;have ho:=JE ((fY (eC s 6)).a.toNat:Int);have hm:(lf .u64 ((fY (eC s 6)).a.toNat:Int) 1).toNat=kb s:=rfl;rw[hm]at ho;generalize fY (eC s 6)=H at *;refine aw ?_;refine cz (rC _ h.q) ?_;refine jm (rC _ h.z) z1 ?_;refine jm (Vd _ h.r) z2 ?_;refine aq.intro hh ?_;exact er ho
theorem Vt (s:dM):aR Tryz.prog 206 [.agg s.cs] (vU (kb s)) []:=by
 refine aA rA false Tryz.f206 ?_;conv=>enter[1];reduce
 refine bf Tryz.f206 25 [.tmp 2] (by kernel_rfl) (by decide +kernel) rfl ?_;have hh:=vN ⟨(eC s 6).toArray⟩ (by show(eC s 6).length≤_;rw[I6 s (by omega)];omega);have eT:(⟨(eC s 6).toArray⟩:ByteArray).data.toList=eC s 6:=rfl;rw[eT]at hh;have ho:=JE ((fY (eC s 6)).a.toNat:Int);have hm:(lf .u64 ((fY (eC s 6)).a.toNat:Int) 1).toNat=kb s:=rfl;rw[hm]at ho;generalize fY (eC s 6)=H at *;refine aw ?_;refine aD.intro (A6 s) ?_;have h17:(1:Int)≤((7:Nat):Int):=by decide
 refine aC h17 ?_;refine jX [(3,1)] (fun m z=>∃i,i≤6∧m=6 - i∧z=⟨25,[(3,.au 3 0 [] 1 0 (eC s i).length),(7,.au 7 0 [] 1 1 6),(8,vI ((6:Nat):Int)),(9,vI i)],[(3,0,one ⟨1,(eC s i).map cW,2,false⟩),(7,0,one ⟨1,tC 7 10007 0,0,false⟩),(10007,0,one ⟨7,[s.cs],0,false⟩)],1⟩) 6 ?_ ?_
 ·refine aw ?_;exact⟨0,by omega,rfl,rfl⟩
 rintro m z ⟨i,hi,rfl,rfl⟩;have hlen:=I6 s hi;have fK:i=0∨i=1∨i=2∨i=3∨i=4∨i=5∨i=6:=by omega
 rcases fK with rfl|rfl|rfl|rfl|rfl|rfl|rfl
 ·have ae:((0:Nat):Int)<((6:Nat):Int):=by decide
  have w4:IntKind.i64.wrap (((0:Nat):Int)+1)=((1:Nat):Int):=by decide
  have e:eC s 1=eC s 0++low s.seq 8:=by simp[eC]
  refine cg ae w4 ?_;refine il (vX (eC s 0) s.seq (by omega)) w4 ?_;exact⟨5 - 0,by omega,1,by omega,rfl,by rw[e]⟩
 ·have ae:((1:Nat):Int)<((6:Nat):Int):=by decide
  have w4:IntKind.i64.wrap (((1:Nat):Int)+1)=((2:Nat):Int):=by decide
  have e:eC s 2=eC s 1++low s.size 8:=by simp[eC]
  refine cg ae w4 ?_;refine il (vX (eC s 1) s.size (by omega)) w4 ?_;exact⟨5 - 1,by omega,2,by omega,rfl,by rw[e]⟩
 ·have ae:((2:Nat):Int)<((6:Nat):Int):=by decide
  have w4:IntKind.i64.wrap (((2:Nat):Int)+1)=((3:Nat):Int):=by decide
  have e:eC s 3=eC s 2++low s.root.a 8:=by simp[eC]
  refine cg ae w4 ?_;refine il (vX (eC s 2) s.root.a (by omega)) w4 ?_;exact⟨5 - 2,by omega,3,by omega,rfl,by rw[e]⟩
 ·have ae:((3:Nat):Int)<((6:Nat):Int):=by decide
  have w4:IntKind.i64.wrap (((3:Nat):Int)+1)=((4:Nat):Int):=by decide
  have e:eC s 4=eC s 3++low s.root.b 8:=by simp[eC]
  refine cg ae w4 ?_;refine il (vX (eC s 3) s.root.b (by omega)) w4 ?_;exact⟨5 - 3,by omega,4,by omega,rfl,by rw[e]⟩
 ·have ae:((4:Nat):Int)<((6:Nat):Int):=by decide
  have w4:IntKind.i64.wrap (((4:Nat):Int)+1)=((5:Nat):Int):=by decide
  have e:eC s 5=eC s 4++low s.root.c 8:=by simp[eC]
  refine cg ae w4 ?_;refine il (vX (eC s 4) s.root.c (by omega)) w4 ?_;exact⟨5 - 4,by omega,5,by omega,rfl,by rw[e]⟩
 ·have ae:((5:Nat):Int)<((6:Nat):Int):=by decide
  have w4:IntKind.i64.wrap (((5:Nat):Int)+1)=((6:Nat):Int):=by decide
  have e:eC s 6=eC s 5++low s.root.d 8:=by simp[eC]
  refine cg ae w4 ?_;refine il (vX (eC s 5) s.root.d (by omega)) w4 ?_;exact⟨5 - 5,by omega,6,by omega,rfl,by rw[e]⟩
 have ae:¬(((6:Nat):Int)<((6:Nat):Int)):=by decide
 refine A4 ae ?_;refine aq.intro hh ?_;exact er ho
theorem HL (s:dM) (h:s.ok):aR Tryz.prog 151 [.agg s.cs] (vB (fX s)) []:=by
 refine aA rA false Tryz.f151 ?_;conv=>enter[1];reduce
 refine bf Tryz.f151 28 [.tmp 2] (by kernel_rfl) (by decide +kernel) rfl ?_;unfold fX;have hs:=Vt s;generalize kb s=S at *;refine aw ?_;refine aq.intro hs ?_;cases e1:((s.sum:Int)==(S:Int)) with
 | false=>simp -implicitDefEqProofs only[go_sem,e1,eo,bU,eO,ek,Bool.false_and]
 | true=>
  by_cases e2:(s.seq:Int)≥1
  ·by_cases e3:(s.seq:Int)≤1000000000
   ·by_cases e4:(s.size:Int)≥1
    ·by_cases e5:(s.size:Int)≤256<;>simp -implicitDefEqProofs only[go_sem,e1,e2,e3,e4,e5,eo,bU,eO,ek,Bool.true_and]
    simp -implicitDefEqProofs only[go_sem,e1,e2,e3,e4,eo,bU,eO,ek,Bool.true_and,Bool.false_and]
   simp -implicitDefEqProofs only[go_sem,e1,e2,e3,eo,bU,eO,ek,Bool.true_and,Bool.false_and]
  simp -implicitDefEqProofs only[go_sem,e1,e2,eo,bU,eO,ek,Bool.true_and,Bool.false_and]
theorem Ng (s:dM) (h:s.ok):aR Tryz.prog 145 [.agg s.cs] (vB (fX s)) []:=by
 refine aA rA false Tryz.f145 ?_;conv=>enter[1];reduce
 refine bf Tryz.f145 28 [.tmp 2] (by kernel_rfl) (by decide +kernel) rfl ?_;unfold fX;have hs:=Vu s h;generalize kb s=S at *;refine aw ?_;refine aq.intro hs ?_;cases e1:((s.sum:Int)==(S:Int)) with
 | false=>simp -implicitDefEqProofs only[go_sem,e1,eo,bU,eO,ek,Bool.false_and]
 | true=>
  by_cases e2:(s.seq:Int)≥1
  ·by_cases e3:(s.seq:Int)≤1000000000
   ·by_cases e4:(s.size:Int)≥1
    ·by_cases e5:(s.size:Int)≤256<;>simp -implicitDefEqProofs only[go_sem,e1,e2,e3,e4,e5,eo,bU,eO,ek,Bool.true_and]
    simp -implicitDefEqProofs only[go_sem,e1,e2,e3,e4,eo,bU,eO,ek,Bool.true_and,Bool.false_and]
   simp -implicitDefEqProofs only[go_sem,e1,e2,e3,eo,bU,eO,ek,Bool.true_and,Bool.false_and]
  simp -implicitDefEqProofs only[go_sem,e1,e2,eo,bU,eO,ek,Bool.true_and,Bool.false_and]
theorem UL (d:cS) (h:d.ok):aR Tryz.prog 98 [.agg d.cs] (.ba [.agg (ea d).1.cs,vI (ea d).2]) []:=by
 refine aA rA false Tryz.f98 ?_;conv=>enter[1];reduce
 refine bf Tryz.f98 39 [.cell 2 134,.tmp 3] (by kernel_rfl) (by decide +kernel) rfl ?_;have o1:=HL d.one h.a;have o2:=HL d.two h.b;unfold ea;refine aw ?_;refine aq.intro o1 ?_;cases h1:fX d.one with
 | false=>
  refine uH h1 ?_;refine aq.intro o2 ?_;cases h2:fX d.two with
  | false=>
   simp -implicitDefEqProofs only[go_sem,h2,bc];rfl
  | true=>
   have b2:=ou h2;have w1:IntKind.i64.wrap (d.two.seq:Int)=d.two.seq:=aV (by omega);have w2:IntKind.i64.wrap (d.two.size:Int)=d.two.size:=aV (by omega);refine A3 h2 w1 w2 ?_;rfl
 | true=>
  have b1:=ou h1;have w3:IntKind.i64.wrap (d.one.seq:Int)=d.one.seq:=aV (by omega);have w4:IntKind.i64.wrap (d.one.size:Int)=d.one.size:=aV (by omega);refine uH h1 ?_;refine aq.intro o2 ?_;cases h2:fX d.two with
  | false=>
   refine A3 h2 w3 w4 ?_;rfl
  | true=>
   have b2:=ou h2;have w1:IntKind.i64.wrap (d.two.seq:Int)=d.two.seq:=aV (by omega);have w2:IntKind.i64.wrap (d.two.size:Int)=d.two.size:=aV (by omega);by_cases q:d.two.seq>d.one.seq
   ·have q':(d.two.seq:Int)>(d.one.seq:Int):=by omega
    simp -implicitDefEqProofs only[go_sem,h2,q,q',bc,w1,w2];rfl
   have q':¬((d.two.seq:Int)>(d.one.seq:Int)):=by omega
   simp -implicitDefEqProofs only[go_sem,h2,q,q',bc,w3,w4];rfl
theorem UM (d:cS) (h:d.ok):aR Tryz.prog 96 [.agg d.cs] (.ba [.agg (ea d).1.cs,vI (ea d).2]) []:=by
 refine aA rA false Tryz.f96 ?_;conv=>enter[1];reduce
 refine bf Tryz.f96 52 [.cell 2 134,.tmp 3] (by kernel_rfl) (by decide +kernel) rfl ?_;have o1:=Ng d.one h.a;have o2:=Ng d.two h.b;unfold ea;refine aw ?_;refine cz o1 ?_;refine aq.intro o2 ?_;cases h1:fX d.one with
 | false=>
  cases h2:fX d.two with
  | false=>
   simp -implicitDefEqProofs only[go_sem,h1,h2,Bool.not_true,Bool.not_false,bc];rfl
  | true=>
   have b2:=ou h2;have w1:IntKind.i64.wrap (d.two.seq:Int)=d.two.seq:=aV (by omega);have w2:IntKind.i64.wrap (d.two.size:Int)=d.two.size:=aV (by omega);simp -implicitDefEqProofs only[go_sem,h1,h2,Bool.not_true,Bool.not_false,bc,w1,w2];rfl
 | true=>
  have b1:=ou h1;have w3:IntKind.i64.wrap (d.one.seq:Int)=d.one.seq:=aV (by omega);have w4:IntKind.i64.wrap (d.one.size:Int)=d.one.size:=aV (by omega);cases h2:fX d.two with
  | false=>
   simp -implicitDefEqProofs only[go_sem,h1,h2,Bool.not_true,Bool.not_false,bc,w3,w4];rfl
  | true=>
   have b2:=ou h2;have w1:IntKind.i64.wrap (d.two.seq:Int)=d.two.seq:=aV (by omega);have w2:IntKind.i64.wrap (d.two.size:Int)=d.two.size:=aV (by omega);by_cases q:d.two.seq>d.one.seq
   ·have q':¬((d.one.seq:Int)≥(d.two.seq:Int)):=by omega
    refine yR h1 h2 q q' w1 w2 ?_;rfl
   have q':((d.one.seq:Int)≥(d.two.seq:Int)):=by omega
   refine yR h1 h2 q q' w3 w4 ?_;rfl
theorem Hw (d:cS) (h:d.ok):aR Tryz.prog 62 [.agg d.cs] (.agg (cH d).cs) []:=by
 refine aA rA false Tryz.f62 ?_;conv=>enter[1];reduce
 refine bf Tryz.f62 19 [.cell 2 41] (by kernel_rfl) (by decide +kernel) rfl ?_;have hr:=UL d h;have ri:=vN ⟨#[]⟩ (by decide);have yq:fY (⟨#[]⟩:ByteArray).data.toList=fY []:=rfl;rw[yq]at ri;unfold cH;generalize fY []=H at *;generalize ea d=R at *;obtain⟨r,a⟩:=R;refine aw ?_;refine aq.intro hr ?_;by_cases e:a=0
 ·subst e;simp -implicitDefEqProofs only[go_sem,aY,aZ,beq_self_eq_true];refine cz ri ?_;rfl
 have e':(a==0)=false:=beq_eq_false_iff_ne.2 e;simp -implicitDefEqProofs only[go_sem,e,e',aZ,aY]
theorem Dw (d:cS) (h:d.ok):aR Tryz.prog 60 [.agg d.cs] (.agg (cH d).cs) []:=by
 refine aA rA false Tryz.f60 ?_;conv=>enter[1];reduce
 refine bf Tryz.f60 19 [.cell 2 41] (by kernel_rfl) (by decide +kernel) rfl ?_;have hr:=UM d h;have ri:=vO ⟨#[]⟩ (by decide);have yq:fY (⟨#[]⟩:ByteArray).data.toList=fY []:=rfl;rw[yq]at ri;unfold cH;generalize fY []=H at *;generalize ea d=R at *;obtain⟨r,a⟩:=R;refine aw ?_;refine aq.intro hr ?_;by_cases e:a=0
 ·subst e;simp -implicitDefEqProofs only[go_sem,aY,aZ,beq_self_eq_true];refine cz ri ?_;rfl
 have e':(a==0)=false:=beq_eq_false_iff_ne.2 e;simp -implicitDefEqProofs only[go_sem,e,e',aZ,aY]
end
section
def Ml:bX:=⟨[(230,.cm [true])],[9,10,11],[24,26,30,44,47,50,51,52,57,58,59,62,76,88,138,185,186,187,253,254,297,311],false⟩
attribute [-go_sem] oS
@[go_sem] theorem ajd:oS Tryz.prog 258 1=some 3:=by kernel_rfl
theorem U6 (s:dM) (w:Int) (v:Nat):aR Tryz.prog 280 [.agg s.cs,vI w,vU v] (.agg (sa s w v).cs) []:=by
 refine aA Ml false Tryz.f280 ?_;conv=>enter[1];reduce
 refine bf Tryz.f280 40 [.cell 6 73] (by kernel_rfl) (by decide +kernel) rfl ?_;unfold sa;by_cases e0:w=0
 ·subst e0;simp -implicitDefEqProofs only[go_sem,aZ,aY,beq_self_eq_true]
 have f0:(w==0)=false:=beq_eq_false_iff_ne.2 e0;by_cases e1:w=1
 ·subst e1;simp -implicitDefEqProofs only[go_sem,aZ,aY,beq_self_eq_true]
 have f1:(w==1)=false:=beq_eq_false_iff_ne.2 e1;by_cases e2:w=2
 ·subst e2;simp -implicitDefEqProofs only[go_sem,aZ,aY,beq_self_eq_true]
 have f2:(w==2)=false:=beq_eq_false_iff_ne.2 e2;by_cases e3:w=3
 ·subst e3;simp -implicitDefEqProofs only[go_sem,aZ,aY,beq_self_eq_true]
 have f3:(w==3)=false:=beq_eq_false_iff_ne.2 e3;by_cases e4:w=4
 ·subst e4;simp -implicitDefEqProofs only[go_sem,aZ,aY,beq_self_eq_true]
 have f4:(w==4)=false:=beq_eq_false_iff_ne.2 e4;by_cases e5:w=5
 ·subst e5;simp -implicitDefEqProofs only[go_sem,aZ,aY,beq_self_eq_true]
 have f5:(w==5)=false:=beq_eq_false_iff_ne.2 e5;by_cases e6:w=6
 ·subst e6;simp -implicitDefEqProofs only[go_sem,aZ,aY,beq_self_eq_true]
 have f6:(w==6)=false:=beq_eq_false_iff_ne.2 e6;simp -implicitDefEqProofs only[go_sem,f0,f1,f2,f3,f4,f5,f6,e0,e1,e2,e3,e4,e5,e6,aZ,aY]
theorem Rq {d:cS}{l:List cL}{i:Nat}(h:i<l.length):ep d (l.take (i+1))=my (ep d (l.take i)) l[i]:=by
 unfold ep;rw[List.take_succ_eq_append_getElem h,List.foldl_append];rfl
def pN:cS:=⟨⟨0,0,0,gr⟩,⟨0,0,0,gr⟩⟩
theorem M0 (d:cS) (l:List cL) (hl:l.length≤maxLen):aR Tryz.prog 249 [.agg d.cs,.ro 3 (l.map cL.cs)] (.agg (ep d l).cs) []:=by
 refine aA Ml false Tryz.f249 ?_;conv=>enter[1];reduce
 refine bf Tryz.f249 40 [.cell 4 75] (by kernel_rfl) (by decide +kernel) rfl ?_;refine aw ?_;refine cR (fun m z=>∃i,i≤l.length∧m=l.length - i∧z=⟨40,[(1,.ro 3 (l.map cL.cs)),(2,.ptr 2 0 [] 14 0 0),(4,.ptr 4 0 [] 14 0 0),(5,vI i)],[(2,0,one ⟨14,[(ep d (l.take i)).cs],0,false⟩),(4,0,one ⟨14,[pN.cs],0,false⟩)],1⟩) l.length ?_ ?_
 ·refine aw ?_;exact⟨0,aQ _,rfl,rfl⟩
 rintro m z ⟨i,hi,rfl,rfl⟩;rcases bm i l.length with ab|bH
 ·have ae:(i:Int)<(l.length:Int):=by omega
  have hg:l[i]?=some l[i]:=bz ab;have hw:=df ab hl;have aE:=Rq (d:=d) ab;generalize l[i]=r at *;generalize ep d (l.take i)=D at *;have hp1:=U6 D.one r.word r.value;have mE:=U6 D.two r.word r.value;unfold my at aE;by_cases e1:r.slot=1
  ·have f1:(r.slot==1)=true:=by rw[e1];rfl
   have f2:(r.slot==2)=false:=by rw[e1];rfl
   rw[if_pos e1]at aE;refine AY ae hg hw f1 f2 ?_;refine aq.intro hp1 ?_;refine AY ae hg hw f1 f2 ?_;exact⟨_,by omega,i+1,ab,rfl,by rw[aE]⟩
  have f1:(r.slot==1)=false:=beq_eq_false_iff_ne.2 e1;rw[if_neg e1]at aE;by_cases e2:r.slot=2
  ·have f2:(r.slot==2)=true:=by rw[e2];rfl
   rw[if_pos e2]at aE;refine AY ae hg hw f1 f2 ?_;refine aq.intro mE ?_;refine AY ae hg hw f1 f2 ?_;exact⟨_,by omega,i+1,ab,rfl,by rw[aE]⟩
  have f2:(r.slot==2)=false:=beq_eq_false_iff_ne.2 e2;rw[if_neg e2]at aE;refine AY ae hg hw f1 f2 ?_;exact⟨_,by omega,i+1,ab,rfl,by rw[aE]⟩
 have hi:i=l.length:=by omega
 subst hi;have ae:¬((l.length:Int)<(l.length:Int)):=by omega
 exact wo ae
theorem M7 (d:cS) (l:List cL) (hl:l.length≤maxLen):aR Tryz.prog 229 [.agg d.cs,.ro 3 (l.map cL.cs)] (.agg (ep d l).cs) []:=by
 refine aA Ml false Tryz.f229 ?_;conv=>enter[1];reduce
 refine bf Tryz.f229 43 [.cell 4 75] (by kernel_rfl) (by decide +kernel) rfl ?_;have x0:(0:Int)<((7:Nat):Int):=by decide
 have x1:(1:Int)<((7:Nat):Int):=by decide
 have x2:(2:Int)<((7:Nat):Int):=by decide
 have x3:(3:Int)<((7:Nat):Int):=by decide
 have x4:(4:Int)<((7:Nat):Int):=by decide
 have x5:(5:Int)<((7:Nat):Int):=by decide
 have x6:(6:Int)<((7:Nat):Int):=by decide
 refine aw ?_;refine cR (fun m z=>∃i,i≤l.length∧m=l.length - i∧z=⟨43,[(2,.ptr 2 0 [] 14 0 0),(4,.ptr 4 0 [] 14 0 0),(7,.ro 3 (l.map cL.cs)),(8,vI l.length),(9,vI i)],[(2,0,one ⟨14,[(ep d (l.take i)).cs],0,false⟩),(4,0,one ⟨14,[pN.cs],0,false⟩)],1⟩) l.length ?_ ?_
 ·refine aw ?_;exact⟨0,aQ _,rfl,rfl⟩
 rintro m z ⟨i,hi,rfl,rfl⟩;rcases bm i l.length with ab|bH
 ·have ae:(i:Int)<(l.length:Int):=by omega
  have hg:l[i]?=some l[i]:=bz ab;have hw:=df ab hl;have aE:=Rq (d:=d) ab;generalize l[i]=r at *;generalize ep d (l.take i)=D at *;obtain⟨sl,wd,v⟩:=r;simp only[my]at aE;have cc:=dG wd 0 6;simp -implicitDefEqProofs only[go_sem,ae,hg,hw,aZ,aY];refine aq.intro cc ?_;cases CE:aT wd 0 6 with
  | false=>
   have hk:¬(0≤wd∧wd≤6):=fun h=>by rw[cf.2 h]at CE;cases CE
   have hp:∀s:dM,sa s wd v=s:=fun s=>by unfold sa;repeat' (rw[if_neg (by omega)])
   simp only[hp,ite_self]at aE;simp -implicitDefEqProofs only[go_sem,CE,hw,Bool.not_false,aZ,aY];exact⟨_,by omega,i+1,ab,rfl,by rw[aE]⟩
  | true=>
   simp -implicitDefEqProofs only[go_sem,CE,hw,Bool.not_true,aZ,aY];have k6:=cf.1 CE;have ss:wd=0∨wd=1∨wd=2∨wd=3∨wd=4∨wd=5∨wd=6:=by omega
   by_cases e1:sl=1
   ·subst e1;rw[if_pos rfl]at aE;simp -implicitDefEqProofs only[go_sem,aY,aZ,hw,beq_self_eq_true];refine aD.intro (Xo D) ?_;rcases ss with rfl|rfl|rfl|rfl|rfl|rfl|rfl
    all_goals
     simp -implicitDefEqProofs only[go_sem,hw,x0,x1,x2,x3,x4,x5,x6];exact⟨_,by omega,i+1,ab,rfl,by rw[aE];rfl⟩
   have f1:(sl==1)=false:=beq_eq_false_iff_ne.2 e1;rw[if_neg e1]at aE;by_cases e2:sl=2
   ·subst e2;rw[if_pos rfl]at aE;simp -implicitDefEqProofs only[go_sem,hw,f1,beq_self_eq_true,aZ,aY];refine aD.intro (Xn D) ?_;rcases ss with rfl|rfl|rfl|rfl|rfl|rfl|rfl
    all_goals
     simp -implicitDefEqProofs only[go_sem,hw,x0,x1,x2,x3,x4,x5,x6];exact⟨_,by omega,i+1,ab,rfl,by rw[aE];rfl⟩
   have f2:(sl==2)=false:=beq_eq_false_iff_ne.2 e2;rw[if_neg e2]at aE;simp -implicitDefEqProofs only[go_sem,hw,f1,f2,aZ,aY];exact⟨_,by omega,i+1,ab,rfl,by rw[aE]⟩
 have hi:i=l.length:=by omega
 subst hi;have ae:¬((l.length:Int)<(l.length:Int)):=by omega
 exact wo ae
end
end Go.Proofs.YtobpfkgabdeefaaGreat.E
