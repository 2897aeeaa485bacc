/- Contracts: sums of slots, records, what a disk holds; Contracts: raw writes; the raw writes that keep a point -/
import Derived.Test.YtobpfkgabdeefaaGreatQ11
namespace Go.Proofs.YtobpfkgabdeefaaGreat.E
open Go Go.RowKit
set_option maxHeartbeats 4000000
set_option maxRecDepth 10000
set_option linter.unusedSimpArgs false
set_option linter.unusedVariables false
set_option linter.unusedSectionVars false
section
def rR:cc:=⟨[(152,.cm [false,true,false]),(230,.cm [true])],cw,cz,false⟩
attribute [-go_sem] yk
@[go_sem] theorem ajG:yk Tryz.prog 39 0=some 37:=by kernel_rfl
def tQ (n a:Nat):Nat->List (List AV)
 | 0=>[[.ptr a 0 [] n 0 0],[.ptr a 0 [] n 0 1],[.ptr a 0 [] n 0 2],[.ptr a 0 [] n 0 3],[.ptr a 0 [] n 0 4],[.ptr a 0 [] n 0 5],[.ptr a 0 [] n 0 6]]
 | _=>[[.ptr a 0 [] n 0 7],[.ptr a 0 [] n 0 8],[.ptr a 0 [] n 0 9],[.ptr a 0 [] n 0 10],[.ptr a 0 [] n 0 11],[.ptr a 0 [] n 0 12],[.ptr a 0 [] n 0 13]]
attribute [go_sem] tQ
theorem A1 (s:dT):aY Tryz.prog 230 [(1000000,0,one ⟨7,[s.cs],0,false⟩)] [.ptr 1000000 0 [] 7 0 0] (.aw 0 0 [] 1 0 7) [(1000000,0,one ⟨7,[s.cs],0,false⟩),(0,0,one ⟨1,tQ 7 1000000 0,0,false⟩)]:=by
 refine aF rR false Tryz.f230 ?_;conv=>enter[1];reduce
 refine bI Tryz.f230 29 [.tmp 2] (by kernel_rfl) (by decide +kernel) rfl ?_;exact dy
theorem Xx (s:cX):aY Tryz.prog 230 [(1000000,0,one ⟨14,[s.cs],0,false⟩)] [.ptr 1000000 0 [] 14 0 0] (.aw 0 0 [] 1 0 7) [(1000000,0,one ⟨14,[s.cs],0,false⟩),(0,0,one ⟨1,tQ 14 1000000 0,0,false⟩)]:=by
 refine aF rR false Tryz.f230 ?_;conv=>enter[1];reduce
 refine bI Tryz.f230 29 [.tmp 2] (by kernel_rfl) (by decide +kernel) rfl ?_;exact dy
theorem Xw (s:cX):aY Tryz.prog 230 [(1000000,0,one ⟨14,[s.cs],0,false⟩)] [.ptr 1000000 0 [] 14 0 7] (.aw 0 0 [] 1 0 7) [(1000000,0,one ⟨14,[s.cs],0,false⟩),(0,0,one ⟨1,tQ 14 1000000 7,0,false⟩)]:=by
 refine aF rR false Tryz.f230 ?_;conv=>enter[1];reduce
 refine bI Tryz.f230 29 [.tmp 2] (by kernel_rfl) (by decide +kernel) rfl ?_;exact dy
theorem Vu (s:dT) (h:s.ok):ba Tryz.prog 204 [.agg s.cs] (vU (kD s)) []:=by
 refine aF rR false Tryz.f204 ?_;conv=>enter[1];reduce
 refine bu Tryz.f204 17 [.tmp 2] (by kernel_rfl) (by decide +kernel) rfl ?_;have hs:∀v,(fW v 8).size=8:=fun v=>JH v 8
 have hb:s.root.bytes.size=32:=by unfold aX.bytes;simp[hs]
 have z1:¬((((fW s.seq 8).size+(fW s.size 8).size:Nat):Int)>9223372036854775807):=by rw[hs,hs];decide
 have z2:¬((((fW s.seq 8++fW s.size 8).size+s.root.bytes.size:Nat):Int)>9223372036854775807):=by rw[hb];simp[hs]
 have hh:=v9 (fW s.seq 8++fW s.size 8++s.root.bytes) (by rw[O8];show(eN s 6).length<=_;rw[I0 s (by omega)];omega);have eT:(fW s.seq 8++fW s.size 8++s.root.bytes).data.toList=eN s 6:=by rw[O8]
 rw[eT]at hh;have ho:=Jz ((gu (eN s 6)).a.toNat:Int);have hm:(kZ .u64 ((gu (eN s 6)).a.toNat:Int) 1).toNat=kD s:=rfl;rw[hm]at ho;generalize gu (eN s 6)=H at *;refine au ?_;refine cT (rU _ h.q) ?_;refine jj (rU _ h.z) z1 ?_;refine jj (Ve _ h.r) z2 ?_;refine aq.intro hh ?_;exact eE ho
theorem Vt (s:dT):ba Tryz.prog 206 [.agg s.cs] (vU (kD s)) []:=by
 refine aF rR false Tryz.f206 ?_;conv=>enter[1];reduce
 refine bu Tryz.f206 25 [.tmp 2] (by kernel_rfl) (by decide +kernel) rfl ?_;have hh:=v8 ⟨(eN s 6).toArray⟩ (by show(eN s 6).length<=_;rw[I0 s (by omega)];omega);have eT:(⟨(eN s 6).toArray⟩:ByteArray).data.toList=eN s 6:=rfl;rw[eT]at hh;have ho:=Jz ((gu (eN s 6)).a.toNat:Int);have hm:(kZ .u64 ((gu (eN s 6)).a.toNat:Int) 1).toNat=kD s:=rfl;rw[hm]at ho;generalize gu (eN s 6)=H at *;refine au ?_;refine aE.intro (A1 s) ?_;have h17:(1:Int)<=((7:Nat):Int):=by decide
 refine aA h17 ?_;refine mj [(3,1)] (fun m z=>∃i,i<=6/\m=6 - i/\z=⟨25,[(3,.aw 3 0 [] 1 0 (eN s i).length),(7,.aw 7 0 [] 1 1 6),(8,vI ((6:Nat):Int)),(9,vI i)],[(3,0,one ⟨1,(eN s i).map cE,2,false⟩),(7,0,one ⟨1,tQ 7 10007 0,0,false⟩),(10007,0,one ⟨7,[s.cs],0,false⟩)],1⟩) 6 ?_ ?_
 ·refine au ?_;exact⟨0,by omega,rfl,rfl⟩
 rintro m z ⟨i,hi,rfl,rfl⟩;have hlen:=I0 s hi;have fS:i=0\/i=1\/i=2\/i=3\/i=4\/i=5\/i=6:=by omega
 rcases fS with rfl|rfl|rfl|rfl|rfl|rfl|rfl
 ·have ah:((0:Nat):Int)<((6:Nat):Int):=by decide
  have w4:IntKind.i64.wrap (((0:Nat):Int)+1)=((1:Nat):Int):=by decide
  have e:eN s 1=eN s 0++low s.seq 8:=by simp[eN]
  refine b8 ah w4 ?_;refine eW (wj (eN s 0) s.seq (by omega)) w4 ?_;exact⟨5 - 0,by omega,1,by omega,rfl,by rw[e]⟩
 ·have ah:((1:Nat):Int)<((6:Nat):Int):=by decide
  have w4:IntKind.i64.wrap (((1:Nat):Int)+1)=((2:Nat):Int):=by decide
  have e:eN s 2=eN s 1++low s.size 8:=by simp[eN]
  refine b8 ah w4 ?_;refine eW (wj (eN s 1) s.size (by omega)) w4 ?_;exact⟨5 - 1,by omega,2,by omega,rfl,by rw[e]⟩
 ·have ah:((2:Nat):Int)<((6:Nat):Int):=by decide
  have w4:IntKind.i64.wrap (((2:Nat):Int)+1)=((3:Nat):Int):=by decide
  have e:eN s 3=eN s 2++low s.root.a 8:=by simp[eN]
  refine b8 ah w4 ?_;refine eW (wj (eN s 2) s.root.a (by omega)) w4 ?_;exact⟨5 - 2,by omega,3,by omega,rfl,by rw[e]⟩
 ·have ah:((3:Nat):Int)<((6:Nat):Int):=by decide
  have w4:IntKind.i64.wrap (((3:Nat):Int)+1)=((4:Nat):Int):=by decide
  have e:eN s 4=eN s 3++low s.root.b 8:=by simp[eN]
  refine b8 ah w4 ?_;refine eW (wj (eN s 3) s.root.b (by omega)) w4 ?_;exact⟨5 - 3,by omega,4,by omega,rfl,by rw[e]⟩
 ·have ah:((4:Nat):Int)<((6:Nat):Int):=by decide
  have w4:IntKind.i64.wrap (((4:Nat):Int)+1)=((5:Nat):Int):=by decide
  have e:eN s 5=eN s 4++low s.root.c 8:=by simp[eN]
  refine b8 ah w4 ?_;refine eW (wj (eN s 4) s.root.c (by omega)) w4 ?_;exact⟨5 - 4,by omega,5,by omega,rfl,by rw[e]⟩
 ·have ah:((5:Nat):Int)<((6:Nat):Int):=by decide
  have w4:IntKind.i64.wrap (((5:Nat):Int)+1)=((6:Nat):Int):=by decide
  have e:eN s 6=eN s 5++low s.root.d 8:=by simp[eN]
  refine b8 ah w4 ?_;refine eW (wj (eN s 5) s.root.d (by omega)) w4 ?_;exact⟨5 - 5,by omega,6,by omega,rfl,by rw[e]⟩
 have ah:¬(((6:Nat):Int)<((6:Nat):Int)):=by decide
 refine yP ah ?_;refine aq.intro hh ?_;exact eE ho
theorem HK (s:dT) (h:s.ok):ba Tryz.prog 151 [.agg s.cs] (vB (gr s)) []:=by
 refine aF rR false Tryz.f151 ?_;conv=>enter[1];reduce
 refine bu Tryz.f151 28 [.tmp 2] (by kernel_rfl) (by decide +kernel) rfl ?_;unfold gr;have hs:=Vt s;generalize kD s=S at *;refine au ?_;refine aq.intro hs ?_;cases e1:((s.sum:Int)==(S:Int)) with
 | false=>simp -implicitDefEqProofs only[go_sem,e1,eD,bW,fg,eC,Bool.false_and]
 | true=>
  by_cases e2:(s.seq:Int)>=1
  ·by_cases e3:(s.seq:Int)<=1000000000
   ·by_cases e4:(s.size:Int)>=1
    ·by_cases e5:(s.size:Int)<=256<;>simp -implicitDefEqProofs only[go_sem,e1,e2,e3,e4,e5,eD,bW,fg,eC,Bool.true_and]
    simp -implicitDefEqProofs only[go_sem,e1,e2,e3,e4,eD,bW,fg,eC,Bool.true_and,Bool.false_and]
   simp -implicitDefEqProofs only[go_sem,e1,e2,e3,eD,bW,fg,eC,Bool.true_and,Bool.false_and]
  simp -implicitDefEqProofs only[go_sem,e1,e2,eD,bW,fg,eC,Bool.true_and,Bool.false_and]
theorem MZ (s:dT) (h:s.ok):ba Tryz.prog 145 [.agg s.cs] (vB (gr s)) []:=by
 refine aF rR false Tryz.f145 ?_;conv=>enter[1];reduce
 refine bu Tryz.f145 28 [.tmp 2] (by kernel_rfl) (by decide +kernel) rfl ?_;unfold gr;have hs:=Vu s h;generalize kD s=S at *;refine au ?_;refine aq.intro hs ?_;cases e1:((s.sum:Int)==(S:Int)) with
 | false=>simp -implicitDefEqProofs only[go_sem,e1,eD,bW,fg,eC,Bool.false_and]
 | true=>
  by_cases e2:(s.seq:Int)>=1
  ·by_cases e3:(s.seq:Int)<=1000000000
   ·by_cases e4:(s.size:Int)>=1
    ·by_cases e5:(s.size:Int)<=256<;>simp -implicitDefEqProofs only[go_sem,e1,e2,e3,e4,e5,eD,bW,fg,eC,Bool.true_and]
    simp -implicitDefEqProofs only[go_sem,e1,e2,e3,e4,eD,bW,fg,eC,Bool.true_and,Bool.false_and]
   simp -implicitDefEqProofs only[go_sem,e1,e2,e3,eD,bW,fg,eC,Bool.true_and,Bool.false_and]
  simp -implicitDefEqProofs only[go_sem,e1,e2,eD,bW,fg,eC,Bool.true_and,Bool.false_and]
theorem UR (d:cX) (h:d.ok):ba Tryz.prog 98 [.agg d.cs] (.aZ [.agg (ej d).1.cs,vI (ej d).2]) []:=by
 refine aF rR false Tryz.f98 ?_;conv=>enter[1];reduce
 refine bu Tryz.f98 39 [.cell 2 134,.tmp 3] (by kernel_rfl) (by decide +kernel) rfl ?_;have o1:=HK d.one h.a;have o2:=HK d.two h.b;unfold ej;refine au ?_;refine aq.intro o1 ?_;cases h1:gr d.one with
 | false=>
  refine yQ h1 ?_;refine aq.intro o2 ?_;cases h2:gr d.two with
  | false=>
   refine qd h2 ?_;rfl
  | true=>
   have b2:=oS h2;have w1:IntKind.i64.wrap (d.two.seq:Int)=d.two.seq:=aN (by omega);have w2:IntKind.i64.wrap (d.two.size:Int)=d.two.size:=aN (by omega);refine yO h2 w1 w2 ?_;rfl
 | true=>
  have b1:=oS h1;have w3:IntKind.i64.wrap (d.one.seq:Int)=d.one.seq:=aN (by omega);have w4:IntKind.i64.wrap (d.one.size:Int)=d.one.size:=aN (by omega);refine yQ h1 ?_;refine aq.intro o2 ?_;cases h2:gr d.two with
  | false=>
   refine yO h2 w3 w4 ?_;rfl
  | true=>
   have b2:=oS h2;have w1:IntKind.i64.wrap (d.two.seq:Int)=d.two.seq:=aN (by omega);have w2:IntKind.i64.wrap (d.two.size:Int)=d.two.size:=aN (by omega);by_cases q:d.two.seq>d.one.seq
   ·have q':(d.two.seq:Int)>(d.one.seq:Int):=by omega
    simp -implicitDefEqProofs only[go_sem,h2,q,q',bb,w1,w2];rfl
   have q':¬((d.two.seq:Int)>(d.one.seq:Int)):=by omega
   simp -implicitDefEqProofs only[go_sem,h2,q,q',bb,w3,w4];rfl
theorem US (d:cX) (h:d.ok):ba Tryz.prog 96 [.agg d.cs] (.aZ [.agg (ej d).1.cs,vI (ej d).2]) []:=by
 refine aF rR false Tryz.f96 ?_;conv=>enter[1];reduce
 refine bu Tryz.f96 52 [.cell 2 134,.tmp 3] (by kernel_rfl) (by decide +kernel) rfl ?_;have o1:=MZ d.one h.a;have o2:=MZ d.two h.b;unfold ej;refine au ?_;refine cT o1 ?_;refine aq.intro o2 ?_;cases h1:gr d.one with
 | false=>
  cases h2:gr d.two with
  | false=>
   simp -implicitDefEqProofs only[go_sem,h1,h2,Bool.not_true,Bool.not_false,bb];rfl
  | true=>
   have b2:=oS h2;have w1:IntKind.i64.wrap (d.two.seq:Int)=d.two.seq:=aN (by omega);have w2:IntKind.i64.wrap (d.two.size:Int)=d.two.size:=aN (by omega);simp -implicitDefEqProofs only[go_sem,h1,h2,Bool.not_true,Bool.not_false,bb,w1,w2];rfl
 | true=>
  have b1:=oS h1;have w3:IntKind.i64.wrap (d.one.seq:Int)=d.one.seq:=aN (by omega);have w4:IntKind.i64.wrap (d.one.size:Int)=d.one.size:=aN (by omega);cases h2:gr d.two with
  | false=>
   simp -implicitDefEqProofs only[go_sem,h1,h2,Bool.not_true,Bool.not_false,bb,w3,w4];rfl
  | true=>
   have b2:=oS h2;have w1:IntKind.i64.wrap (d.two.seq:Int)=d.two.seq:=aN (by omega);have w2:IntKind.i64.wrap (d.two.size:Int)=d.two.size:=aN (by omega);by_cases q:d.two.seq>d.one.seq
   ·have q':¬((d.one.seq:Int)>=(d.two.seq:Int)):=by omega
    refine yN h1 h2 q q' w1 w2 ?_;rfl
   have q':((d.one.seq:Int)>=(d.two.seq:Int)):=by omega
   refine yN h1 h2 q q' w3 w4 ?_;rfl
theorem Mu (d:cX) (h:d.ok):ba Tryz.prog 62 [.agg d.cs] (.agg (cO d).cs) []:=by
 refine aF rR false Tryz.f62 ?_;conv=>enter[1];reduce
 refine bu Tryz.f62 19 [.cell 2 41] (by kernel_rfl) (by decide +kernel) rfl ?_;have hr:=UR d h;have rJ:=v8 ⟨#[]⟩ (by decide);have ym:gu (⟨#[]⟩:ByteArray).data.toList=gu []:=rfl;rw[ym]at rJ;unfold cO;generalize gu []=H at *;generalize ej d=R at *;obtain⟨r,a⟩:=R;refine au ?_;refine aq.intro hr ?_;by_cases e:a=0
 ·subst e;simp -implicitDefEqProofs only[go_sem,beq_self_eq_true,aT,aV];refine cT rJ ?_;rfl
 have e':(a==0)=false:=beq_eq_false_iff_ne.2 e;simp -implicitDefEqProofs only[go_sem,e,e',aT,aV]
theorem Hz (d:cX) (h:d.ok):ba Tryz.prog 60 [.agg d.cs] (.agg (cO d).cs) []:=by
 refine aF rR false Tryz.f60 ?_;conv=>enter[1];reduce
 refine bu Tryz.f60 19 [.cell 2 41] (by kernel_rfl) (by decide +kernel) rfl ?_;have hr:=US d h;have rJ:=v9 ⟨#[]⟩ (by decide);have ym:gu (⟨#[]⟩:ByteArray).data.toList=gu []:=rfl;rw[ym]at rJ;unfold cO;generalize gu []=H at *;generalize ej d=R at *;obtain⟨r,a⟩:=R;refine au ?_;refine aq.intro hr ?_;by_cases e:a=0
 ·subst e;simp -implicitDefEqProofs only[go_sem,beq_self_eq_true,aT,aV];refine cT rJ ?_;rfl
 have e':(a==0)=false:=beq_eq_false_iff_ne.2 e;simp -implicitDefEqProofs only[go_sem,e,e',aT,aV]
end
section
def Mc:cc:=⟨[(230,.cm [true])],cw,cz,false⟩
attribute [-go_sem] yk
@[go_sem] theorem ajF:yk Tryz.prog 258 1=some 3:=by kernel_rfl
theorem U8 (s:dT) (w:Int) (v:Nat):ba Tryz.prog 280 [.agg s.cs,vI w,vU v] (.agg (sE s w v).cs) []:=by
 refine aF Mc false Tryz.f280 ?_;conv=>enter[1];reduce
 refine bu Tryz.f280 40 [.cell 6 73] (by kernel_rfl) (by decide +kernel) rfl ?_;unfold sE;by_cases e0:w=0
 ·subst e0;simp -implicitDefEqProofs only[go_sem,aT,aV,beq_self_eq_true]
 have f0:(w==0)=false:=beq_eq_false_iff_ne.2 e0;by_cases e1:w=1
 ·subst e1;simp -implicitDefEqProofs only[go_sem,aT,aV,beq_self_eq_true]
 have f1:(w==1)=false:=beq_eq_false_iff_ne.2 e1;by_cases e2:w=2
 ·subst e2;simp -implicitDefEqProofs only[go_sem,aT,aV,beq_self_eq_true]
 have f2:(w==2)=false:=beq_eq_false_iff_ne.2 e2;by_cases e3:w=3
 ·subst e3;simp -implicitDefEqProofs only[go_sem,aT,aV,beq_self_eq_true]
 have f3:(w==3)=false:=beq_eq_false_iff_ne.2 e3;by_cases e4:w=4
 ·subst e4;simp -implicitDefEqProofs only[go_sem,aT,aV,beq_self_eq_true]
 have f4:(w==4)=false:=beq_eq_false_iff_ne.2 e4;by_cases e5:w=5
 ·subst e5;simp -implicitDefEqProofs only[go_sem,aT,aV,beq_self_eq_true]
 have f5:(w==5)=false:=beq_eq_false_iff_ne.2 e5;by_cases e6:w=6
 ·subst e6;simp -implicitDefEqProofs only[go_sem,aT,aV,beq_self_eq_true]
 have f6:(w==6)=false:=beq_eq_false_iff_ne.2 e6;simp -implicitDefEqProofs only[go_sem,f0,f1,f2,f3,f4,f5,f6,e0,e1,e2,e3,e4,e5,e6,aT,aV]
theorem Rr {d:cX}{l:List cR}{i:Nat}(h:i<l.length):eB d (l.take (i+1))=mO (eB d (l.take i)) l[i]:=by
 unfold eB;rw[List.take_succ_eq_append_getElem h,List.foldl_append];rfl
def qb:cX:=⟨⟨0,0,0,gh⟩,⟨0,0,0,gh⟩⟩
theorem MN (d:cX) (l:List cR) (hl:l.length<=maxLen):ba Tryz.prog 249 [.agg d.cs,.ro 3 (l.map cR.cs)] (.agg (eB d l).cs) []:=by
 refine aF Mc false Tryz.f249 ?_;conv=>enter[1];reduce
 refine bu Tryz.f249 40 [.cell 4 75] (by kernel_rfl) (by decide +kernel) rfl ?_;refine au ?_;refine dq (fun m z=>∃i,i<=l.length/\m=l.length - i/\z=⟨40,[(1,.ro 3 (l.map cR.cs)),(2,.ptr 2 0 [] 14 0 0),(4,.ptr 4 0 [] 14 0 0),(5,vI i)],[(2,0,one ⟨14,[(eB d (l.take i)).cs],0,false⟩),(4,0,one ⟨14,[qb.cs],0,false⟩)],1⟩) l.length ?_ ?_
 ·refine au ?_;exact⟨0,aR _,rfl,rfl⟩
 rintro m z ⟨i,hi,rfl,rfl⟩;rcases bp i l.length with ab|bM
 ·have ah:(i:Int)<(l.length:Int):=by omega
  have hg:l[i]?=some l[i]:=bm ab;have hw:=dx ab hl;have aD:=Rr (d:=d) ab;generalize l[i]=r at *;generalize eB d (l.take i)=D at *;have hp1:=U8 D.one r.word r.value;have mS:=U8 D.two r.word r.value;unfold mO at aD;by_cases e1:r.slot=1
  ·have f1:(r.slot==1)=true:=by rw[e1];rfl
   have f2:(r.slot==2)=false:=by rw[e1];rfl
   rw[if_pos e1]at aD;refine AS ah hg hw f1 f2 ?_;refine aq.intro hp1 ?_;refine AS ah hg hw f1 f2 ?_;exact⟨_,by omega,i+1,ab,rfl,by rw[aD]⟩
  have f1:(r.slot==1)=false:=beq_eq_false_iff_ne.2 e1;rw[if_neg e1]at aD;by_cases e2:r.slot=2
  ·have f2:(r.slot==2)=true:=by rw[e2];rfl
   rw[if_pos e2]at aD;refine AS ah hg hw f1 f2 ?_;refine aq.intro mS ?_;refine AS ah hg hw f1 f2 ?_;exact⟨_,by omega,i+1,ab,rfl,by rw[aD]⟩
  have f2:(r.slot==2)=false:=beq_eq_false_iff_ne.2 e2;rw[if_neg e2]at aD;refine AS ah hg hw f1 f2 ?_;exact⟨_,by omega,i+1,ab,rfl,by rw[aD]⟩
 have hi:i=l.length:=by omega
 subst hi;have ah:¬((l.length:Int)<(l.length:Int)):=by omega
 exact uN ah
theorem MS (d:cX) (l:List cR) (hl:l.length<=maxLen):ba Tryz.prog 229 [.agg d.cs,.ro 3 (l.map cR.cs)] (.agg (eB d l).cs) []:=by
 refine aF Mc false Tryz.f229 ?_;conv=>enter[1];reduce
 refine bu Tryz.f229 43 [.cell 4 75] (by kernel_rfl) (by decide +kernel) rfl ?_;have x0:(0:Int)<((7:Nat):Int):=by decide
 have x1:(1:Int)<((7:Nat):Int):=by decide
 have x2:(2:Int)<((7:Nat):Int):=by decide
 have x3:(3:Int)<((7:Nat):Int):=by decide
 have x4:(4:Int)<((7:Nat):Int):=by decide
 have x5:(5:Int)<((7:Nat):Int):=by decide
 have x6:(6:Int)<((7:Nat):Int):=by decide
 refine au ?_;refine dq (fun m z=>∃i,i<=l.length/\m=l.length - i/\z=⟨43,[(2,.ptr 2 0 [] 14 0 0),(4,.ptr 4 0 [] 14 0 0),(7,.ro 3 (l.map cR.cs)),(8,vI l.length),(9,vI i)],[(2,0,one ⟨14,[(eB d (l.take i)).cs],0,false⟩),(4,0,one ⟨14,[qb.cs],0,false⟩)],1⟩) l.length ?_ ?_
 ·refine au ?_;exact⟨0,aR _,rfl,rfl⟩
 rintro m z ⟨i,hi,rfl,rfl⟩;rcases bp i l.length with ab|bM
 ·have ah:(i:Int)<(l.length:Int):=by omega
  have hg:l[i]?=some l[i]:=bm ab;have hw:=dx ab hl;have aD:=Rr (d:=d) ab;generalize l[i]=r at *;generalize eB d (l.take i)=D at *;obtain⟨sl,wd,v⟩:=r;simp only[mO]at aD;have cq:=dQ wd 0 6;simp -implicitDefEqProofs only[go_sem,ah,hg,hw,aT,aV];refine aq.intro cq ?_;cases CF:aS wd 0 6 with
  | false=>
   have hk:¬(0<=wd/\wd<=6):=fun h=>by rw[cr.2 h]at CF;cases CF
   have hp:∀s:dT,sE s wd v=s:=fun s=>by unfold sE;repeat' (rw[if_neg (by omega)])
   simp only[hp,ite_self]at aD;simp -implicitDefEqProofs only[go_sem,CF,hw,Bool.not_false,aT,aV];exact⟨_,by omega,i+1,ab,rfl,by rw[aD]⟩
  | true=>
   simp -implicitDefEqProofs only[go_sem,CF,hw,Bool.not_true,aT,aV];have k6:=cr.1 CF;have sO:wd=0\/wd=1\/wd=2\/wd=3\/wd=4\/wd=5\/wd=6:=by omega
   by_cases e1:sl=1
   ·subst e1;rw[if_pos rfl]at aD;simp -implicitDefEqProofs only[go_sem,hw,beq_self_eq_true,aT,aV];refine aE.intro (Xx D) ?_;rcases sO with rfl|rfl|rfl|rfl|rfl|rfl|rfl
    all_goals
     simp -implicitDefEqProofs only[go_sem,hw,x0,x1,x2,x3,x4,x5,x6];exact⟨_,by omega,i+1,ab,rfl,by rw[aD];rfl⟩
   have f1:(sl==1)=false:=beq_eq_false_iff_ne.2 e1;rw[if_neg e1]at aD;by_cases e2:sl=2
   ·subst e2;rw[if_pos rfl]at aD;simp -implicitDefEqProofs only[go_sem,hw,f1,beq_self_eq_true,aT,aV];refine aE.intro (Xw D) ?_;rcases sO with rfl|rfl|rfl|rfl|rfl|rfl|rfl
    all_goals
     simp -implicitDefEqProofs only[go_sem,hw,x0,x1,x2,x3,x4,x5,x6];exact⟨_,by omega,i+1,ab,rfl,by rw[aD];rfl⟩
   have f2:(sl==2)=false:=beq_eq_false_iff_ne.2 e2;rw[if_neg e2]at aD;simp -implicitDefEqProofs only[go_sem,hw,f1,f2,aT,aV];exact⟨_,by omega,i+1,ab,rfl,by rw[aD]⟩
 have hi:i=l.length:=by omega
 subst hi;have ah:¬((l.length:Int)<(l.length:Int)):=by omega
 exact uN ah
end
end Go.Proofs.YtobpfkgabdeefaaGreat.E
