/- Contracts: nodes fall, in the reference; Contracts: the first letter of a box, the other rows under their own names; Contracts: a witness falls within its raw writes; Contracts: the nodes that may hear; Contracts: letters delivered; Contracts: letters delivered, in the reference -/
import Derived.Test.YtobpfkgabdeefaaGreatP35
import Derived.Test.YtobpfkgabdeefaaGreatP27
import Derived.Test.YtobpfkgabdeefaaGreatP31
namespace Go.Proofs.YtobpfkgabdeefaaGreat.E
open Go Go.RowKit
set_option maxHeartbeats 4000000
set_option maxRecDepth 10000
set_option linter.unusedSimpArgs false
set_option linter.unusedVariables false
set_option linter.unusedSectionVars false
section
def aeM:bX:=⟨[(239,.cm [true,false])],[9,10,11],[24,26,30,44,47,50,51,52,57,58,59,62,76,88,138,185,186,187,253,254,297,311],false⟩
attribute [-go_sem] ei
theorem nG {a b c:Int}(h:¬(b≤a∧a≤c)):aT a b c=false:=by
 cases e:aT a b c with
 | false=>rfl
 | true=>exact absurd (cf.1 e) h
def uN (v:ai) (t t2:Nat) (rest:aj):aj:=(t,0,one ⟨35,[v.cells (10000+t) 10000],0,false⟩)::v.rows (10000+t) 10000++((t2,0,one ⟨35,[jL],0,false⟩)::rest)
attribute [go_sem] uN
theorem M9 (w:ai) (n:Nat) (h:w.wl) (hn:n<w.ak.length) (hb:w.book.length≤3900000000):bb Tryz.prog 194 (gm w) [vA w 1000000,vI n] (vA (ja w n) 0) (eJ (ja w n)):=by
 refine IM [[0,0],[0,0,0,0,0,0,0,0]] aeM false Tryz.f194 ?_;conv=>enter[1];reduce
 refine bT Tryz.f194 78 [.cell 4 64] (by kernel_rfl) (by decide +kernel) rfl ?_;have hx:=h.hx;have dR:w.bx.length=w.ak.length:=de w;have lF:=h.nb;have oD:=h.nu;have hu:n<w.up.length:=by omega
 have cM:(n:Int)<(w.up.length:Int):=by omega
 have lG:(n:Int)<(w.ak.length:Int):=by omega
 have hg:w.up[n]?=some w.up[n]:=bz hu;have oC:=yX w.up n false;have gp:w.bx[n]?=some ((w.ak[n]).map aB.cs):=by unfold ai.bx;rw[List.getElem?_map,bz hn];rfl
 have hv:=(h.up n false).box n [];unfold ja;have iI:w.bx.set n []=ai.bx {w with up:=w.up.set n false,ak:=w.ak.set n []}:=by unfold ai.bx;rw[List.map_set];rfl
 have qp:(w.up.set n false).length=w.up.length:=List.length_set;have dW:(w.ak.set n []).length=w.ak.length:=List.length_set;simp -implicitDefEqProofs only[go_sem,hx,hu,cM,hg,hn,lG,gp,dR,dq,oC];refine vH (fun s=>s=⟨78,[(1,vI n),(2,.ptr 2 0 [] 35 0 0),(4,.ptr 4 0 [] 35 0 0)],uN {w with up:=w.up.set n false,ak:=w.ak.set n []} 2 4 [],1⟩) ?_ ?_
 ·simp -implicitDefEqProofs only[go_sem,hx,hu,cM,hg,hn,lG,gp,dR,dq,oC];refine cO.step (aI.tA _ 1000003) ?_;refine aC hx ?_;refine cO.step (aI.yo (B:=900100) (i:=n) (L:=[]) (by decide) rfl (by rw[dR];exact hn) (.nil) rfl (by repeat' first|exact trivial|refine And.intro (.inl rfl) ?_|refine And.intro (.inr ⟨_,rfl,rfl⟩) ?_)) ?_;have aX:=hv.hx;refine aC iI ?_;refine cO.intro (aI.dm [] [1,2,4] _) ?_;simp -implicitDefEqProofs only[go_sem,aX,qp,dW];try rfl
 rintro s rfl;have hnv:n<(ai.ak {w with up:=w.up.set n false,ak:=w.ak.set n []}).length:=by show n<(w.ak.set n []).length;rw[List.length_set];exact hn
 have hf:=hv.fresh n;have ye:=Nr {w with up:=w.up.set n false,ak:=w.ak.set n []} n;have ye:(eW {w with up:=w.up.set n false,ak:=w.ak.set n []} n).book=w.book:=ye;generalize ({w with up:=w.up.set n false,ak:=w.ak.set n []}:ai)=v at *;clear oC gp qp dW iI hg;have aX:=hv.hx;have hs:=d7 hv.so;have ga:=hv.nw;have jD:=hv.nc;have eH:=Ce (eW v n) ⟨7,n,0,0,0,.zero,.zero,[]⟩ (by rw[ye];omega) hf.dH rfl;have nV:=hf.rl (qw (eW v n) ⟨7,n,0,0,0,.zero,.zero,[]⟩);have z1:IntKind.i64.wrap (v.set.many+1)=v.set.many+1:=aV (by omega);have z2:IntKind.i64.wrap (v.set.many+v.set.bB)=v.set.many+v.set.bB:=aV (by omega);have z3:IntKind.i64.wrap (v.set.many+v.set.bB+1)=v.set.many+v.set.bB+1:=aV (by omega);have i1:=e9 n 1 v.set.many;have i2:=e9 n (v.set.many+1) (v.set.many+v.set.bB);have cr:=hf.hx;refine aC aX ?_;rcases G6 hv hnv with h0|h1|h2|h3
 ·have e:eW v n={v with log:=[]}:=if_pos h0;rw[nG (by omega)]at i1;rw[nG (by omega)]at i2;have z:((n:Int)==0)=true:=by rw[beq_iff_eq];omega
  have z4:((n:Int)==v.set.many+v.set.bB+1)=false:=by rw[beq_eq_false_iff_ne];omega
  refine nz aX z z1 z2 z3 z4 ?_;refine aq.intro i1 ?_;refine nz aX z z1 z2 z3 z4 ?_;refine aq.intro i2 ?_;refine nz aX z z1 z2 z3 z4 ?_;refine vH (fun s=>s=⟨78,[(1,vI n),(2,.ptr 2 0 [] 35 0 0),(4,.ptr 4 0 [] 35 0 0)],uN (eW v n) 2 4 [],1⟩) ?_ ?_
  ·rw[e]at cr ⊢;refine nz aX z z1 z2 z3 z4 ?_;refine cO.step (aI.tr (r:=2) [ai.cells {v with log:=[]} 10002 10000] (by decide) rfl (.cons (by
    simp -implicitDefEqProofs only[go_sem]
    repeat' first
     | exact .nil
     | refine .cons mU ?_
     | refine .cons mV ?_) .nil)) ?_
   refine cO.intro (aI.dm [] [1,2,4] _) ?_;refine yN aX cr ?_
   first|exact True.intro|rfl|trace_state
  rintro s rfl;clear e;generalize eW v n=u at *;generalize gT u ⟨7,n,0,0,0,.zero,.zero,[]⟩=y at *;have kS:=nV.hx;refine aC cr ?_;refine aD.intro eH ?_;exact dk cr kS
 ·have e:eW v n={v with ah:=v.ah.set (n - 1) ⟨(v.ah.getD (n - 1) cF).aH,[]⟩}:=LY v h1;have hk:n - 1<v.ah.length:=by omega
  have hg:v.ah[n - 1]?=some (v.ah.getD (n - 1) cF):=by rw[List.getD_eq_getElem?_getD,bz hk];rfl
  rw[cf.2 (by omega)]at i1;rw[nG (by omega)]at i2;have z:((n:Int)==0)=false:=by rw[beq_eq_false_iff_ne];omega
  have z4:((n:Int)==v.set.many+v.set.bB+1)=false:=by rw[beq_eq_false_iff_ne];omega
  have z5:IntKind.i64.wrap ((n:Int) - 1)=((n - 1:Nat):Int):=by rw[aV (by omega)];omega
  generalize v.ah.getD (n - 1) cF=y at *;have aE:=rO v.ah (n - 1) y.aH [];generalize n - 1=k at *;have bW:(k:Int)<(v.ah.length:Int):=by omega
  simp -implicitDefEqProofs only[go_sem,aX,z,z1,z2,z3,z4,z5,hk,bW,hg,bE.rc];refine aq.intro i1 ?_;simp -implicitDefEqProofs only[go_sem,aX,z,z1,z2,z3,z4,z5,hk,bW,hg,bE.rc];refine aq.intro i2 ?_;simp -implicitDefEqProofs only[go_sem,aX,z,z1,z2,z3,z4,z5,hk,bW,hg,bE.rc];refine vH (fun s=>s=⟨78,[(1,vI n),(2,.ptr 2 0 [] 35 0 0),(4,.ptr 4 0 [] 35 0 0)],uN (eW v n) 2 4 [],1⟩) ?_ ?_
  ·rw[e]at cr ⊢;simp -implicitDefEqProofs only[go_sem,aX,z,z1,z2,z3,z4,z5,hk,bW,hg,bE.rc];refine cO.step (aI.tr (r:=10002) ((v.ah.map bE.rc).set k (y.aH.cs++[.ro 7 []])) (by decide) rfl (gM.set (by
    simp -implicitDefEqProofs only[go_sem]
    repeat' first
     | exact .nil
     | refine .cons mU ?_
     | refine .cons mV ?_) _ _)) ?_
   rw[show y.aH.cs++[.ro 7 []]=y.aH.cs++[.ro 7 (List.map bG.cs [])] from rfl,aE];refine cO.intro (aI.dm [] [1,2,4] _) ?_;refine yN aX cr ?_
   first|exact True.intro|rfl|trace_state
  rintro s rfl;clear e;generalize eW v n=u at *;generalize gT u ⟨7,n,0,0,0,.zero,.zero,[]⟩=y at *;have kS:=nV.hx;refine aC cr ?_;refine aD.intro eH ?_;exact dk cr kS
 ·have e:eW v n={v with cls:=v.cls.set (n - v.ah.length - 1) (dP v.set)}:=by
   unfold eW;rw[if_neg (by omega),if_neg (by omega),if_pos h2.2]
  have hk:n - v.ah.length - 1<v.cls.length:=by omega
  rw[cf.2 (by omega)]at i2;rw[nG (by omega)]at i1;have z:((n:Int)==0)=false:=by rw[beq_eq_false_iff_ne];omega
  have z4:((n:Int)==v.set.many+v.set.bB+1)=false:=by rw[beq_eq_false_iff_ne];omega
  have z5:IntKind.i64.wrap ((n:Int) - v.set.many)=(n:Int) - v.set.many:=aV (by omega);have z6:IntKind.i64.wrap ((n:Int) - v.set.many - 1)=((n - v.ah.length - 1:Nat):Int):=by rw[aV (by omega)];omega
  have aE:=Hr v.cls (n - v.ah.length - 1) (dP v.set);generalize n - v.ah.length - 1=k at *;have bW:(k:Int)<(v.cls.length:Int):=by omega
  have hg:v.cls[k]?=some v.cls[k]:=bz hk;simp -implicitDefEqProofs only[go_sem,aX,z,z1,z2,z3,z4,z5,z6,hk,bW,hg,bu.rc];refine aq.intro i1 ?_;simp -implicitDefEqProofs only[go_sem,aX,z,z1,z2,z3,z4,z5,z6,hk,bW,hg,bu.rc];refine aq.intro i2 ?_;simp -implicitDefEqProofs only[go_sem,aX,z,z1,z2,z3,z4,z5,z6,hk,bW,hg,bu.rc];refine vH (fun s=>s=⟨78,[(1,vI n),(2,.ptr 2 0 [] 35 0 0),(4,.ptr 4 0 [] 35 0 0)],uN (eW v n) 2 4 [],1⟩) ?_ ?_
  ·rw[e]at cr ⊢;simp -implicitDefEqProofs only[go_sem,aX,z,z1,z2,z3,z4,z5,z6,hk,bW,hg,bu.rc];refine cO.step (aI.tr (r:=20002) ((v.cls.map bu.rc).set k ((dP v.set).cs (.ro 1 []))) (by decide) rfl (gM.set (by
    unfold dP;simp -implicitDefEqProofs only[go_sem]
    repeat' first
     | exact .nil
     | refine .cons mU ?_
     | refine .cons mV ?_) _ _)) ?_
   rw[show(dP v.set).cs (.ro 1 [])=(dP v.set).cs (.ro 1 (List.map dv (dP v.set).bt)) from rfl,aE];refine cO.intro (aI.dm [] [1,2,4] _) ?_;refine yN aX cr ?_
   first|exact True.intro|rfl|trace_state
  rintro s rfl;clear e;generalize eW v n=u at *;generalize gT u ⟨7,n,0,0,0,.zero,.zero,[]⟩=y at *;have kS:=nV.hx;refine aC cr ?_;refine aD.intro eH ?_;exact dk cr kS
 have e:eW v n={v with cD:=p6 v.set}:=by
  unfold eW;rw[if_neg (by omega),if_neg (by omega),if_neg (by omega)]
 rw[nG (by omega)]at i1;rw[nG (by omega)]at i2;have z:((n:Int)==0)=false:=by rw[beq_eq_false_iff_ne];omega
 have z4:((n:Int)==v.set.many+v.set.bB+1)=true:=by rw[beq_iff_eq];omega
 refine nz aX z z1 z2 z3 z4 ?_;refine aq.intro i1 ?_;refine nz aX z z1 z2 z3 z4 ?_;refine aq.intro i2 ?_;refine nz aX z z1 z2 z3 z4 ?_;refine vH (fun s=>s=⟨78,[(1,vI n),(2,.ptr 2 0 [] 35 0 0),(4,.ptr 4 0 [] 35 0 0)],uN (eW v n) 2 4 [],1⟩) ?_ ?_
 ·rw[e]at cr ⊢;refine nz aX z z1 z2 z3 z4 ?_;refine cO.step (aI.tr (r:=2) [ai.cells {v with cD:=p6 v.set} 10002 10000] (by decide) rfl (.cons (by
   unfold p6 dP;simp -implicitDefEqProofs only[go_sem]
   repeat' first
    | exact .nil
    | refine .cons mU ?_
    | refine .cons mV ?_) .nil)) ?_
  refine cO.intro (aI.dm [] [1,2,4] _) ?_;refine yN aX cr ?_
  first|exact True.intro|rfl|trace_state
 rintro s rfl;clear e;generalize eW v n=u at *;generalize gT u ⟨7,n,0,0,0,.zero,.zero,[]⟩=y at *;have kS:=nV.hx;refine aC cr ?_;refine aD.intro eH ?_;exact dk cr kS
end
section
def aeJ:bX:=⟨[],[9,10,11],[24,26,30,44,47,50,51,52,57,58,59,62,76,88,138,185,186,187,253,254,297,311],false⟩
attribute [-go_sem] ei
def wB (w:ai):aj:=
 [(1000000,0,one ⟨35,[[vI w.set.many,vI w.set.eK,vI w.set.bB,vI w.set.room,vI w.set.inbox,.ro 1 (w.log.map cY),.au 1000001 0 [] 15 0 w.ah.length,.au 1000002 0 [] 15 0 w.cls.length]++(w.cD.rc++
 [.au 1000003 0 [] 1 0 w.up.length,.au 0 0 [] 1 0 w.ak.length,vI w.room,.ro 3 (w.bj.map aB.cs),.au 1000005 0 [] 16 0 w.book.length,vB w.stop])],0,false⟩),
  (1000001,0,one ⟨15,w.ah.map bE.rc,1,false⟩),(1000002,0,one ⟨15,w.cls.map bu.rc,1,false⟩),(1000003,0,one ⟨1,w.up.map dq,2,false⟩),(1000005,0,one ⟨16,w.book.map dy.cs,1,false⟩),(0,0,ij 0 0 3 w.bx)]
attribute [go_sem] wB
theorem ad4 (w:ai) (n:Nat) (x:aB) (l:List aB) (h:w.ak[n]?=some (x::l)):bb Tryz.prog 160 (eB w) [eA,vI n] (.agg x.cs) (wB {w with ak:=w.ak.set n l}):=by
 refine aA aeJ false Tryz.f160 ?_;conv=>enter[1];reduce
 refine qV Tryz.f160 33 [.cell 4 116] (by kernel_rfl) (by decide +kernel) rfl rfl ?_;have hn:n<w.ak.length:=(List.getElem?_eq_some_iff.1 h).1;have hx:=dL (bs:=w.bx) (by rw[de];omega);have hg:w.bx[n]?=some (x.cs::l.map aB.cs):=by unfold ai.bx;rw[List.getElem?_map,h];rfl
 have lG:(n:Int)<(w.ak.length:Int):=by omega
 have dR:w.bx.length=w.ak.length:=de w;have t0:(0:Int)<((l.length+1:Nat):Int):=by omega
 have kx:(1:Int)≤((l.length+1:Nat):Int):=by omega
 simp -implicitDefEqProofs only[go_sem,hx,hg,hn,lG,dR,t0,kx,Nat.add_sub_cancel];refine dK.step (aI.tA _ 1000004) ?_;refine aC hx ?_;refine dK.step (aI.yo (B:=900100) (i:=n) (L:=l.map aB.cs) (by decide) rfl (by rw[dR];exact hn) (.Ph x.cs hg (List.length_map _)) rfl (by repeat' first
  | exact trivial
  | refine And.intro (.inl rfl) ?_
  | refine And.intro (.inr ⟨_,rfl,rfl⟩) ?_)) ?_
 have hb:w.bx.set n (l.map aB.cs)=ai.bx {w with ak:=w.ak.set n l}:=by unfold ai.bx;rw[List.map_set]
 refine cg hx hb ?_;have aX:=dL (bs:=ai.bx {w with ak:=w.ak.set n l}) (by rw[de];show 0<(w.ak.set n l).length;rw[List.length_set];omega);refine dK.intro (aI.refl _) ?_;exact AZ aX
end
section
def aeI:bX:=⟨[(160,.cm [true,false]),(163,.cm [false,false,false]),(164,.cm [true,false,false]),(174,.cm [true,false]),(181,.cm [true,false]),(184,.cm [false,false,false]),(185,.cm [true,false,false]),(194,.cm [true,false])],[9,10,11],[24,26,30,44,47,50,51,52,57,58,59,62,76,88,138,185,186,187,253,254,297,311],false⟩
attribute [-go_sem] ei
theorem TD {w v:ai}{n:Nat}{x:aB}{l:List aB}(h:w.ak[n]?=some (x::l)) (e:{w with ak:=w.ak.set n l}=v) (cut:Int):
  ph w n cut=ja (if cut≥((fO (v.ah.getD (n - 1) cF) n x).eu.length:Int) then fi {v with ah:=v.ah.set (n - 1) ⟨eX (v.ah.getD (n - 1) cF).aH (fO (v.ah.getD (n - 1) cF) n x).eu cut,(v.ah.getD (n - 1) cF).aS⟩} n (fO (v.ah.getD (n - 1) cF) n x).kept.toList else {v with ah:=v.ah.set (n - 1) ⟨eX (v.ah.getD (n - 1) cF).aH (fO (v.ah.getD (n - 1) cF) n x).eu cut,(v.ah.getD (n - 1) cF).aS⟩}) n:=by
 unfold ph;rw[Df h,e]
theorem agz (w:ai) (n:Nat) (cut:Int) (x:aB) (l:List aB) (hw:w.wf) (h:w.ak[n]?=some (x::l)) (hn:1≤n∧n≤w.ah.length) (gq:w.book.length≤3700000000):bb Tryz.prog 173 (eB w) [eA,vI n,vI cut] (.ba []) (im (ph w n cut)):=by
 have yb:=hw.first n;rw[Df h]at yb;simp only at yb;have hf:=ad4 w n x l h;have kx:ai.ah {w with ak:=w.ak.set n l}=w.ah:=rfl;have nS:ai.book {w with ak:=w.ak.set n l}=w.book:=rfl;have Cw:=(List.getElem?_eq_some_iff.1 h).1;have vn:(ai.ak {w with ak:=w.ak.set n l}).length=w.ak.length:=List.length_set;generalize he:({w with ak:=w.ak.set n l}:ai)=v at *;rw[TD h he];obtain⟨hv,iF⟩:=yb;have lY:v.book.length=w.book.length:=by rw[nS]
 have hlen:v.ah.length=w.ah.length:=by rw[kx]
 refine aA aeI false Tryz.f173 ?_;conv=>enter[1];reduce
 refine bT Tryz.f173 56 [] (by kernel_rfl) (by decide +kernel) rfl ?_;have hx:=hw.hx;have di:=hv.hx;have hs:=d7 hv.so;have ga:=hv.nw;have jD:=hv.nc;have hk:n - 1<v.ah.length:=by rw[kx];omega
 have hg:v.ah[n - 1]?=some (v.ah.getD (n - 1) cF):=by rw[List.getD_eq_getElem?_getD,bz hk];rfl
 obtain⟨w1,w2,w3⟩:=hv.wt _ (iS (l:=v.ah) (i:=n - 1) (d:=cF) hk);have z2:IntKind.i64.wrap ((n:Int) - 1)=((n - 1:Nat):Int):=by rw[aV (by omega)];omega
 generalize v.ah.getD (n - 1) cF=y at *;have jY:aT n 1 20=true:=cf.2 (by rw[kx]at ga;omega);have gX:=uI w2;have mK:=OK y n x w1 (by unfold maxLen;omega);have hm:=uL (me:=(n:Int)) (l:=x) w1 w3;generalize fO y n x=T at *;have xS:=VC y.aH T.eu cut (by have:=hm.r;unfold maxLen;omega);have aE:=rO v.ah (n - 1) (eX y.aH T.eu cut) y.aS;have k1:=hv.wl.pQ (n - 1) ⟨eX y.aH T.eu cut,y.aS⟩;generalize hkn:n - 1=k at *;have bW:(k:Int)<(v.ah.length:Int):=by omega
 have La:=yY T.kept;have c1:=VH {v with ah:=v.ah.set k ⟨eX y.aH T.eu cut,y.aS⟩} n T.kept.toList (by show v.book.length≤3900000000;rw[nS];omega) k1.dH (by omega) (vd hm);have b1:=(v5 {v with ah:=v.ah.set k ⟨eX y.aH T.eu cut,y.aS⟩} n T.kept.toList (vd hm)).len;have b1:(fi {v with ah:=v.ah.set k ⟨eX y.aH T.eu cut,y.aS⟩} n T.kept.toList).book.length≤v.book.length+T.kept.toList.length:=b1;have f2:=nh {v with ah:=v.ah.set k ⟨eX y.aH T.eu cut,y.aS⟩} n T.kept.toList;have k2:=k1.rl f2;have c2:=Nc _ n k2 (by rw[f2.ak];show n<v.ak.length;rw[vn];exact Cw) (by omega);have c3:=Nc _ n k1 (by show n<v.ak.length;rw[vn];exact Cw) (by show v.book.length≤3900000000;rw[nS];omega);simp only[cS.cs,List.cons_append,List.nil_append]at aE;have vq:w.ah[k]?=some y:=by rw[←kx];exact hg
 have mG:(k:Int)<(w.ah.length:Int):=by rw[←kx];omega
 have nf:k<w.ah.length:=by rw[←kx];exact hk
 have k3:(ja (fi {v with ah:=v.ah.set k ⟨eX y.aH T.eu cut,y.aS⟩} n T.kept.toList) n).wl:=((((k2.up n false).box n []).fresh n).rl (qw _ _));have k4:(ja {v with ah:=v.ah.set k ⟨eX y.aH T.eu cut,y.aS⟩} n).wl:=((((k1.up n false).box n []).fresh n).rl (qw _ _));by_cases hc:cut≥(T.eu.length:Int)
 ·rw[if_pos hc];generalize fi {v with ah:=v.ah.set k ⟨eX y.aH T.eu cut,y.aS⟩} n T.kept.toList=u at *;generalize ja u n=Z at *;have fD:=k2.hx;have qY:=k3.hx;simp -implicitDefEqProofs only[go_sem,hx,z2,nf,mG,vq,bE.rc]
  repeat' first
   | (with_reducible refine And.intro ?_ ?_)
   | (refine aD.intro hf ?_;simp -implicitDefEqProofs only[go_sem,hx,di,z2,nf,mG,hlen,hg,vq,bE.rc])
   | (refine aD.intro mK ?_;simp -implicitDefEqProofs only[go_sem,hx,di,z2,nf,mG,hlen,hg,vq,bE.rc])
  all_goals
   refine aq.intro xS ?_;simp -implicitDefEqProofs only[go_sem,di,z2,nf,mG,hlen,hg,vq,bE.rc,aE,hc];refine aD.intro (res:=.ba []) (σout:=im u) (by simp -implicitDefEqProofs only[go_sem,List.length_set,hlen]at c1 ⊢;exact c1) ?_;refine aC fD ?_;refine aD.intro c2 ?_;exact dk fD qY
 rw[if_neg hc];generalize ja {v with ah:=v.ah.set k ⟨eX y.aH T.eu cut,y.aS⟩} n=Z at *;have qY:=k4.hx;simp -implicitDefEqProofs only[go_sem,hx,z2,nf,mG,vq,bE.rc]
 repeat' first
  | (with_reducible refine And.intro ?_ ?_)
  | (refine aD.intro hf ?_;simp -implicitDefEqProofs only[go_sem,hx,di,z2,nf,mG,hlen,hg,vq,bE.rc])
  | (refine aD.intro mK ?_;simp -implicitDefEqProofs only[go_sem,hx,di,z2,nf,mG,hlen,hg,vq,bE.rc])
 all_goals
  refine aq.intro xS ?_;simp -implicitDefEqProofs only[go_sem,di,z2,nf,mG,hlen,hg,vq,bE.rc,aE,hc];refine aD.intro (res:=.ba []) (σout:=im Z) (by simp -implicitDefEqProofs only[go_sem,List.length_set,hlen]at c3 ⊢;exact c3) ?_;exact dk di qY
end
section
def Ud:bX:=⟨[],[9,10,11],[24,26,30,44,47,50,51,52,57,58,59,62,76,88,138,185,186,187,253,254,297,311],false⟩
attribute [-go_sem] ei
def oq (i:Nat):List AV:=[vI i]
def BC (w:ai) (i:Nat):Bool:=w.up.getD i false&&decide (0<(w.ak.getD i []).length)
def o9 (w:ai) (i:Nat):List Nat:=(List.range i).filter (BC w)
theorem PX (w:ai) (i:Nat):o9 w (i+1)=o9 w i++(if BC w i then [i] else []):=by
 unfold o9;rw[List.range_succ,List.filter_append,List.filter_cons,List.filter_nil]
theorem E5 (w:ai) (i:Nat):(o9 w i).length≤i:=by
 unfold o9;have h:=List.length_filter_le (BC w) (List.range i);rw[List.length_range]at h;exact h
theorem E6 (w:ai):o9 w w.up.length=gS w:=rfl
theorem QX (l:List Nat) (h:l.length≤1000):∀x,(l.map oq++[x]).length≤maxLen∧(l.map oq++[x]).length * 8≤140737488355328:=fun x=>du (E:=oq) (l:=l) (xs:=[x]) (b:=8) (n:=1001) (by simp;omega) (by omega) (by omega)
theorem Nk (w:ai) (h:w.wf):bb Tryz.prog 112 (eB w) [eA] (.ro 1 ((gS w).map oq)) (eB w):=by
 refine aA Ud false Tryz.f112 ?_;conv=>enter[1];reduce
 refine bT Tryz.f112 35 [.tmp 2] (by kernel_rfl) (by decide +kernel) rfl ?_;have hx:=h.hx;have hs:=d7 h.so;have ga:=h.nw;have jD:=h.nc;have lF:=h.nb;have oD:=h.nu;have dR:w.bx.length=w.ak.length:=de w;have hm:w.up.length≤maxLen:=by unfold maxLen;omega
 refine aC hx ?_;refine jX [(3,1)] (fun m s=>∃(i:Nat),i≤w.up.length∧m=w.up.length - i∧s=⟨35,[(0,eA),(3,.au 3 0 [] 1 0 (o9 w i).length),(9,.au 1000003 0 [] 1 0 w.up.length),(10,vI w.up.length),(11,vI i)],eB w++[(3,0,one ⟨1,(o9 w i).map oq,2,false⟩)],1⟩) w.up.length ?_ ?_
 ·refine aC hx ?_;exact⟨0,aQ _,rfl,rfl⟩
 rintro m s ⟨i,hi,rfl,rfl⟩;rcases bm i w.up.length with ab|bH
 ·have ae:(i:Int)<(w.up.length:Int):=by omega
  have hg:w.up[i]?=some (w.up.getD i false):=by rw[List.getD_eq_getElem?_getD,bz ab];rfl
  have nT:i<w.ak.length:=by omega
  have zW:(i:Int)<(w.ak.length:Int):=by omega
  have gp:w.bx[i]?=some ((w.ak.getD i []).map aB.cs):=by unfold ai.bx;rw[List.getElem?_map,List.getD_eq_getElem?_getD,bz nT];rfl
  have hw:=df ab hm;have ej:=QX (o9 w i) (by have:=E5 w i;omega);have aE:=PX w i;unfold BC at aE;generalize w.ak.getD i []=B at *;cases bJ:w.up.getD i false with
  | false=>
   rw[bJ]at hg aE;rw[Bool.false_and,if_neg (by decide),List.append_nil]at aE;simp -implicitDefEqProofs only[go_sem,ae,hg,hw,hx,dq,eo,bU,eO,ek];refine⟨_,by omega,i+1,ab,rfl,?_⟩;rw[aE];try rfl
  | true=>
   rw[bJ]at hg aE;rw[Bool.true_and]at aE;by_cases hB:0<B.length
   ·have yi:(B.length:Int)>0:=by omega
    rw[if_pos (decide_eq_true hB)]at aE;simp -implicitDefEqProofs only[go_sem,ae,hg,hw,hx,dq,nT,zW,gp,dR,yi,ej,eo,bU,eO,ek];refine⟨_,by omega,i+1,ab,rfl,?_⟩;rw[aE];simp only[gj,oq];try rfl
   have yi:¬((B.length:Int)>0):=by omega
   rw[if_neg (by rw[decide_eq_false hB];decide),List.append_nil]at aE;simp -implicitDefEqProofs only[go_sem,ae,hg,hw,hx,dq,nT,zW,gp,dR,yi,eo,bU,eO,ek];refine⟨_,by omega,i+1,ab,rfl,?_⟩;rw[aE];try rfl
 have hi:i=w.up.length:=by omega
 subst hi;have ae:¬((w.up.length:Int)<(w.up.length:Int)):=by omega
 rw[E6];exact dk ae hx
theorem VM (w:ai) (h:w.wf):bb Tryz.prog 134 (gm w) [vA w 1000000] (.ro 1 ((gS w).map oq)) (gm w):=by
 refine aA Ud false Tryz.f134 ?_;conv=>enter[1];reduce
 refine bT Tryz.f134 33 [.tmp 2] (by kernel_rfl) (by decide +kernel) rfl ?_;have hx:=h.hx;have hs:=d7 h.so;have ga:=h.nw;have jD:=h.nc;have lF:=h.nb;have oD:=h.nu;have dR:w.bx.length=w.ak.length:=de w;have hm:w.ak.length≤maxLen:=by unfold maxLen;omega
 refine aC hx ?_;refine cR (fun m s=>∃(i:Nat),i≤w.ak.length∧m=w.ak.length - i∧s=⟨33,[(1,.ptr 1 0 [] 35 0 0),(3,.au 3 0 [] 1 0 (o9 w i).length),(4,vI i)],w.rows 1000000 1++[(1,0,one ⟨35,[w.cells 1000000 1],0,false⟩),(3,0,one ⟨1,(o9 w i).map oq,2,false⟩)],1⟩) w.ak.length ?_ ?_
 ·refine aC hx ?_;exact⟨0,aQ _,rfl,rfl⟩
 rintro m s ⟨i,hi,rfl,rfl⟩;rcases bm i w.ak.length with ab|bH
 ·have ae:(i:Int)<(w.ak.length:Int):=by omega
  have nR:i<w.up.length:=by omega
  have q7:(i:Int)<(w.up.length:Int):=by omega
  have hg:w.up[i]?=some (w.up.getD i false):=by rw[List.getD_eq_getElem?_getD,bz nR];rfl
  have gp:w.bx[i]?=some ((w.ak.getD i []).map aB.cs):=by unfold ai.bx;rw[List.getElem?_map,List.getD_eq_getElem?_getD,bz ab];rfl
  have hw:=df ab hm;have ej:=QX (o9 w i) (by have:=E5 w i;omega);have aE:=PX w i;unfold BC at aE;generalize w.ak.getD i []=B at *;cases bJ:w.up.getD i false with
  | false=>
   rw[bJ]at hg aE;rw[Bool.false_and,if_neg (by decide),List.append_nil]at aE;simp -implicitDefEqProofs only[go_sem,ae,q7,hg,hw,hx,dq,eo,bU,eO,ek];refine⟨_,by omega,i+1,ab,rfl,?_⟩;rw[aE];try rfl
  | true=>
   rw[bJ]at hg aE;rw[Bool.true_and]at aE;by_cases hB:0<B.length
   ·have yi:(B.length:Int)>0:=by omega
    rw[if_pos (decide_eq_true hB)]at aE;simp -implicitDefEqProofs only[go_sem,ae,q7,hg,hw,hx,dq,ab,gp,dR,yi,ej,eo,bU,eO,ek];refine⟨_,by omega,i+1,ab,rfl,?_⟩;rw[aE];simp only[gj,oq];try rfl
   have yi:¬((B.length:Int)>0):=by omega
   rw[if_neg (by rw[decide_eq_false hB];decide),List.append_nil]at aE;simp -implicitDefEqProofs only[go_sem,ae,q7,hg,hw,hx,dq,ab,gp,dR,yi,eo,bU,eO,ek];refine⟨_,by omega,i+1,ab,rfl,?_⟩;rw[aE];try rfl
 have hi:i=w.ak.length:=by omega
 subst hi;have ae:¬((w.ak.length:Int)<(w.ak.length:Int)):=by omega
 rw[show o9 w w.ak.length=gS w from by rw[←E6,lF,oD]];exact dk ae hx
end
section
def aeL:bX:=⟨[(106,.cm [true]),(110,.cm [false,false])],[9,10,11],[24,26,30,44,47,50,51,52,57,58,59,62,76,88,138,185,186,187,253,254,297,311],false⟩
attribute [-go_sem] ei
theorem T0 {w:ai}(k:Int) (h:w.bj=[]):kq w k=w:=by
 unfold kq;rw[h];rfl
theorem ag5 (w:ai) (b:List aB):ai.bx {w with bj:=b}=w.bx:=rfl
attribute [go_sem] ag5
theorem VX (w:ai) (t:Nat) (B:List aB) (x:aB):w.bx.set t (B.map aB.cs++[x.cs])=ai.bx {w with ak:=w.ak.set t (B++[x])}:=by
 have:B.map aB.cs++[x.cs]=(B++[x]).map aB.cs:=by rw[List.map_append];rfl
 rw[this];unfold ai.bx;rw[List.map_set]
theorem VR (w:ai) (k:Int) (h:w.wf):bb Tryz.prog 109 (eB w) [eA,vI k] (.ba []) (im (kq w k)):=by
 refine aA aeL false Tryz.f109 ?_;conv=>enter[1];reduce
 refine qV Tryz.f109 76 [] (by kernel_rfl) (by decide +kernel) rfl rfl ?_;have hx:=h.hx;have hs:=d7 h.so;have ga:=h.nw;have jD:=h.nc;have lF:=h.nb;have oD:=h.nu;have dR:w.bx.length=w.ak.length:=de w;by_cases kV:w.bj=[]
 ·have hz:=Ob (kV▸h.qE) k;rw[T0 k kV];rw[←kV]at hz;refine aC hx ?_;refine il hz hx ?_;refine dK.intro (aI.refl _) ?_;exact er hx
 have gZ:0<w.bj.length:=List.length_pos_iff.2 kV;have Cx:=tH k gZ;have kA:w.bj[eE k w.bj.length]?=some w.bj[eE k w.bj.length]:=bz Cx;have iF:=h.bg _ (List.getElem_mem Cx);have yd:=VQ h.qE k kA;have hv:=h.bj (b:=w.bj.eraseIdx (eE k w.bj.length)) (List.length_eraseIdx_le _ _) (fun y hy=>List.mem_of_mem_eraseIdx hy);have nW:=h.Hg k;unfold kq at nW ⊢;rw[kA]at nW ⊢;simp only at nW ⊢;generalize w.bj[eE k w.bj.length]=x at *;have gK:=tQ hv.so hv.dH hv.last;generalize w.bj.eraseIdx (eE k w.bj.length)=b at *;have Cg:=(zL iF).2.1;have iO:x.jx=((x.jx.toNat:Nat):Int):=by omega
 have cc:=dG x.jx 0 ((w.ah.length+w.cls.length+1:Nat):Int);generalize ht:x.jx.toNat=t at *;by_cases c1:t<w.ak.length
 ·have nR:t<w.up.length:=by omega
  have dU:(t:Int)<(w.ak.length:Int):=by omega
  have q7:(t:Int)<(w.up.length:Int):=by omega
  have hg:w.up[t]?=some (w.up.getD t false):=by rw[List.getD_eq_getElem?_getD,bz nR];rfl
  have gp:w.bx[t]?=some ((w.ak.getD t []).map aB.cs):=by unfold ai.bx;rw[List.getElem?_map,List.getD_eq_getElem?_getD,bz c1];rfl
  have qp:=(h.bx _ (iS (l:=w.ak) (i:=t) (d:=[]) c1)).1;rw[iO,cf.2 (by omega)]at cc;have tX:=VX {w with bj:=b} t (w.ak.getD t []) x;have tX:w.bx.set t ((w.ak.getD t []).map aB.cs++[x.cs])=ai.bx {w with ak:=w.ak.set t (w.ak.getD t []++[x]),bj:=b}:=tX;generalize w.ak.getD t []=B at *;generalize w.up.getD t false=u at *;have ej:=tO B (by omega);by_cases c2:u=true∧(B.length:Int)<w.set.inbox
  ·rw[if_pos ⟨c1,c2.1,c2.2⟩]at nW ⊢;obtain⟨c2,c3⟩:=c2;subst c2;have dW:(w.ak.set t (B++[x])).length=w.ak.length:=List.length_set;have aX:=nW.hx;simp only[aB.cs,iO]at tX;refine aC hx ?_;refine ff yd hx iO ?_;refine ff gK hx iO ?_;refine aq.intro cc ?_;simp -implicitDefEqProofs only[go_sem,hx,iO,nR,q7,hg,dq,c1,dU,gp,dR,c3,ej,eo,bU,eO,ek];refine dK.step (aI.pn [0] _) ?_;refine aw ?_;refine dK.step (aI.tA _ 1000004) ?_;refine aC hx ?_;refine dK.step (aI.Tu (B:=900100) (i:=t) (L:=B.map aB.cs++[[vI x.from_,vI t,vS x.text]]) (by decide) rfl rfl (by rw[dR];exact c1) (.cq (d:=73) (gd:=_) (by decide) rfl (by simp)) rfl (by repeat' first|exact trivial|refine And.intro (.inl rfl) ?_|refine And.intro (.inr ⟨_,rfl,rfl⟩) ?_)) ?_;refine aC tX ?_;refine dK.intro (aI.refl _) ?_;exact AZ aX
  rw[if_neg (fun hh=>c2 ⟨hh.2.1,hh.2.2⟩)]at nW ⊢;refine aC hx ?_;refine ff yd hx iO ?_;refine ff gK hx iO ?_;refine aq.intro cc ?_;cases u with
  | false=>
   simp -implicitDefEqProofs only[go_sem,hx,iO,nR,q7,hg,dq,eo,bU,eO,ek];refine dK.intro (aI.refl _) ?_;exact er hx
  | true=>
   have c3:¬((B.length:Int)<w.set.inbox):=fun hh=>c2 ⟨rfl,hh⟩
   simp -implicitDefEqProofs only[go_sem,hx,iO,nR,q7,hg,dq,c1,dU,gp,dR,c3,eo,bU,eO,ek];refine dK.intro (aI.refl _) ?_;exact er hx
 rw[if_neg (fun hh=>c1 hh.1)]at nW ⊢;rw[iO,nG (by omega)]at cc;refine aC hx ?_;refine ff yd hx iO ?_;refine ff gK hx iO ?_;refine aq.intro cc ?_;refine Ek hx ?_;refine dK.intro (aI.refl _) ?_;exact er hx
end
section
def aeK:bX:=⟨[(132,.cm [false,false])],[9,10,11],[24,26,30,44,47,50,51,52,57,58,59,62,76,88,138,185,186,187,253,254,297,311],false⟩
attribute [-go_sem] ei
theorem VO (w:ai) (k:Int) (h:w.wf):bb Tryz.prog 131 (gm w) [vA w 1000000,vI k] (vA (kq w k) 0) (eJ (kq w k)):=by
 refine aA aeK false Tryz.f131 ?_;conv=>enter[1];reduce
 refine qV Tryz.f131 69 [.cell 4 64] (by kernel_rfl) (by decide +kernel) rfl rfl ?_;have hx:=h.hx;have hs:=d7 h.so;have ga:=h.nw;have jD:=h.nc;have lF:=h.nb;have oD:=h.nu;have dR:w.bx.length=w.ak.length:=de w;by_cases kV:w.bj=[]
 ·have hz:=Oa (kV▸h.qE) k;rw[T0 k kV];rw[←kV]at hz;refine aC hx ?_;refine aD.intro hz ?_;refine Ek hx ?_;refine dK.intro (aI.refl _) ?_;exact er hx
 have gZ:0<w.bj.length:=List.length_pos_iff.2 kV;have Cx:=tH k gZ;have kA:w.bj[eE k w.bj.length]?=some w.bj[eE k w.bj.length]:=bz Cx;have iF:=h.bg _ (List.getElem_mem Cx);have yd:=VN h.qE k kA;have nW:=h.Hg k;unfold kq at nW ⊢;rw[kA]at nW ⊢;simp only at nW ⊢;generalize w.bj[eE k w.bj.length]=x at *;generalize w.bj.eraseIdx (eE k w.bj.length)=b at *;have Cg:=(zL iF).2.1;have iO:x.jx=((x.jx.toNat:Nat):Int):=by omega
 generalize ht:x.jx.toNat=t at *;by_cases c1:t<w.ak.length
 ·have nR:t<w.up.length:=by omega
  have dU:(t:Int)<(w.ak.length:Int):=by omega
  have DC:¬((t:Int)≥(w.ak.length:Int)):=by omega
  have q7:(t:Int)<(w.up.length:Int):=by omega
  have hg:w.up[t]?=some (w.up.getD t false):=by rw[List.getD_eq_getElem?_getD,bz nR];rfl
  have gp:w.bx[t]?=some ((w.ak.getD t []).map aB.cs):=by unfold ai.bx;rw[List.getElem?_map,List.getD_eq_getElem?_getD,bz c1];rfl
  have qp:=(h.bx _ (iS (l:=w.ak) (i:=t) (d:=[]) c1)).1;have tX:=VX {w with bj:=b} t (w.ak.getD t []) x;have tX:w.bx.set t ((w.ak.getD t []).map aB.cs++[x.cs])=ai.bx {w with ak:=w.ak.set t (w.ak.getD t []++[x]),bj:=b}:=tX;generalize w.ak.getD t []=B at *;generalize w.up.getD t false=u at *;have ej:=tO B (by omega);by_cases c2:u=true∧(B.length:Int)<w.set.inbox
  ·rw[if_pos ⟨c1,c2.1,c2.2⟩]at nW ⊢;obtain⟨c2,c3⟩:=c2;subst c2;have dW:(w.ak.set t (B++[x])).length=w.ak.length:=List.length_set;have aX:=nW.hx;have c3n:¬((B.length:Int)≥w.set.inbox):=by omega
   simp only[aB.cs,iO]at tX;refine aC hx ?_;refine aD.intro yd ?_;simp -implicitDefEqProofs only[go_sem,hx,iO,nR,q7,hg,dq,c1,dU,DC,gp,dR,c3n,ej,eo,bU,eO,ek];refine dK.step (aI.pn [4] _) ?_;refine aw ?_;refine dK.step (aI.tA _ 1000003) ?_;refine aC hx ?_;refine dK.step (aI.Tu (B:=900100) (i:=t) (L:=B.map aB.cs++[[vI x.from_,vI t,vS x.text]]) (by decide) rfl rfl (by rw[dR];exact c1) (.cq (d:=65) (gd:=_) (by decide) rfl (by simp)) rfl (by repeat' first|exact trivial|refine And.intro (.inl rfl) ?_|refine And.intro (.inr ⟨_,rfl,rfl⟩) ?_)) ?_;refine aC tX ?_;refine dK.intro (aI.refl _) ?_;exact AZ aX
  rw[if_neg (fun hh=>c2 ⟨hh.2.1,hh.2.2⟩)]at nW ⊢;refine aC hx ?_;refine aD.intro yd ?_;cases u with
  | false=>
   simp -implicitDefEqProofs only[go_sem,hx,iO,nR,q7,hg,dq,DC,eo,bU,eO,ek];refine dK.intro (aI.refl _) ?_;exact er hx
  | true=>
   have c3:(B.length:Int)≥w.set.inbox:=by
    rcases Int.lt_or_le (B.length:Int) w.set.inbox with hh|hh
    ·exact absurd ⟨rfl,hh⟩ c2
    exact hh
   simp -implicitDefEqProofs only[go_sem,hx,iO,nR,q7,hg,dq,c1,dU,DC,gp,dR,c3,eo,bU,eO,ek];refine dK.intro (aI.refl _) ?_;exact er hx
 rw[if_neg (fun hh=>c1 hh.1)]at nW ⊢;have DC:(t:Int)≥(w.ak.length:Int):=by omega
 refine aC hx ?_;refine aD.intro yd ?_;simp -implicitDefEqProofs only[go_sem,hx,iO,DC,eo,bU,eO,ek];refine dK.intro (aI.refl _) ?_;exact er hx
end
end Go.Proofs.YtobpfkgabdeefaaGreat.E
