/- Contracts: nodes fall, in the reference; Contracts: the first letter of a box, the other rows under their own names; Contracts: a witness falls within its raw writes; Contracts: the nodes that may hear; Contracts: letters delivered; Contracts: letters delivered, in the reference -/
import Derived.Test.YtobpfkgabdeefaaGreatQ35
namespace Go.Proofs.YtobpfkgabdeefaaGreat.E
open Go Go.RowKit
set_option maxHeartbeats 4000000
set_option maxRecDepth 10000
set_option linter.unusedSimpArgs false
set_option linter.unusedVariables false
set_option linter.unusedSectionVars false
section
def ae1:cc:=⟨[(239,.cm [true,false])],cw,cz,false⟩
attribute [-go_sem] ei
theorem nX {a b c:Int}(h:¬(b<=a/\a<=c)):aS a b c=false:=by
 cases e:aS a b c with
 | false=>rfl
 | true=>exact absurd (cr.1 e) h
def uT (v:ae) (t t2:Nat) (rest:ak):ak:=(t,0,one ⟨35,[v.cells (10000+t) 10000],0,false⟩)::v.rows (10000+t) 10000++((t2,0,one ⟨35,[jL],0,false⟩)::rest)
attribute [go_sem] uT
theorem MU (w:ae) (n:Nat) (h:w.wl) (hn:n<w.ai.length) (hb:w.book.length<=3900000000):aY Tryz.prog 194 (gJ w) [vA w 1000000,vI n] (vA (iR w n) 0) (eX (iR w n)):=by
 refine yV [[0,0],[0,0,0,0,0,0,0,0]] ae1 false Tryz.f194 ?_;conv=>enter[1];reduce
 refine bI Tryz.f194 78 [.cell 4 64] (by kernel_rfl) (by decide +kernel) rfl ?_;have hx:=h.hx;have dX:w.bx.length=w.ai.length:=dh w;have jW:=h.nb;have om:=h.nu;have hu:n<w.up.length:=by omega
 have cU:(n:Int)<(w.up.length:Int):=by omega
 have lR:(n:Int)<(w.ai.length:Int):=by omega
 have hg:w.up[n]?=some w.up[n]:=bm hu;have oX:=yW w.up n false;have ga:w.bx[n]?=some ((w.ai[n]).map aC.cs):=by unfold ae.bx;rw[List.getElem?_map,bm hn];rfl
 have hv:=(h.up n false).box n [];unfold iR;have iW:w.bx.set n []=ae.bx {w with up:=w.up.set n false,ai:=w.ai.set n []}:=by unfold ae.bx;rw[List.map_set];rfl
 have pU:(w.up.set n false).length=w.up.length:=List.length_set;have dY:(w.ai.set n []).length=w.ai.length:=List.length_set;simp -implicitDefEqProofs only[go_sem,hx,hu,cU,hg,hn,lR,ga,dX,dw,oX];refine kM (fun s=>s=⟨78,[(1,vI n),(2,.ptr 2 0 [] 35 0 0),(4,.ptr 4 0 [] 35 0 0)],uT {w with up:=w.up.set n false,ai:=w.ai.set n []} 2 4 [],1⟩) ?_ ?_
 ·simp -implicitDefEqProofs only[go_sem,hx,hu,cU,hg,hn,lR,ga,dX,dw,oX];refine bO.step (aB.tO _ 1000003) ?_;refine aA hx ?_;refine bO.step (aB.yj (B:=900100) (i:=n) (L:=[]) (by decide) rfl (by rw[dX];exact hn) (.nil) rfl (by repeat' first|exact trivial|refine And.intro (.inl rfl) ?_|refine And.intro (.inr ⟨_,rfl,rfl⟩) ?_)) ?_;have aW:=hv.hx;refine aA iW ?_;refine bO.intro (aB.b9 [] [1,2,4] _) ?_;simp -implicitDefEqProofs only[go_sem,aW,pU,dY];try rfl
 rintro s rfl;have hnv:n<(ae.ai {w with up:=w.up.set n false,ai:=w.ai.set n []}).length:=by show n<(w.ai.set n []).length;rw[List.length_set];exact hn
 have hf:=hv.fresh n;have qE:=M9 {w with up:=w.up.set n false,ai:=w.ai.set n []} n;have qE:(eQ {w with up:=w.up.set n false,ai:=w.ai.set n []} n).book=w.book:=qE;generalize ({w with up:=w.up.set n false,ai:=w.ai.set n []}:ae)=v at *;clear oX ga pU dY iW hg;have aW:=hv.hx;have hs:=ea hv.so;have fR:=hv.nw;have jV:=hv.nc;have eU:=Ca (eQ v n) ⟨7,n,0,0,0,.zero,.zero,[]⟩ (by rw[qE];omega) hf.dM rfl;have ow:=hf.rL (qJ (eQ v n) ⟨7,n,0,0,0,.zero,.zero,[]⟩);have z1:IntKind.i64.wrap (v.set.many+1)=v.set.many+1:=aN (by omega);have z2:IntKind.i64.wrap (v.set.many+v.set.bB)=v.set.many+v.set.bB:=aN (by omega);have z3:IntKind.i64.wrap (v.set.many+v.set.bB+1)=v.set.many+v.set.bB+1:=aN (by omega);have i1:=fG n 1 v.set.many;have i2:=fG n (v.set.many+1) (v.set.many+v.set.bB);have cD:=hf.hx;refine aA aW ?_;rcases Hd hv hnv with h0|h1|h2|h3
 ·have e:eQ v n={v with log:=[]}:=if_pos h0;rw[nX (by omega)]at i1;rw[nX (by omega)]at i2;have z:((n:Int)==0)=true:=by rw[beq_iff_eq];omega
  have z4:((n:Int)==v.set.many+v.set.bB+1)=false:=by rw[beq_eq_false_iff_ne];omega
  refine nS aW z z1 z2 z3 z4 ?_;refine aq.intro i1 ?_;refine nS aW z z1 z2 z3 z4 ?_;refine aq.intro i2 ?_;refine nS aW z z1 z2 z3 z4 ?_;refine kM (fun s=>s=⟨78,[(1,vI n),(2,.ptr 2 0 [] 35 0 0),(4,.ptr 4 0 [] 35 0 0)],uT (eQ v n) 2 4 [],1⟩) ?_ ?_
  ·rw[e]at cD ⊢;refine nS aW z z1 z2 z3 z4 ?_;refine bO.step (aB.tG (r:=2) [ae.cells {v with log:=[]} 10002 10000] (by decide) rfl (.cons (by
    simp -implicitDefEqProofs only[go_sem]
    repeat' first
     | exact .nil
     | refine .cons nn ?_
     | refine .cons np ?_) .nil)) ?_
   refine bO.intro (aB.b9 [] [1,2,4] _) ?_;refine yM aW cD ?_
   first|exact True.intro|rfl
  rintro s rfl;clear e;generalize eQ v n=u at *;generalize ik u ⟨7,n,0,0,0,.zero,.zero,[]⟩=y at *;have lb:=ow.hx;refine aA cD ?_;refine aE.intro eU ?_;exact dp cD lb
 ·have e:eQ v n={v with aj:=v.aj.set (n - 1) ⟨(v.aj.getD (n - 1) cJ).aH,[]⟩}:=LN v h1;have hk:n - 1<v.aj.length:=by omega
  have hg:v.aj[n - 1]?=some (v.aj.getD (n - 1) cJ):=by rw[List.getD_eq_getElem?_getD,bm hk];rfl
  rw[cr.2 (by omega)]at i1;rw[nX (by omega)]at i2;have z:((n:Int)==0)=false:=by rw[beq_eq_false_iff_ne];omega
  have z4:((n:Int)==v.set.many+v.set.bB+1)=false:=by rw[beq_eq_false_iff_ne];omega
  have z5:IntKind.i64.wrap ((n:Int) - 1)=((n - 1:Nat):Int):=by rw[aN (by omega)];omega
  generalize v.aj.getD (n - 1) cJ=y at *;have aD:=sh v.aj (n - 1) y.aH [];generalize n - 1=k at *;have bV:(k:Int)<(v.aj.length:Int):=by omega
  simp -implicitDefEqProofs only[go_sem,aW,z,z1,z2,z3,z4,z5,hk,bV,hg,bz.rc];refine aq.intro i1 ?_;simp -implicitDefEqProofs only[go_sem,aW,z,z1,z2,z3,z4,z5,hk,bV,hg,bz.rc];refine aq.intro i2 ?_;simp -implicitDefEqProofs only[go_sem,aW,z,z1,z2,z3,z4,z5,hk,bV,hg,bz.rc];refine kM (fun s=>s=⟨78,[(1,vI n),(2,.ptr 2 0 [] 35 0 0),(4,.ptr 4 0 [] 35 0 0)],uT (eQ v n) 2 4 [],1⟩) ?_ ?_
  ·rw[e]at cD ⊢;simp -implicitDefEqProofs only[go_sem,aW,z,z1,z2,z3,z4,z5,hk,bV,hg,bz.rc];refine bO.step (aB.tG (r:=10002) ((v.aj.map bz.rc).set k (y.aH.cs++[.ro 7 []])) (by decide) rfl (hY.set (by
    simp -implicitDefEqProofs only[go_sem]
    repeat' first
     | exact .nil
     | refine .cons nn ?_
     | refine .cons np ?_) _ _)) ?_
   rw[show y.aH.cs++[.ro 7 []]=y.aH.cs++[.ro 7 (List.map bD.cs [])] from rfl,aD];refine bO.intro (aB.b9 [] [1,2,4] _) ?_;refine yM aW cD ?_
   first|exact True.intro|rfl
  rintro s rfl;clear e;generalize eQ v n=u at *;generalize ik u ⟨7,n,0,0,0,.zero,.zero,[]⟩=y at *;have lb:=ow.hx;refine aA cD ?_;refine aE.intro eU ?_;exact dp cD lb
 ·have e:eQ v n={v with cls:=v.cls.set (n - v.aj.length - 1) (dW v.set)}:=by
   unfold eQ;rw[if_neg (by omega),if_neg (by omega),if_pos h2.2]
  have hk:n - v.aj.length - 1<v.cls.length:=by omega
  rw[cr.2 (by omega)]at i2;rw[nX (by omega)]at i1;have z:((n:Int)==0)=false:=by rw[beq_eq_false_iff_ne];omega
  have z4:((n:Int)==v.set.many+v.set.bB+1)=false:=by rw[beq_eq_false_iff_ne];omega
  have z5:IntKind.i64.wrap ((n:Int) - v.set.many)=(n:Int) - v.set.many:=aN (by omega);have z6:IntKind.i64.wrap ((n:Int) - v.set.many - 1)=((n - v.aj.length - 1:Nat):Int):=by rw[aN (by omega)];omega
  have aD:=Hv v.cls (n - v.aj.length - 1) (dW v.set);generalize n - v.aj.length - 1=k at *;have bV:(k:Int)<(v.cls.length:Int):=by omega
  have hg:v.cls[k]?=some v.cls[k]:=bm hk;simp -implicitDefEqProofs only[go_sem,aW,z,z1,z2,z3,z4,z5,z6,hk,bV,hg,bw.rc];refine aq.intro i1 ?_;simp -implicitDefEqProofs only[go_sem,aW,z,z1,z2,z3,z4,z5,z6,hk,bV,hg,bw.rc];refine aq.intro i2 ?_;simp -implicitDefEqProofs only[go_sem,aW,z,z1,z2,z3,z4,z5,z6,hk,bV,hg,bw.rc];refine kM (fun s=>s=⟨78,[(1,vI n),(2,.ptr 2 0 [] 35 0 0),(4,.ptr 4 0 [] 35 0 0)],uT (eQ v n) 2 4 [],1⟩) ?_ ?_
  ·rw[e]at cD ⊢;simp -implicitDefEqProofs only[go_sem,aW,z,z1,z2,z3,z4,z5,z6,hk,bV,hg,bw.rc];refine bO.step (aB.tG (r:=20002) ((v.cls.map bw.rc).set k ((dW v.set).cs (.ro 1 []))) (by decide) rfl (hY.set (by
    unfold dW;simp -implicitDefEqProofs only[go_sem]
    repeat' first
     | exact .nil
     | refine .cons nn ?_
     | refine .cons np ?_) _ _)) ?_
   rw[show(dW v.set).cs (.ro 1 [])=(dW v.set).cs (.ro 1 (List.map dz (dW v.set).bj)) from rfl,aD];refine bO.intro (aB.b9 [] [1,2,4] _) ?_;refine yM aW cD ?_
   first|exact True.intro|rfl
  rintro s rfl;clear e;generalize eQ v n=u at *;generalize ik u ⟨7,n,0,0,0,.zero,.zero,[]⟩=y at *;have lb:=ow.hx;refine aA cD ?_;refine aE.intro eU ?_;exact dp cD lb
 have e:eQ v n={v with cS:=qm v.set}:=by
  unfold eQ;rw[if_neg (by omega),if_neg (by omega),if_neg (by omega)]
 rw[nX (by omega)]at i1;rw[nX (by omega)]at i2;have z:((n:Int)==0)=false:=by rw[beq_eq_false_iff_ne];omega
 have z4:((n:Int)==v.set.many+v.set.bB+1)=true:=by rw[beq_iff_eq];omega
 refine nS aW z z1 z2 z3 z4 ?_;refine aq.intro i1 ?_;refine nS aW z z1 z2 z3 z4 ?_;refine aq.intro i2 ?_;refine nS aW z z1 z2 z3 z4 ?_;refine kM (fun s=>s=⟨78,[(1,vI n),(2,.ptr 2 0 [] 35 0 0),(4,.ptr 4 0 [] 35 0 0)],uT (eQ v n) 2 4 [],1⟩) ?_ ?_
 ·rw[e]at cD ⊢;refine nS aW z z1 z2 z3 z4 ?_;refine bO.step (aB.tG (r:=2) [ae.cells {v with cS:=qm v.set} 10002 10000] (by decide) rfl (.cons (by
   unfold qm dW;simp -implicitDefEqProofs only[go_sem]
   repeat' first
    | exact .nil
    | refine .cons nn ?_
    | refine .cons np ?_) .nil)) ?_
  refine bO.intro (aB.b9 [] [1,2,4] _) ?_;refine yM aW cD ?_
  first|exact True.intro|rfl
 rintro s rfl;clear e;generalize eQ v n=u at *;generalize ik u ⟨7,n,0,0,0,.zero,.zero,[]⟩=y at *;have lb:=ow.hx;refine aA cD ?_;refine aE.intro eU ?_;exact dp cD lb
end
section
def aeY:cc:=⟨[],cw,cz,false⟩
attribute [-go_sem] ei
def wB (w:ae):ak:=
 [(1000000,0,one ⟨35,[[vI w.set.many,vI w.set.eH,vI w.set.bB,vI w.set.room,vI w.set.inbox,.ro 1 (w.log.map cF),.aw 1000001 0 [] 15 0 w.aj.length,.aw 1000002 0 [] 15 0 w.cls.length]++(w.cS.rc++
 [.aw 1000003 0 [] 1 0 w.up.length,.aw 0 0 [] 1 0 w.ai.length,vI w.room,.ro 3 (w.aO.map aC.cs),.aw 1000005 0 [] 16 0 w.book.length,vB w.stop])],0,false⟩),
  (1000001,0,one ⟨15,w.aj.map bz.rc,1,false⟩),(1000002,0,one ⟨15,w.cls.map bw.rc,1,false⟩),(1000003,0,one ⟨1,w.up.map dw,2,false⟩),(1000005,0,one ⟨16,w.book.map dK.cs,1,false⟩),(0,0,iy 0 0 3 w.bx)]
attribute [go_sem] wB
theorem ael (w:ae) (n:Nat) (x:aC) (l:List aC) (h:w.ai[n]?=some (x::l)):aY Tryz.prog 160 (eL w) [eI,vI n] (.agg x.cs) (wB {w with ai:=w.ai.set n l}):=by
 refine aF aeY false Tryz.f160 ?_;conv=>enter[1];reduce
 refine rl Tryz.f160 33 [.cell 4 116] (by kernel_rfl) (by decide +kernel) rfl rfl ?_;have hn:n<w.ai.length:=(List.getElem?_eq_some_iff.1 h).1;have hx:=dR (bs:=w.bx) (by rw[dh];omega);have hg:w.bx[n]?=some (x.cs::l.map aC.cs):=by unfold ae.bx;rw[List.getElem?_map,h];rfl
 have lR:(n:Int)<(w.ai.length:Int):=by omega
 have dX:w.bx.length=w.ai.length:=dh w;have sS:(0:Int)<((l.length+1:Nat):Int):=by omega
 have kI:(1:Int)<=((l.length+1:Nat):Int):=by omega
 simp -implicitDefEqProofs only[go_sem,hx,hg,hn,lR,dX,sS,kI,Nat.add_sub_cancel];refine dO.step (aB.tO _ 1000004) ?_;refine aA hx ?_;refine dO.step (aB.yj (B:=900100) (i:=n) (L:=l.map aC.cs) (by decide) rfl (by rw[dX];exact hn) (.Pa x.cs hg (List.length_map _)) rfl (by repeat' first
  | exact trivial
  | refine And.intro (.inl rfl) ?_
  | refine And.intro (.inr ⟨_,rfl,rfl⟩) ?_)) ?_
 have hb:w.bx.set n (l.map aC.cs)=ae.bx {w with ai:=w.ai.set n l}:=by unfold ae.bx;rw[List.map_set]
 refine b8 hx hb ?_;have aW:=dR (bs:=ae.bx {w with ai:=w.ai.set n l}) (by rw[dh];show 0<(w.ai.set n l).length;rw[List.length_set];omega);refine dO.intro (aB.refl _) ?_;exact AT aW
end
section
def aeX:cc:=⟨[(160,.cm [true,false]),(163,.cm [false,false,false]),(164,.cm [true,false,false]),(174,.cm [true,false]),(181,.cm [true,false]),(184,.cm [false,false,false]),(185,.cm [true,false,false]),(194,.cm [true,false])],cw,cz,false⟩
attribute [-go_sem] ei
theorem TL {w v:ae}{n:Nat}{x:aC}{l:List aC}(h:w.ai[n]?=some (x::l)) (e:{w with ai:=w.ai.set n l}=v) (cut:Int):
  nA w n cut=iR (if cut>=((fX (v.aj.getD (n - 1) cJ) n x).eG.length:Int) then fC {v with aj:=v.aj.set (n - 1) ⟨fu (v.aj.getD (n - 1) cJ).aH (fX (v.aj.getD (n - 1) cJ) n x).eG cut,(v.aj.getD (n - 1) cJ).aQ⟩} n (fX (v.aj.getD (n - 1) cJ) n x).kept.toList else {v with aj:=v.aj.set (n - 1) ⟨fu (v.aj.getD (n - 1) cJ).aH (fX (v.aj.getD (n - 1) cJ) n x).eG cut,(v.aj.getD (n - 1) cJ).aQ⟩}) n:=by
 unfold nA;rw[De h,e]
theorem agK (w:ae) (n:Nat) (cut:Int) (x:aC) (l:List aC) (hw:w.wf) (h:w.ai[n]?=some (x::l)) (hn:1<=n/\n<=w.aj.length) (fU:w.book.length<=3700000000):aY Tryz.prog 173 (eL w) [eI,vI n,vI cut] (.aZ []) (iA (nA w n cut)):=by
 have x9:=hw.first n;rw[De h]at x9;simp only at x9;have hf:=ael w n x l h;have kI:ae.aj {w with ai:=w.ai.set n l}=w.aj:=rfl;have ou:ae.book {w with ai:=w.ai.set n l}=w.book:=rfl;have Cx:=(List.getElem?_eq_some_iff.1 h).1;have vC:(ae.ai {w with ai:=w.ai.set n l}).length=w.ai.length:=List.length_set;generalize he:({w with ai:=w.ai.set n l}:ae)=v at *;rw[TL h he];obtain⟨hv,gT⟩:=x9;have lf:v.book.length=w.book.length:=by rw[ou]
 have hlen:v.aj.length=w.aj.length:=by rw[kI]
 refine aF aeX false Tryz.f173 ?_;conv=>enter[1];reduce
 refine bI Tryz.f173 56 [] (by kernel_rfl) (by decide +kernel) rfl ?_;have hx:=hw.hx;have c8:=hv.hx;have hs:=ea hv.so;have fR:=hv.nw;have jV:=hv.nc;have hk:n - 1<v.aj.length:=by rw[kI];omega
 have hg:v.aj[n - 1]?=some (v.aj.getD (n - 1) cJ):=by rw[List.getD_eq_getElem?_getD,bm hk];rfl
 obtain⟨w1,w2,w3⟩:=hv.wt _ (je (l:=v.aj) (i:=n - 1) (d:=cJ) hk);have z2:IntKind.i64.wrap ((n:Int) - 1)=((n - 1:Nat):Int):=by rw[aN (by omega)];omega
 generalize v.aj.getD (n - 1) cJ=y at *;have kr:aS n 1 20=true:=cr.2 (by rw[kI]at fR;omega);have ir:=tH w2;have mX:=Oy y n x w1 (by unfold maxLen;omega);have hm:=uR (me:=(n:Int)) (l:=x) w1 w3;generalize fX y n x=T at *;have xP:=VF y.aH T.eG cut (by have:=hm.r;unfold maxLen;omega);have aD:=sh v.aj (n - 1) (fu y.aH T.eG cut) y.aQ;have k1:=hv.wl.qf (n - 1) ⟨fu y.aH T.eG cut,y.aQ⟩;generalize hkn:n - 1=k at *;have bV:(k:Int)<(v.aj.length:Int):=by omega
 have KZ:=yX T.kept;have c1:=VK {v with aj:=v.aj.set k ⟨fu y.aH T.eG cut,y.aQ⟩} n T.kept.toList (by show v.book.length<=3900000000;rw[ou];omega) k1.dM (by omega) (vl hm);have b1:=(wo {v with aj:=v.aj.set k ⟨fu y.aH T.eG cut,y.aQ⟩} n T.kept.toList (vl hm)).len;have b1:(fC {v with aj:=v.aj.set k ⟨fu y.aH T.eG cut,y.aQ⟩} n T.kept.toList).book.length<=v.book.length+T.kept.toList.length:=b1;have f2:=kK {v with aj:=v.aj.set k ⟨fu y.aH T.eG cut,y.aQ⟩} n T.kept.toList;have k2:=k1.rL f2;have c2:=MX _ n k2 (by rw[f2.ai];show n<v.ai.length;rw[vC];exact Cx) (by omega);have c3:=MX _ n k1 (by show n<v.ai.length;rw[vC];exact Cx) (by show v.book.length<=3900000000;rw[ou];omega);simp only[cX.cs,List.cons_append,List.nil_append]at aD;have vF:w.aj[k]?=some y:=by rw[<-kI];exact hg
 have mV:(k:Int)<(w.aj.length:Int):=by rw[<-kI];omega
 have nH:k<w.aj.length:=by rw[<-kI];exact hk
 have k3:(iR (fC {v with aj:=v.aj.set k ⟨fu y.aH T.eG cut,y.aQ⟩} n T.kept.toList) n).wl:=((((k2.up n false).box n []).fresh n).rL (qJ _ _));have k4:(iR {v with aj:=v.aj.set k ⟨fu y.aH T.eG cut,y.aQ⟩} n).wl:=((((k1.up n false).box n []).fresh n).rL (qJ _ _));by_cases hc:cut>=(T.eG.length:Int)
 ·rw[if_pos hc];generalize fC {v with aj:=v.aj.set k ⟨fu y.aH T.eG cut,y.aQ⟩} n T.kept.toList=u at *;generalize iR u n=Z at *;have fB:=k2.hx;have ry:=k3.hx;simp -implicitDefEqProofs only[go_sem,hx,z2,nH,mV,vF,bz.rc]
  repeat' first
   | (with_reducible refine And.intro ?_ ?_)
   | (refine aE.intro hf ?_;simp -implicitDefEqProofs only[go_sem,hx,c8,z2,nH,mV,hlen,hg,vF,bz.rc])
   | (refine aE.intro mX ?_;simp -implicitDefEqProofs only[go_sem,hx,c8,z2,nH,mV,hlen,hg,vF,bz.rc])
  all_goals
   refine aq.intro xP ?_;simp -implicitDefEqProofs only[go_sem,c8,z2,nH,mV,hlen,hg,vF,bz.rc,aD,hc];refine aE.intro (res:=.aZ []) (σout:=iA u) (by simp -implicitDefEqProofs only[go_sem,List.length_set,hlen]at c1 ⊢;exact c1) ?_;refine aA fB ?_;refine aE.intro c2 ?_;exact dp fB ry
 rw[if_neg hc];generalize iR {v with aj:=v.aj.set k ⟨fu y.aH T.eG cut,y.aQ⟩} n=Z at *;have ry:=k4.hx;simp -implicitDefEqProofs only[go_sem,hx,z2,nH,mV,vF,bz.rc]
 repeat' first
  | (with_reducible refine And.intro ?_ ?_)
  | (refine aE.intro hf ?_;simp -implicitDefEqProofs only[go_sem,hx,c8,z2,nH,mV,hlen,hg,vF,bz.rc])
  | (refine aE.intro mX ?_;simp -implicitDefEqProofs only[go_sem,hx,c8,z2,nH,mV,hlen,hg,vF,bz.rc])
 all_goals
  refine aq.intro xP ?_;simp -implicitDefEqProofs only[go_sem,c8,z2,nH,mV,hlen,hg,vF,bz.rc,aD,hc];refine aE.intro (res:=.aZ []) (σout:=iA Z) (by simp -implicitDefEqProofs only[go_sem,List.length_set,hlen]at c3 ⊢;exact c3) ?_;exact dp c8 ry
end
section
def Ul:cc:=⟨[],cw,cz,false⟩
attribute [-go_sem] ei
def jN (i:Nat):List AV:=[vI i]
def Bv (w:ae) (i:Nat):Bool:=w.up.getD i false&&decide (0<(w.ai.getD i []).length)
def pz (w:ae) (i:Nat):List Nat:=(List.range i).filter (Bv w)
theorem P5 (w:ae) (i:Nat):pz w (i+1)=pz w i++(if Bv w i then [i] else []):=by
 unfold pz;rw[List.range_succ,List.filter_append,List.filter_cons,List.filter_nil]
theorem E8 (w:ae) (i:Nat):(pz w i).length<=i:=by
 unfold pz;have h:=List.length_filter_le (Bv w) (List.range i);rw[List.length_range]at h;exact h
theorem E9 (w:ae):pz w w.up.length=gP w:=rfl
theorem JR (l:List Nat) (h:l.length<=1000):∀x,(l.map jN++[x]).length<=maxLen/\(l.map jN++[x]).length * 8<=140737488355328:=fun x=>ed (E:=jN) (l:=l) (xs:=[x]) (b:=8) (n:=1001) (by simp;omega) (by omega) (by omega)
theorem M4 (w:ae) (h:w.wf):aY Tryz.prog 112 (eL w) [eI] (.ro 1 ((gP w).map jN)) (eL w):=by
 refine aF Ul false Tryz.f112 ?_;conv=>enter[1];reduce
 refine bI Tryz.f112 35 [.tmp 2] (by kernel_rfl) (by decide +kernel) rfl ?_;have hx:=h.hx;have hs:=ea h.so;have fR:=h.nw;have jV:=h.nc;have jW:=h.nb;have om:=h.nu;have dX:w.bx.length=w.ai.length:=dh w;have hm:w.up.length<=maxLen:=by unfold maxLen;omega
 refine aA hx ?_;refine mj [(3,1)] (fun m s=>∃(i:Nat),i<=w.up.length/\m=w.up.length - i/\s=⟨35,[(0,eI),(3,.aw 3 0 [] 1 0 (pz w i).length),(9,.aw 1000003 0 [] 1 0 w.up.length),(10,vI w.up.length),(11,vI i)],eL w++[(3,0,one ⟨1,(pz w i).map jN,2,false⟩)],1⟩) w.up.length ?_ ?_
 ·refine aA hx ?_;exact⟨0,aR _,rfl,rfl⟩
 rintro m s ⟨i,hi,rfl,rfl⟩;rcases bp i w.up.length with ab|bM
 ·have ah:(i:Int)<(w.up.length:Int):=by omega
  have hg:w.up[i]?=some (w.up.getD i false):=by rw[List.getD_eq_getElem?_getD,bm ab];rfl
  have lT:i<w.ai.length:=by omega
  have xV:(i:Int)<(w.ai.length:Int):=by omega
  have ga:w.bx[i]?=some ((w.ai.getD i []).map aC.cs):=by unfold ae.bx;rw[List.getElem?_map,List.getD_eq_getElem?_getD,bm lT];rfl
  have hw:=dx ab hm;have gv:=JR (pz w i) (by have:=E8 w i;omega);have aD:=P5 w i;unfold Bv at aD;generalize w.ai.getD i []=B at *;cases bG:w.up.getD i false with
  | false=>
   rw[bG]at hg aD;rw[Bool.false_and,if_neg (by decide),List.append_nil]at aD;simp -implicitDefEqProofs only[go_sem,ah,hg,hw,hx,dw,eD,bW,fg,eC];refine⟨_,by omega,i+1,ab,rfl,?_⟩;rw[aD];try rfl
  | true=>
   rw[bG]at hg aD;rw[Bool.true_and]at aD;by_cases hB:0<B.length
   ·have yg:(B.length:Int)>0:=by omega
    rw[if_pos (decide_eq_true hB)]at aD;simp -implicitDefEqProofs only[go_sem,ah,hg,hw,hx,dw,lT,xV,ga,dX,yg,gv,eD,bW,fg,eC];refine⟨_,by omega,i+1,ab,rfl,?_⟩;rw[aD];simp only[gj,jN];try rfl
   have yg:¬((B.length:Int)>0):=by omega
   rw[if_neg (by rw[decide_eq_false hB];decide),List.append_nil]at aD;simp -implicitDefEqProofs only[go_sem,ah,hg,hw,hx,dw,lT,xV,ga,dX,yg,eD,bW,fg,eC];refine⟨_,by omega,i+1,ab,rfl,?_⟩;rw[aD];try rfl
 have hi:i=w.up.length:=by omega
 subst hi;have ah:¬((w.up.length:Int)<(w.up.length:Int)):=by omega
 rw[E9];exact dp ah hx
theorem VP (w:ae) (h:w.wf):aY Tryz.prog 134 (gJ w) [vA w 1000000] (.ro 1 ((gP w).map jN)) (gJ w):=by
 refine aF Ul false Tryz.f134 ?_;conv=>enter[1];reduce
 refine bI Tryz.f134 33 [.tmp 2] (by kernel_rfl) (by decide +kernel) rfl ?_;have hx:=h.hx;have hs:=ea h.so;have fR:=h.nw;have jV:=h.nc;have jW:=h.nb;have om:=h.nu;have dX:w.bx.length=w.ai.length:=dh w;have hm:w.ai.length<=maxLen:=by unfold maxLen;omega
 refine aA hx ?_;refine dq (fun m s=>∃(i:Nat),i<=w.ai.length/\m=w.ai.length - i/\s=⟨33,[(1,.ptr 1 0 [] 35 0 0),(3,.aw 3 0 [] 1 0 (pz w i).length),(4,vI i)],w.rows 1000000 1++[(1,0,one ⟨35,[w.cells 1000000 1],0,false⟩),(3,0,one ⟨1,(pz w i).map jN,2,false⟩)],1⟩) w.ai.length ?_ ?_
 ·refine aA hx ?_;exact⟨0,aR _,rfl,rfl⟩
 rintro m s ⟨i,hi,rfl,rfl⟩;rcases bp i w.ai.length with ab|bM
 ·have ah:(i:Int)<(w.ai.length:Int):=by omega
  have ot:i<w.up.length:=by omega
  have rC:(i:Int)<(w.up.length:Int):=by omega
  have hg:w.up[i]?=some (w.up.getD i false):=by rw[List.getD_eq_getElem?_getD,bm ot];rfl
  have ga:w.bx[i]?=some ((w.ai.getD i []).map aC.cs):=by unfold ae.bx;rw[List.getElem?_map,List.getD_eq_getElem?_getD,bm ab];rfl
  have hw:=dx ab hm;have gv:=JR (pz w i) (by have:=E8 w i;omega);have aD:=P5 w i;unfold Bv at aD;generalize w.ai.getD i []=B at *;cases bG:w.up.getD i false with
  | false=>
   rw[bG]at hg aD;rw[Bool.false_and,if_neg (by decide),List.append_nil]at aD;simp -implicitDefEqProofs only[go_sem,ah,rC,hg,hw,hx,dw,eD,bW,fg,eC];refine⟨_,by omega,i+1,ab,rfl,?_⟩;rw[aD];try rfl
  | true=>
   rw[bG]at hg aD;rw[Bool.true_and]at aD;by_cases hB:0<B.length
   ·have yg:(B.length:Int)>0:=by omega
    rw[if_pos (decide_eq_true hB)]at aD;simp -implicitDefEqProofs only[go_sem,ah,rC,hg,hw,hx,dw,ab,ga,dX,yg,gv,eD,bW,fg,eC];refine⟨_,by omega,i+1,ab,rfl,?_⟩;rw[aD];simp only[gj,jN];try rfl
   have yg:¬((B.length:Int)>0):=by omega
   rw[if_neg (by rw[decide_eq_false hB];decide),List.append_nil]at aD;simp -implicitDefEqProofs only[go_sem,ah,rC,hg,hw,hx,dw,ab,ga,dX,yg,eD,bW,fg,eC];refine⟨_,by omega,i+1,ab,rfl,?_⟩;rw[aD];try rfl
 have hi:i=w.ai.length:=by omega
 subst hi;have ah:¬((w.ai.length:Int)<(w.ai.length:Int)):=by omega
 rw[show pz w w.ai.length=gP w from by rw[<-E9,jW,om]];exact dp ah hx
end
section
def ae0:cc:=⟨[(106,.cm [true]),(110,.cm [false,false])],cw,cz,false⟩
attribute [-go_sem] ei
theorem T7 {w:ae}(k:Int) (h:w.aO=[]):ju w k=w:=by
 unfold ju;rw[h];rfl
theorem ahk (w:ae) (b:List aC):ae.bx {w with aO:=b}=w.bx:=rfl
attribute [go_sem] ahk
theorem V1 (w:ae) (t:Nat) (B:List aC) (x:aC):w.bx.set t (B.map aC.cs++[x.cs])=ae.bx {w with ai:=w.ai.set t (B++[x])}:=by
 have:B.map aC.cs++[x.cs]=(B++[x]).map aC.cs:=by rw[List.map_append];rfl
 rw[this];unfold ae.bx;rw[List.map_set]
theorem VU (w:ae) (k:Int) (h:w.wf):aY Tryz.prog 109 (eL w) [eI,vI k] (.aZ []) (iA (ju w k)):=by
 refine aF ae0 false Tryz.f109 ?_;conv=>enter[1];reduce
 refine rl Tryz.f109 76 [] (by kernel_rfl) (by decide +kernel) rfl rfl ?_;have hx:=h.hx;have hs:=ea h.so;have fR:=h.nw;have jV:=h.nc;have jW:=h.nb;have om:=h.nu;have dX:w.bx.length=w.ai.length:=dh w;by_cases lk:w.aO=[]
 ·have hz:=NV (lk▸h.oD) k;rw[T7 k lk];rw[<-lk]at hz;refine aA hx ?_;refine eW hz hx ?_;refine dO.intro (aB.refl _) ?_;exact eE hx
 have jU:0<w.aO.length:=List.length_pos_iff.2 lk;have Cy:=tV k jU;have nI:w.aO[eP k w.aO.length]?=some w.aO[eP k w.aO.length]:=bm Cy;have gT:=h.bg _ (List.getElem_mem Cy);have yc:=VT h.oD k nI;have hv:=h.aO (b:=w.aO.eraseIdx (eP k w.aO.length)) (List.length_eraseIdx_le _ _) (fun y hy=>List.mem_of_mem_eraseIdx hy);have oz:=h.yn k;unfold ju at oz ⊢;rw[nI]at oz ⊢;simp only at oz ⊢;generalize w.aO[eP k w.aO.length]=x at *;have gZ:=t6 hv.so hv.dM hv.last;generalize w.aO.eraseIdx (eP k w.aO.length)=b at *;have Ce:=(xy gT).2.1;have ja:x.iB=((x.iB.toNat:Nat):Int):=by omega
 have cq:=dQ x.iB 0 ((w.aj.length+w.cls.length+1:Nat):Int);generalize ht:x.iB.toNat=t at *;by_cases c1:t<w.ai.length
 ·have ot:t<w.up.length:=by omega
  have d6:(t:Int)<(w.ai.length:Int):=by omega
  have rC:(t:Int)<(w.up.length:Int):=by omega
  have hg:w.up[t]?=some (w.up.getD t false):=by rw[List.getD_eq_getElem?_getD,bm ot];rfl
  have ga:w.bx[t]?=some ((w.ai.getD t []).map aC.cs):=by unfold ae.bx;rw[List.getElem?_map,List.getD_eq_getElem?_getD,bm c1];rfl
  have pU:=(h.bx _ (je (l:=w.ai) (i:=t) (d:=[]) c1)).1;rw[ja,cr.2 (by omega)]at cq;have ud:=V1 {w with aO:=b} t (w.ai.getD t []) x;have ud:w.bx.set t ((w.ai.getD t []).map aC.cs++[x.cs])=ae.bx {w with ai:=w.ai.set t (w.ai.getD t []++[x]),aO:=b}:=ud;generalize w.ai.getD t []=B at *;generalize w.up.getD t false=u at *;have gv:=tZ B (by omega);by_cases c2:u=true/\(B.length:Int)<w.set.inbox
  ·rw[if_pos ⟨c1,c2.1,c2.2⟩]at oz ⊢;obtain⟨c2,c3⟩:=c2;subst c2;have dY:(w.ai.set t (B++[x])).length=w.ai.length:=List.length_set;have aW:=oz.hx;simp only[aC.cs,ja]at ud;refine aA hx ?_;refine eK yc hx ja ?_;refine eK gZ hx ja ?_;refine aq.intro cq ?_;simp -implicitDefEqProofs only[go_sem,hx,ja,ot,rC,hg,dw,c1,d6,ga,dX,c3,gv,eD,bW,fg,eC];refine dO.step (aB.oU [0] _) ?_;refine au ?_;refine dO.step (aB.tO _ 1000004) ?_;refine aA hx ?_;refine dO.step (aB.Tz (B:=900100) (i:=t) (L:=B.map aC.cs++[[vI x.from_,vI t,vS x.text]]) (by decide) rfl rfl (by rw[dX];exact c1) (.cC (d:=73) (gd:=_) (by decide) rfl (by simp)) rfl (by repeat' first|exact trivial|refine And.intro (.inl rfl) ?_|refine And.intro (.inr ⟨_,rfl,rfl⟩) ?_)) ?_;refine aA ud ?_;refine dO.intro (aB.refl _) ?_;exact AT aW
  rw[if_neg (fun hh=>c2 ⟨hh.2.1,hh.2.2⟩)]at oz ⊢;refine aA hx ?_;refine eK yc hx ja ?_;refine eK gZ hx ja ?_;refine aq.intro cq ?_;cases u with
  | false=>
   simp -implicitDefEqProofs only[go_sem,hx,ja,ot,rC,hg,dw,eD,bW,fg,eC];refine dO.intro (aB.refl _) ?_;exact eE hx
  | true=>
   have c3:¬((B.length:Int)<w.set.inbox):=fun hh=>c2 ⟨rfl,hh⟩
   simp -implicitDefEqProofs only[go_sem,hx,ja,ot,rC,hg,dw,c1,d6,ga,dX,c3,eD,bW,fg,eC];refine dO.intro (aB.refl _) ?_;exact eE hx
 rw[if_neg (fun hh=>c1 hh.1)]at oz ⊢;rw[ja,nX (by omega)]at cq;refine aA hx ?_;refine eK yc hx ja ?_;refine eK gZ hx ja ?_;refine aq.intro cq ?_;refine Ej hx ?_;refine dO.intro (aB.refl _) ?_;exact eE hx
end
section
def aeZ:cc:=⟨[(132,.cm [false,false])],cw,cz,false⟩
attribute [-go_sem] ei
theorem VR (w:ae) (k:Int) (h:w.wf):aY Tryz.prog 131 (gJ w) [vA w 1000000,vI k] (vA (ju w k) 0) (eX (ju w k)):=by
 refine aF aeZ false Tryz.f131 ?_;conv=>enter[1];reduce
 refine rl Tryz.f131 69 [.cell 4 64] (by kernel_rfl) (by decide +kernel) rfl rfl ?_;have hx:=h.hx;have hs:=ea h.so;have fR:=h.nw;have jV:=h.nc;have jW:=h.nb;have om:=h.nu;have dX:w.bx.length=w.ai.length:=dh w;by_cases lk:w.aO=[]
 ·have hz:=NU (lk▸h.oD) k;rw[T7 k lk];rw[<-lk]at hz;refine aA hx ?_;refine aE.intro hz ?_;refine Ej hx ?_;refine dO.intro (aB.refl _) ?_;exact eE hx
 have jU:0<w.aO.length:=List.length_pos_iff.2 lk;have Cy:=tV k jU;have nI:w.aO[eP k w.aO.length]?=some w.aO[eP k w.aO.length]:=bm Cy;have gT:=h.bg _ (List.getElem_mem Cy);have yc:=VQ h.oD k nI;have oz:=h.yn k;unfold ju at oz ⊢;rw[nI]at oz ⊢;simp only at oz ⊢;generalize w.aO[eP k w.aO.length]=x at *;generalize w.aO.eraseIdx (eP k w.aO.length)=b at *;have Ce:=(xy gT).2.1;have ja:x.iB=((x.iB.toNat:Nat):Int):=by omega
 generalize ht:x.iB.toNat=t at *;by_cases c1:t<w.ai.length
 ·have ot:t<w.up.length:=by omega
  have d6:(t:Int)<(w.ai.length:Int):=by omega
  have Dy:¬((t:Int)>=(w.ai.length:Int)):=by omega
  have rC:(t:Int)<(w.up.length:Int):=by omega
  have hg:w.up[t]?=some (w.up.getD t false):=by rw[List.getD_eq_getElem?_getD,bm ot];rfl
  have ga:w.bx[t]?=some ((w.ai.getD t []).map aC.cs):=by unfold ae.bx;rw[List.getElem?_map,List.getD_eq_getElem?_getD,bm c1];rfl
  have pU:=(h.bx _ (je (l:=w.ai) (i:=t) (d:=[]) c1)).1;have ud:=V1 {w with aO:=b} t (w.ai.getD t []) x;have ud:w.bx.set t ((w.ai.getD t []).map aC.cs++[x.cs])=ae.bx {w with ai:=w.ai.set t (w.ai.getD t []++[x]),aO:=b}:=ud;generalize w.ai.getD t []=B at *;generalize w.up.getD t false=u at *;have gv:=tZ B (by omega);by_cases c2:u=true/\(B.length:Int)<w.set.inbox
  ·rw[if_pos ⟨c1,c2.1,c2.2⟩]at oz ⊢;obtain⟨c2,c3⟩:=c2;subst c2;have dY:(w.ai.set t (B++[x])).length=w.ai.length:=List.length_set;have aW:=oz.hx;have c3n:¬((B.length:Int)>=w.set.inbox):=by omega
   simp only[aC.cs,ja]at ud;refine aA hx ?_;refine aE.intro yc ?_;simp -implicitDefEqProofs only[go_sem,hx,ja,ot,rC,hg,dw,c1,d6,Dy,ga,dX,c3n,gv,eD,bW,fg,eC];refine dO.step (aB.oU [4] _) ?_;refine au ?_;refine dO.step (aB.tO _ 1000003) ?_;refine aA hx ?_;refine dO.step (aB.Tz (B:=900100) (i:=t) (L:=B.map aC.cs++[[vI x.from_,vI t,vS x.text]]) (by decide) rfl rfl (by rw[dX];exact c1) (.cC (d:=65) (gd:=_) (by decide) rfl (by simp)) rfl (by repeat' first|exact trivial|refine And.intro (.inl rfl) ?_|refine And.intro (.inr ⟨_,rfl,rfl⟩) ?_)) ?_;refine aA ud ?_;refine dO.intro (aB.refl _) ?_;exact AT aW
  rw[if_neg (fun hh=>c2 ⟨hh.2.1,hh.2.2⟩)]at oz ⊢;refine aA hx ?_;refine aE.intro yc ?_;cases u with
  | false=>
   simp -implicitDefEqProofs only[go_sem,hx,ja,ot,rC,hg,dw,Dy,eD,bW,fg,eC];refine dO.intro (aB.refl _) ?_;exact eE hx
  | true=>
   have c3:(B.length:Int)>=w.set.inbox:=by
    rcases Int.lt_or_le (B.length:Int) w.set.inbox with hh|hh
    ·exact absurd ⟨rfl,hh⟩ c2
    exact hh
   simp -implicitDefEqProofs only[go_sem,hx,ja,ot,rC,hg,dw,c1,d6,Dy,ga,dX,c3,eD,bW,fg,eC];refine dO.intro (aB.refl _) ?_;exact eE hx
 rw[if_neg (fun hh=>c1 hh.1)]at oz ⊢;have Dy:(t:Int)>=(w.ai.length:Int):=by omega
 refine aA hx ?_;refine aE.intro yc ?_;simp -implicitDefEqProofs only[go_sem,hx,ja,Dy,eD,bW,fg,eC];refine dO.intro (aB.refl _) ?_;exact eE hx
end
end Go.Proofs.YtobpfkgabdeefaaGreat.E
