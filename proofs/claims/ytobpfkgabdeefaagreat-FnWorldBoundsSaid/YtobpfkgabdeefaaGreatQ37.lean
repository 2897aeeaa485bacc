/- Contracts: a witness falls within its raw writes, in the reference; ticks; Contracts: nodes rise -/
import Derived.Test.YtobpfkgabdeefaaGreatQ36
namespace Go.Proofs.YtobpfkgabdeefaaGreat.E
open Go Go.RowKit
set_option maxHeartbeats 4000000
set_option maxRecDepth 10000
set_option linter.unusedSimpArgs false
set_option linter.unusedVariables false
set_option linter.unusedSectionVars false
section
def Mf:cc:=⟨[(106,.cm [true]),(107,.cm [true,false]),(168,.cm [true,false]),(170,.cm [true,false,false]),(181,.cm [true,false]),(184,.cm [false,false,false]),(185,.cm [true,false,false]),(188,.cm [true,false,false]),(190,.cm [true,false,false]),(194,.cm [true,false]),(227,.cm [false,false]),(228,.cm [false,false]),(247,.cm [false,false]),(248,.cm [false,false])],cw,cz,false⟩
attribute [-go_sem] ei
theorem agD (w:ae) (n:Nat) (cut:Int) (x:aC) (l:List aC) (hw:w.wf) (h:w.ai[n]?=some (x::l)) (hn:1<=n/\n<=w.aj.length) (fU:w.book.length<=3700000000):aY Tryz.prog 193 (gJ w) [vA w 1000000,vI n,vI cut] (vA (nA w n cut) 0) (eX (nA w n cut)):=by
 have x9:=hw.first n;rw[De h]at x9;simp only at x9;have dY:l.length<=1000:=by
  have h1:=(hw.bx _ (dk h)).1;have h2:=(ea hw.so).2.2.2.2.2;rw[List.length_cons]at h1;omega
 have hf:=DA w n x l h dY;have kI:ae.aj {w with ai:=w.ai.set n l}=w.aj:=rfl;have ou:ae.book {w with ai:=w.ai.set n l}=w.book:=rfl;have Cx:=(List.getElem?_eq_some_iff.1 h).1;have vC:(ae.ai {w with ai:=w.ai.set n l}).length=w.ai.length:=List.length_set;generalize he:({w with ai:=w.ai.set n l}:ae)=v at *;rw[TL h he];obtain⟨hv,gT⟩:=x9;have lf:v.book.length=w.book.length:=by rw[ou]
 refine aF Mf false Tryz.f193 ?_;conv=>enter[1];reduce
 refine bI Tryz.f193 54 [.cell 6 64] (by kernel_rfl) (by decide +kernel) rfl ?_;have hx:=hw.hx;have c8:=hv.hx;have hs:=ea hv.so;have fR:=hv.nw;have jV:=hv.nc;have hk:n - 1<v.aj.length:=by rw[kI];omega
 have hg:v.aj[n - 1]?=some (v.aj.getD (n - 1) cJ):=by rw[List.getD_eq_getElem?_getD,bm hk];rfl
 obtain⟨w1,w2,w3⟩:=hv.wt _ (je (l:=v.aj) (i:=n - 1) (d:=cJ) hk);have z2:IntKind.i64.wrap ((n:Int) - 1)=((n - 1:Nat):Int):=by rw[aN (by omega)];omega
 generalize v.aj.getD (n - 1) cJ=y at *;have ir:=tH w2;have mX:=Ox y n x w1 (by unfold maxLen;omega) w3;have hm:=uR (me:=(n:Int)) (l:=x) w1 w3;generalize fX y n x=T at *;have xP:=Vy y.aH T.eG cut (by have:=hm.r;unfold maxLen;omega);have aD:=sh v.aj (n - 1) (fu y.aH T.eG cut) y.aQ;have k1:=hv.wl.qf (n - 1) ⟨fu y.aH T.eG cut,y.aQ⟩;generalize hkn:n - 1=k at *;have bV:(k:Int)<(v.aj.length:Int):=by omega
 have KZ:=yX T.kept;have c1:=VC {v with aj:=v.aj.set k ⟨fu y.aH T.eG cut,y.aQ⟩} n T.kept.toList (by show v.book.length<=3900000000;rw[ou];omega) k1.dM (by omega) (vl hm);have b1:=(wo {v with aj:=v.aj.set k ⟨fu y.aH T.eG cut,y.aQ⟩} n T.kept.toList (vl hm)).len;have b1:(fC {v with aj:=v.aj.set k ⟨fu y.aH T.eG cut,y.aQ⟩} n T.kept.toList).book.length<=v.book.length+T.kept.toList.length:=b1;have f2:=kK {v with aj:=v.aj.set k ⟨fu y.aH T.eG cut,y.aQ⟩} n T.kept.toList;have k2:=k1.rL f2;have c2:=MU _ n k2 (by rw[f2.ai];show n<v.ai.length;rw[vC];exact Cx) (by omega);have c3:=MU _ n k1 (by show n<v.ai.length;rw[vC];exact Cx) (by show v.book.length<=3900000000;rw[ou];omega);simp only[cX.cs,List.cons_append,List.nil_append]at aD;have k3:(iR (fC {v with aj:=v.aj.set k ⟨fu y.aH T.eG cut,y.aQ⟩} n T.kept.toList) n).wl:=((((k2.up n false).box n []).fresh n).rL (qJ _ _));have k4:(iR {v with aj:=v.aj.set k ⟨fu y.aH T.eG cut,y.aQ⟩} n).wl:=((((k1.up n false).box n []).fresh n).rL (qJ _ _));by_cases hc:cut>=(T.eG.length:Int)
 ·rw[if_pos hc];generalize fC {v with aj:=v.aj.set k ⟨fu y.aH T.eG cut,y.aQ⟩} n T.kept.toList=u at *;generalize iR u n=Z at *;have fB:=k2.hx;have ry:=k3.hx;refine aA hx ?_;refine aE.intro hf ?_;simp -implicitDefEqProofs only[go_sem,hx,c8,z2,hk,bV,hg,bz.rc];refine And.intro ?_ ?_;all_goals
   refine aE.intro mX ?_;simp -implicitDefEqProofs only[go_sem,c8,z2,hk,bV,hg,bz.rc];refine aq.intro xP ?_;simp -implicitDefEqProofs only[go_sem,c8,z2,hk,bV,hg,bz.rc,aD,hc];refine aE.intro (res:=vA u 0) (σout:=eX u) (by simp -implicitDefEqProofs only[go_sem,List.length_set]at c1 ⊢;exact c1) ?_;refine aA fB ?_;refine aE.intro c2 ?_;exact dp fB ry
 rw[if_neg hc];generalize iR {v with aj:=v.aj.set k ⟨fu y.aH T.eG cut,y.aQ⟩} n=Z at *;have ry:=k4.hx;refine aA hx ?_;refine aE.intro hf ?_;simp -implicitDefEqProofs only[go_sem,hx,c8,z2,hk,bV,hg,bz.rc];refine And.intro ?_ ?_;all_goals
  refine aE.intro mX ?_;simp -implicitDefEqProofs only[go_sem,c8,z2,hk,bV,hg,bz.rc];refine aq.intro xP ?_;simp -implicitDefEqProofs only[go_sem,c8,z2,hk,bV,hg,bz.rc,aD,hc];refine aE.intro (res:=vA Z 0) (σout:=eX Z) (by simp -implicitDefEqProofs only[go_sem,List.length_set]at c3 ⊢;exact c3) ?_;exact dp c8 ry
theorem agL (w:ae) (n:Nat) (h:w.wf) (hn:n<w.ai.length) (hb:w.book.length<=3700000000):aY Tryz.prog 172 (eL w) [eI,vI n] (.aZ []) (iA (i5 w n)):=by
 refine aF Mf false Tryz.f172 ?_;conv=>enter[1];reduce
 refine bI Tryz.f172 34 [] (by kernel_rfl) (by decide +kernel) rfl ?_;have hx:=h.hx;have hs:=ea h.so;have fR:=h.nw;have jV:=h.nc;have jW:=h.nb;have hu:=h.tick (n:=n) (by omega);have fB:=hu.hx;have gZ:=t6 h.so h.dM h.last;have mY:=HO w n h.so (by omega) h.dM;rcases Hd h.wl hn with h0|h1|h2|h3
 ·have e:i5 w n=w:=by
   unfold i5;rw[if_neg (by omega),if_neg (by omega)]
  rw[e];rw[nX (by omega),if_neg (by decide)]at mY;have z:((n:Int)==((w.aj.length+w.cls.length+1:Nat):Int))=false:=by rw[beq_eq_false_iff_ne];omega
  have z2:¬((-1:Int)>=0):=by decide
  refine aA hx ?_;refine eK gZ hx z ?_;refine aE.intro mY ?_;exact dp hx z2
 ·have e:i5 w n=w:=by
   unfold i5;rw[if_neg (by omega),if_neg (by omega)]
  rw[e];rw[nX (by omega),if_neg (by decide)]at mY;have z:((n:Int)==((w.aj.length+w.cls.length+1:Nat):Int))=false:=by rw[beq_eq_false_iff_ne];omega
  have z2:¬((-1:Int)>=0):=by decide
  refine aA hx ?_;refine eK gZ hx z ?_;refine aE.intro mY ?_;exact dp hx z2
 ·have hk:n - w.aj.length - 1<w.cls.length:=by omega
  rw[cr.2 (by omega),if_pos rfl,show(n:Int) - w.set.many - 1=((n - w.aj.length - 1:Nat):Int) by omega]at mY;have hg:w.cls[n - w.aj.length - 1]?=some (w.cls.getD (n - w.aj.length - 1) (dW w.set)):=by rw[List.getD_eq_getElem?_getD,bm hk];rfl
  have hc:=h.cl _ (je (l:=w.cls) (i:=n - w.aj.length - 1) (d:=dW w.set) hk);unfold i5 at hu fB ⊢;rw[if_neg (by omega),if_pos (by omega)]at hu fB ⊢;have z:((n:Int)==((w.aj.length+w.cls.length+1:Nat):Int))=false:=by rw[beq_eq_false_iff_ne];omega
  generalize w.cls.getD (n - w.aj.length - 1) (dW w.set)=c at *;have lV:=(rT hc).2;have q:=EK (me:=(n:Int)) hc (cr.2 (by omega));have mX:=X1 c n (by unfold maxLen;omega);have ja:=VH w n (fY c n) h h2 q.1 q.2.2.2.2 (IP c n) (by omega);generalize fY c n=T at *;generalize oQ w n T=u at *;generalize nH:n - w.aj.length - 1=k at *;have bV:(k:Int)<(w.cls.length:Int):=by omega
  have z2:(k:Int)>=0:=by omega
  refine aA hx ?_;refine eK gZ hx z ?_;refine aE.intro mY ?_;simp -implicitDefEqProofs only[go_sem,hx,z2,hk,bV,hg,bw.rc];refine eW mX hx ?_;refine aE.intro ja ?_;exact dp hx fB
 unfold i5 at hu fB ⊢;rw[if_pos h3]at hu fB ⊢;have z:((n:Int)==((w.aj.length+w.cls.length+1:Nat):Int))=true:=by rw[beq_iff_eq];omega
 have mU:=(ra h.mn).1;have k:=JU (me:=(n:Int)) h.mn (cr.2 (by omega));have xS:=X2 w.cS n (by have:=mU.a;unfold maxLen;omega) (by have:=(gB mU.l).1;unfold maxLen;omega);have xH:=VI w n (jq w.cS n) h h3 k.1 k.2 (Rc w.cS n) (by omega);generalize jq w.cS n=T at *;generalize oP w n T=u at *;refine aA hx ?_;refine eK gZ hx z ?_;refine eW xS hx ?_;refine aE.intro xH ?_;exact dp hx fB
theorem agE (w:ae) (n:Nat) (h:w.wf) (hn:n<w.ai.length) (hb:w.book.length<=3700000000):aY Tryz.prog 192 (gJ w) [vA w 1000000,vI n] (vA (i5 w n) 0) (eX (i5 w n)):=by
 refine aF Mf false Tryz.f192 ?_;conv=>enter[1];reduce
 refine bI Tryz.f192 48 [.cell 4 64] (by kernel_rfl) (by decide +kernel) rfl ?_;have hx:=h.hx;have hs:=ea h.so;have fR:=h.nw;have jV:=h.nc;have jW:=h.nb;have hu:=h.tick (n:=n) (by omega);have fB:=hu.hx;have z1:IntKind.i64.wrap (w.set.many+1)=w.set.many+1:=aN (by omega);have z2:IntKind.i64.wrap (w.set.many+w.set.bB)=w.set.many+w.set.bB:=aN (by omega);have z3:IntKind.i64.wrap (w.set.many+w.set.bB+1)=w.set.many+w.set.bB+1:=aN (by omega);have i2:=fG n (w.set.many+1) (w.set.many+w.set.bB);rcases Hd h.wl hn with h0|h1|h2|h3
 ·have e:i5 w n=w:=by
   unfold i5;rw[if_neg (by omega),if_neg (by omega)]
  rw[e];rw[nX (by omega)]at i2;have z4:((n:Int)==w.set.many+w.set.bB+1)=false:=by rw[beq_eq_false_iff_ne];omega
  refine qc hx z1 z2 z3 z4 ?_;refine aq.intro i2 ?_;simp -implicitDefEqProofs only[go_sem,hx,z1,z2,z3,z4]
 ·have e:i5 w n=w:=by
   unfold i5;rw[if_neg (by omega),if_neg (by omega)]
  rw[e];rw[nX (by omega)]at i2;have z4:((n:Int)==w.set.many+w.set.bB+1)=false:=by rw[beq_eq_false_iff_ne];omega
  refine qc hx z1 z2 z3 z4 ?_;refine aq.intro i2 ?_;simp -implicitDefEqProofs only[go_sem,hx,z1,z2,z3,z4]
 ·have hk:n - w.aj.length - 1<w.cls.length:=by omega
  rw[cr.2 (by omega)]at i2;have hg:w.cls[n - w.aj.length - 1]?=some (w.cls.getD (n - w.aj.length - 1) (dW w.set)):=by rw[List.getD_eq_getElem?_getD,bm hk];rfl
  have hc:=h.cl _ (je (l:=w.cls) (i:=n - w.aj.length - 1) (d:=dW w.set) hk);unfold i5 at hu fB ⊢;rw[if_neg (by omega),if_pos (by omega)]at hu fB ⊢;have z5:IntKind.i64.wrap ((n:Int) - w.set.many)=(n:Int) - w.set.many:=aN (by omega);have z6:IntKind.i64.wrap ((n:Int) - w.set.many - 1)=((n - w.aj.length - 1:Nat):Int):=by rw[aN (by omega)];omega
  generalize w.cls.getD (n - w.aj.length - 1) (dW w.set)=c at *;have lV:=(rT hc).2;have q:=EK (me:=(n:Int)) hc (cr.2 (by omega));have mX:=X0 c n (by unfold maxLen;omega);have ja:=VB w n (fY c n) h h2 q.1 q.2.2.2.2 (IP c n) (by omega);generalize fY c n=T at *;generalize oQ w n T=u at *;generalize nH:n - w.aj.length - 1=k at *;have bV:(k:Int)<(w.cls.length:Int):=by omega
  refine dP hx z1 z2 z3 ?_;refine aq.intro i2 ?_;simp -implicitDefEqProofs only[go_sem,hx,z1,z2,z3,z5,z6,hk,bV,hg,bw.rc];refine eW mX hx ?_;refine aE.intro ja ?_;exact dp hx fB
 unfold i5 at hu fB ⊢;rw[if_pos h3]at hu fB ⊢;rw[nX (by omega)]at i2;have z4:((n:Int)==w.set.many+w.set.bB+1)=true:=by rw[beq_iff_eq];omega
 have mU:=(ra h.mn).1;have k:=JU (me:=(n:Int)) h.mn (cr.2 (by omega));have xS:=XZ w.cS n (by have:=mU.a;unfold maxLen;omega) (by have:=(gB mU.l).1;unfold maxLen;omega);have xH:=Vz w n (jq w.cS n) h h3 k.1 k.2 (Rc w.cS n) (by omega);generalize jq w.cS n=T at *;generalize oP w n T=u at *;refine dP hx z1 z2 z3 ?_;refine aq.intro i2 ?_;refine qc hx z1 z2 z3 z4 ?_;refine eW xS hx ?_;refine aE.intro xH ?_;exact dp hx fB
end
section
def Uk:cc:=⟨[(105,.cm [true,false]),(166,.cm [true,false]),(239,.cm [true,false])],cw,cz,false⟩
attribute [-go_sem] ei
theorem PL {w:ae}(h:w.wf) {k:Nat}(hk:k<w.aj.length):(eB (w.aj.getD k cJ).aH (gQ (w.aj.getD k cJ).aH)).ok:=by
 have hw:=h.wt _ (je (l:=w.aj) (i:=k) (d:=cJ) hk);rw[Ip];exact Io hw.1 _
theorem agJ (w:ae) (n:Nat) (h:w.wf) (hn:n<w.ai.length) (hb:w.book.length<=3700000000):aY Tryz.prog 175 (eL w) [eI,vI n] (.aZ []) (iA (mN w n)):=by
 refine aF Uk false Tryz.f175 ?_;conv=>enter[1];reduce
 refine bI Tryz.f175 42 [] (by kernel_rfl) (by decide +kernel) rfl ?_;have hx:=h.hx;have hs:=ea h.so;have fR:=h.nw;have jV:=h.nc;have jW:=h.nb;have om:=h.nu;have hu:n<w.up.length:=by omega
 have cU:(n:Int)<(w.up.length:Int):=by omega
 have bY:w.up[n]?=some w.up[n]:=bm hu;have oX:=yW w.up n true;have hr:=h.Bn n;have br:=hr.hx;have ir:=h.wl.up n true;have fQ:=ir.hx;have dZ:=zC ir n;by_cases h1:1<=n/\n<=w.aj.length
 ·rw[decide_eq_true h1]at dZ;unfold mN at hr br ⊢;rw[if_pos h1]at hr br ⊢;have hk:n - 1<w.aj.length:=by omega
  have hg:w.aj[n - 1]?=some (w.aj.getD (n - 1) cJ):=by rw[List.getD_eq_getElem?_getD,bm hk];rfl
  obtain⟨w1,w2,w3⟩:=h.wt _ (je (l:=w.aj) (i:=n - 1) (d:=cJ) hk);have aI:=PL h hk;have z2:IntKind.i64.wrap ((n:Int) - 1)=((n - 1:Nat):Int):=by rw[aN (by omega)];omega
  generalize w.aj.getD (n - 1) cJ=y at *;have rB:=BY y.aH;have c1:=VE y.aH w1;have c2:=MS y.aH (gQ y.aH) (by unfold maxLen;omega);simp only at hr br ⊢;generalize gQ y.aH=M at *;generalize eB y.aH M=e at *;have c3:=Mu e aI;have aD:=sh w.aj (n - 1) e y.aQ;have rz:=ir.qf (n - 1) ⟨e,y.aQ⟩;have eU:=BK {w with up:=w.up.set n true,aj:=w.aj.set (n - 1) ⟨e,y.aQ⟩} ⟨6,n,0,0,0,.zero,cO e,[]⟩ (by show w.book.length<=4000000000;omega) h.dM rfl;generalize ik {w with up:=w.up.set n true,aj:=w.aj.set (n - 1) ⟨e,y.aQ⟩} ⟨6,n,0,0,0,.zero,cO e,[]⟩=Z at *;generalize cO e=H at *;generalize n - 1=k at *;have bV:(k:Int)<(w.aj.length:Int):=by omega
  simp only[cX.cs,List.cons_append,List.nil_append]at aD;simp -implicitDefEqProofs only[go_sem,hx,hu,cU,bY,dw,oX];refine aE.intro (res:=vB true) (σout:=eL {w with up:=w.up.set n true}) (by simp -implicitDefEqProofs only[go_sem,List.length_set]at dZ ⊢;exact dZ) ?_;simp -implicitDefEqProofs only[go_sem,hx,fQ,List.length_set,z2,hk,bV,hg,bz.rc];refine aq.intro c1 ?_;simp -implicitDefEqProofs only[go_sem,hx,fQ,List.length_set,z2,hk,bV,hg,bz.rc];refine aq.intro c2 ?_;simp -implicitDefEqProofs only[go_sem,hx,fQ,List.length_set,z2,hk,bV,hg,bz.rc,aD];refine aq.intro c3 ?_;simp -implicitDefEqProofs only[go_sem,hx,fQ,List.length_set,z2,hk,bV,hg,bz.rc,aD];refine aE.intro (res:=.aZ []) (σout:=iA Z) (by simp -implicitDefEqProofs only[go_sem,List.length_set]at eU ⊢;exact eU) ?_;simp -implicitDefEqProofs only[go_sem,hx,fQ,br]
 rw[decide_eq_false h1]at dZ;unfold mN at hr br ⊢;rw[if_neg h1]at hr br ⊢;simp only at hr br ⊢;simp -implicitDefEqProofs only[go_sem,hx,hu,cU,bY,dw,oX];refine aE.intro (res:=vB false) (σout:=eL {w with up:=w.up.set n true}) (by simp -implicitDefEqProofs only[go_sem,List.length_set]at dZ ⊢;exact dZ) ?_;simp -implicitDefEqProofs only[go_sem,hx,fQ,List.length_set]
theorem agC (w:ae) (n:Nat) (h:w.wf) (hn:n<w.ai.length) (hb:w.book.length<=3700000000):aY Tryz.prog 195 (gJ w) [vA w 1000000,vI n] (vA (mN w n) 0) (eX (mN w n)):=by
 refine aF Uk false Tryz.f195 ?_;conv=>enter[1];reduce
 refine bI Tryz.f195 46 [.cell 4 64] (by kernel_rfl) (by decide +kernel) rfl ?_;have hx:=h.hx;have hs:=ea h.so;have fR:=h.nw;have jV:=h.nc;have jW:=h.nb;have om:=h.nu;have hu:n<w.up.length:=by omega
 have cU:(n:Int)<(w.up.length:Int):=by omega
 have bY:w.up[n]?=some w.up[n]:=bm hu;have oX:=yW w.up n true;have hr:=h.Bn n;have br:=hr.hx;have i1:=fG n 1 w.set.many;by_cases h1:1<=n/\n<=w.aj.length
 ·rw[cr.2 (by omega)]at i1;unfold mN at hr br ⊢;rw[if_pos h1]at hr br ⊢;have hk:n - 1<w.aj.length:=by omega
  have hg:w.aj[n - 1]?=some (w.aj.getD (n - 1) cJ):=by rw[List.getD_eq_getElem?_getD,bm hk];rfl
  obtain⟨w1,w2,w3⟩:=h.wt _ (je (l:=w.aj) (i:=n - 1) (d:=cJ) hk);have aI:=PL h hk;have z2:IntKind.i64.wrap ((n:Int) - 1)=((n - 1:Nat):Int):=by rw[aN (by omega)];omega
  generalize w.aj.getD (n - 1) cJ=y at *;have rB:=BY y.aH;have c1:=Vx y.aH w1;have c2:=MN y.aH (gQ y.aH) (by unfold maxLen;omega);simp only at hr br ⊢;generalize gQ y.aH=M at *;generalize eB y.aH M=e at *;have c3:=Hz e aI;have aD:=sh w.aj (n - 1) e y.aQ;have eU:=Ca {w with up:=w.up.set n true,aj:=w.aj.set (n - 1) ⟨e,y.aQ⟩} ⟨6,n,0,0,0,.zero,cO e,[]⟩ (by show w.book.length<=4000000000;omega) h.dM rfl;generalize ik {w with up:=w.up.set n true,aj:=w.aj.set (n - 1) ⟨e,y.aQ⟩} ⟨6,n,0,0,0,.zero,cO e,[]⟩=Z at *;generalize cO e=H at *;generalize n - 1=k at *;have bV:(k:Int)<(w.aj.length:Int):=by omega
  have Gp:(w.aj.set k ⟨e,y.aQ⟩)[k]?=some ⟨e,y.aQ⟩:=List.getElem?_set_self hk;simp only[cX.cs,List.cons_append,List.nil_append]at aD;simp -implicitDefEqProofs only[go_sem,hx,hu,cU,bY,dw,oX];refine aq.intro i1 ?_;simp -implicitDefEqProofs only[go_sem,hx,List.length_set,z2,hk,bV,hg,bz.rc];refine aq.intro c1 ?_;simp -implicitDefEqProofs only[go_sem,hx,List.length_set,z2,hk,bV,hg,bz.rc];refine aq.intro c2 ?_;simp -implicitDefEqProofs only[go_sem,hx,List.length_set,z2,hk,bV,hg,bz.rc,aD,Gp];refine aq.intro c3 ?_;simp -implicitDefEqProofs only[go_sem,hx,List.length_set,z2,hk,bV,hg,bz.rc,aD,Gp];refine aE.intro (res:=vA Z 0) (σout:=eX Z) (by simp -implicitDefEqProofs only[go_sem,List.length_set]at eU ⊢;exact eU) ?_;exact dp hx br
 rw[nX (by omega)]at i1;unfold mN at hr br ⊢;rw[if_neg h1]at hr br ⊢;simp only at hr br ⊢;simp -implicitDefEqProofs only[go_sem,hx,hu,cU,bY,dw,oX];refine aq.intro i1 ?_;refine yM hx br ?_;rfl
end
end Go.Proofs.YtobpfkgabdeefaaGreat.E
