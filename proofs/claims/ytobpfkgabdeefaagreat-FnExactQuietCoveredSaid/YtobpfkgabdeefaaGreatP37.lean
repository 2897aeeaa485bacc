/- Contracts: a witness falls within its raw writes, in the reference; ticks; Contracts: nodes rise -/
import Derived.Test.YtobpfkgabdeefaaGreatP36
namespace Go.Proofs.YtobpfkgabdeefaaGreat.E
open Go Go.RowKit
set_option maxHeartbeats 4000000
set_option maxRecDepth 10000
set_option linter.unusedSimpArgs false
set_option linter.unusedVariables false
set_option linter.unusedSectionVars false
section
def Mo:bX:=⟨[(106,.cm [true]),(107,.cm [true,false]),(168,.cm [true,false]),(170,.cm [true,false,false]),(181,.cm [true,false]),(184,.cm [false,false,false]),(185,.cm [true,false,false]),(188,.cm [true,false,false]),(190,.cm [true,false,false]),(194,.cm [true,false]),(227,.cm [false,false]),(228,.cm [false,false]),(247,.cm [false,false]),(248,.cm [false,false])],[9,10,11],[24,26,30,44,47,50,51,52,57,58,59,62,76,88,138,185,186,187,253,254,297,311],false⟩
attribute [-go_sem] ei
theorem ags (w:ai) (n:Nat) (cut:Int) (x:aB) (l:List aB) (hw:w.wf) (h:w.ak[n]?=some (x::l)) (hn:1≤n∧n≤w.ah.length) (gq:w.book.length≤3700000000):bb Tryz.prog 193 (gm w) [vA w 1000000,vI n,vI cut] (vA (ph w n cut) 0) (eJ (ph w n cut)):=by
 have yb:=hw.first n;rw[Df h]at yb;simp only at yb;have dW:l.length≤1000:=by
  have h1:=(hw.bx _ (dh h)).1;have h2:=(d7 hw.so).2.2.2.2.2;rw[List.length_cons]at h1;omega
 have hf:=DE w n x l h dW;have kx:ai.ah {w with ak:=w.ak.set n l}=w.ah:=rfl;have nS:ai.book {w with ak:=w.ak.set n l}=w.book:=rfl;have Cw:=(List.getElem?_eq_some_iff.1 h).1;have vn:(ai.ak {w with ak:=w.ak.set n l}).length=w.ak.length:=List.length_set;generalize he:({w with ak:=w.ak.set n l}:ai)=v at *;rw[TD h he];obtain⟨hv,iF⟩:=yb;have lY:v.book.length=w.book.length:=by rw[nS]
 refine aA Mo false Tryz.f193 ?_;conv=>enter[1];reduce
 refine bT Tryz.f193 54 [.cell 6 64] (by kernel_rfl) (by decide +kernel) rfl ?_;have hx:=hw.hx;have di:=hv.hx;have hs:=d7 hv.so;have ga:=hv.nw;have jD:=hv.nc;have hk:n - 1<v.ah.length:=by rw[kx];omega
 have hg:v.ah[n - 1]?=some (v.ah.getD (n - 1) cF):=by rw[List.getD_eq_getElem?_getD,bz hk];rfl
 obtain⟨w1,w2,w3⟩:=hv.wt _ (iS (l:=v.ah) (i:=n - 1) (d:=cF) hk);have z2:IntKind.i64.wrap ((n:Int) - 1)=((n - 1:Nat):Int):=by rw[aV (by omega)];omega
 generalize v.ah.getD (n - 1) cF=y at *;have gX:=uI w2;have mK:=OJ y n x w1 (by unfold maxLen;omega) w3;have hm:=uL (me:=(n:Int)) (l:=x) w1 w3;generalize fO y n x=T at *;have xS:=Vw y.aH T.eu cut (by have:=hm.r;unfold maxLen;omega);have aE:=rO v.ah (n - 1) (eX y.aH T.eu cut) y.aS;have k1:=hv.wl.pQ (n - 1) ⟨eX y.aH T.eu cut,y.aS⟩;generalize hkn:n - 1=k at *;have bW:(k:Int)<(v.ah.length:Int):=by omega
 have La:=yY T.kept;have c1:=VA {v with ah:=v.ah.set k ⟨eX y.aH T.eu cut,y.aS⟩} n T.kept.toList (by show v.book.length≤3900000000;rw[nS];omega) k1.dH (by omega) (vd hm);have b1:=(v5 {v with ah:=v.ah.set k ⟨eX y.aH T.eu cut,y.aS⟩} n T.kept.toList (vd hm)).len;have b1:(fi {v with ah:=v.ah.set k ⟨eX y.aH T.eu cut,y.aS⟩} n T.kept.toList).book.length≤v.book.length+T.kept.toList.length:=b1;have f2:=nh {v with ah:=v.ah.set k ⟨eX y.aH T.eu cut,y.aS⟩} n T.kept.toList;have k2:=k1.rl f2;have c2:=M9 _ n k2 (by rw[f2.ak];show n<v.ak.length;rw[vn];exact Cw) (by omega);have c3:=M9 _ n k1 (by show n<v.ak.length;rw[vn];exact Cw) (by show v.book.length≤3900000000;rw[nS];omega);simp only[cS.cs,List.cons_append,List.nil_append]at aE;have k3:(ja (fi {v with ah:=v.ah.set k ⟨eX y.aH T.eu cut,y.aS⟩} n T.kept.toList) n).wl:=((((k2.up n false).box n []).fresh n).rl (qw _ _));have k4:(ja {v with ah:=v.ah.set k ⟨eX y.aH T.eu cut,y.aS⟩} n).wl:=((((k1.up n false).box n []).fresh n).rl (qw _ _));by_cases hc:cut≥(T.eu.length:Int)
 ·rw[if_pos hc];generalize fi {v with ah:=v.ah.set k ⟨eX y.aH T.eu cut,y.aS⟩} n T.kept.toList=u at *;generalize ja u n=Z at *;have fD:=k2.hx;have qY:=k3.hx;refine aC hx ?_;refine aD.intro hf ?_;simp -implicitDefEqProofs only[go_sem,hx,di,z2,hk,bW,hg,bE.rc];refine And.intro ?_ ?_;all_goals
   refine aD.intro mK ?_;simp -implicitDefEqProofs only[go_sem,di,z2,hk,bW,hg,bE.rc];refine aq.intro xS ?_;simp -implicitDefEqProofs only[go_sem,di,z2,hk,bW,hg,bE.rc,aE,hc];refine aD.intro (res:=vA u 0) (σout:=eJ u) (by simp -implicitDefEqProofs only[go_sem,List.length_set]at c1 ⊢;exact c1) ?_;refine aC fD ?_;refine aD.intro c2 ?_;exact dk fD qY
 rw[if_neg hc];generalize ja {v with ah:=v.ah.set k ⟨eX y.aH T.eu cut,y.aS⟩} n=Z at *;have qY:=k4.hx;refine aC hx ?_;refine aD.intro hf ?_;simp -implicitDefEqProofs only[go_sem,hx,di,z2,hk,bW,hg,bE.rc];refine And.intro ?_ ?_;all_goals
  refine aD.intro mK ?_;simp -implicitDefEqProofs only[go_sem,di,z2,hk,bW,hg,bE.rc];refine aq.intro xS ?_;simp -implicitDefEqProofs only[go_sem,di,z2,hk,bW,hg,bE.rc,aE,hc];refine aD.intro (res:=vA Z 0) (σout:=eJ Z) (by simp -implicitDefEqProofs only[go_sem,List.length_set]at c3 ⊢;exact c3) ?_;exact dk di qY
theorem agA (w:ai) (n:Nat) (h:w.wf) (hn:n<w.ak.length) (hb:w.book.length≤3700000000):bb Tryz.prog 172 (eB w) [eA,vI n] (.ba []) (im (jS w n)):=by
 refine aA Mo false Tryz.f172 ?_;conv=>enter[1];reduce
 refine bT Tryz.f172 34 [] (by kernel_rfl) (by decide +kernel) rfl ?_;have hx:=h.hx;have hs:=d7 h.so;have ga:=h.nw;have jD:=h.nc;have lF:=h.nb;have hu:=h.tick (n:=n) (by omega);have fD:=hu.hx;have gK:=tQ h.so h.dH h.last;have mL:=HP w n h.so (by omega) h.dH;rcases G6 h.wl hn with h0|h1|h2|h3
 ·have e:jS w n=w:=by
   unfold jS;rw[if_neg (by omega),if_neg (by omega)]
  rw[e];rw[nG (by omega),if_neg (by decide)]at mL;have z:((n:Int)==((w.ah.length+w.cls.length+1:Nat):Int))=false:=by rw[beq_eq_false_iff_ne];omega
  have z2:¬((-1:Int)≥0):=by decide
  refine aC hx ?_;refine ff gK hx z ?_;refine aD.intro mL ?_;exact dk hx z2
 ·have e:jS w n=w:=by
   unfold jS;rw[if_neg (by omega),if_neg (by omega)]
  rw[e];rw[nG (by omega),if_neg (by decide)]at mL;have z:((n:Int)==((w.ah.length+w.cls.length+1:Nat):Int))=false:=by rw[beq_eq_false_iff_ne];omega
  have z2:¬((-1:Int)≥0):=by decide
  refine aC hx ?_;refine ff gK hx z ?_;refine aD.intro mL ?_;exact dk hx z2
 ·have hk:n - w.ah.length - 1<w.cls.length:=by omega
  rw[cf.2 (by omega),if_pos rfl,show(n:Int) - w.set.many - 1=((n - w.ah.length - 1:Nat):Int) by omega]at mL;have hg:w.cls[n - w.ah.length - 1]?=some (w.cls.getD (n - w.ah.length - 1) (dP w.set)):=by rw[List.getD_eq_getElem?_getD,bz hk];rfl
  have hc:=h.cl _ (iS (l:=w.cls) (i:=n - w.ah.length - 1) (d:=dP w.set) hk);unfold jS at hu fD ⊢;rw[if_neg (by omega),if_pos (by omega)]at hu fD ⊢;have z:((n:Int)==((w.ah.length+w.cls.length+1:Nat):Int))=false:=by rw[beq_eq_false_iff_ne];omega
  generalize w.cls.getD (n - w.ah.length - 1) (dP w.set)=c at *;have lL:=(sX hc).2;have q:=EH (me:=(n:Int)) hc (cf.2 (by omega));have mK:=XS c n (by unfold maxLen;omega);have iO:=VE w n (fP c n) h h2 q.1 q.2.2.2.2 (IX c n) (by omega);generalize fP c n=T at *;generalize pe w n T=u at *;generalize nf:n - w.ah.length - 1=k at *;have bW:(k:Int)<(w.cls.length:Int):=by omega
  have z2:(k:Int)≥0:=by omega
  refine aC hx ?_;refine ff gK hx z ?_;refine aD.intro mL ?_;simp -implicitDefEqProofs only[go_sem,hx,z2,hk,bW,hg,bu.rc];refine il mK hx ?_;refine aD.intro iO ?_;exact dk hx fD
 unfold jS at hu fD ⊢;rw[if_pos h3]at hu fD ⊢;have z:((n:Int)==((w.ah.length+w.cls.length+1:Nat):Int))=true:=by rw[beq_iff_eq];omega
 have oF:=(r8 h.mn).1;have k:=JY (me:=(n:Int)) h.mn (cf.2 (by omega));have xV:=XT w.cD n (by have:=oF.a;unfold maxLen;omega) (by have:=(gI oF.l).1;unfold maxLen;omega);have xL:=VF w n (i7 w.cD n) h h3 k.1 k.2 (Q6 w.cD n) (by omega);generalize i7 w.cD n=T at *;generalize pd w n T=u at *;refine aC hx ?_;refine ff gK hx z ?_;refine il xV hx ?_;refine aD.intro xL ?_;exact dk hx fD
theorem agt (w:ai) (n:Nat) (h:w.wf) (hn:n<w.ak.length) (hb:w.book.length≤3700000000):bb Tryz.prog 192 (gm w) [vA w 1000000,vI n] (vA (jS w n) 0) (eJ (jS w n)):=by
 refine aA Mo false Tryz.f192 ?_;conv=>enter[1];reduce
 refine bT Tryz.f192 48 [.cell 4 64] (by kernel_rfl) (by decide +kernel) rfl ?_;have hx:=h.hx;have hs:=d7 h.so;have ga:=h.nw;have jD:=h.nc;have lF:=h.nb;have hu:=h.tick (n:=n) (by omega);have fD:=hu.hx;have z1:IntKind.i64.wrap (w.set.many+1)=w.set.many+1:=aV (by omega);have z2:IntKind.i64.wrap (w.set.many+w.set.bB)=w.set.many+w.set.bB:=aV (by omega);have z3:IntKind.i64.wrap (w.set.many+w.set.bB+1)=w.set.many+w.set.bB+1:=aV (by omega);have i2:=e9 n (w.set.many+1) (w.set.many+w.set.bB);rcases G6 h.wl hn with h0|h1|h2|h3
 ·have e:jS w n=w:=by
   unfold jS;rw[if_neg (by omega),if_neg (by omega)]
  rw[e];rw[nG (by omega)]at i2;have z4:((n:Int)==w.set.many+w.set.bB+1)=false:=by rw[beq_eq_false_iff_ne];omega
  refine oe hx z1 z2 z3 z4 ?_;refine aq.intro i2 ?_;simp -implicitDefEqProofs only[go_sem,hx,z1,z2,z3,z4]
 ·have e:jS w n=w:=by
   unfold jS;rw[if_neg (by omega),if_neg (by omega)]
  rw[e];rw[nG (by omega)]at i2;have z4:((n:Int)==w.set.many+w.set.bB+1)=false:=by rw[beq_eq_false_iff_ne];omega
  refine oe hx z1 z2 z3 z4 ?_;refine aq.intro i2 ?_;simp -implicitDefEqProofs only[go_sem,hx,z1,z2,z3,z4]
 ·have hk:n - w.ah.length - 1<w.cls.length:=by omega
  rw[cf.2 (by omega)]at i2;have hg:w.cls[n - w.ah.length - 1]?=some (w.cls.getD (n - w.ah.length - 1) (dP w.set)):=by rw[List.getD_eq_getElem?_getD,bz hk];rfl
  have hc:=h.cl _ (iS (l:=w.cls) (i:=n - w.ah.length - 1) (d:=dP w.set) hk);unfold jS at hu fD ⊢;rw[if_neg (by omega),if_pos (by omega)]at hu fD ⊢;have z5:IntKind.i64.wrap ((n:Int) - w.set.many)=(n:Int) - w.set.many:=aV (by omega);have z6:IntKind.i64.wrap ((n:Int) - w.set.many - 1)=((n - w.ah.length - 1:Nat):Int):=by rw[aV (by omega)];omega
  generalize w.cls.getD (n - w.ah.length - 1) (dP w.set)=c at *;have lL:=(sX hc).2;have q:=EH (me:=(n:Int)) hc (cf.2 (by omega));have mK:=XR c n (by unfold maxLen;omega);have iO:=Vz w n (fP c n) h h2 q.1 q.2.2.2.2 (IX c n) (by omega);generalize fP c n=T at *;generalize pe w n T=u at *;generalize nf:n - w.ah.length - 1=k at *;have bW:(k:Int)<(w.cls.length:Int):=by omega
  refine eI hx z1 z2 z3 ?_;refine aq.intro i2 ?_;simp -implicitDefEqProofs only[go_sem,hx,z1,z2,z3,z5,z6,hk,bW,hg,bu.rc];refine il mK hx ?_;refine aD.intro iO ?_;exact dk hx fD
 unfold jS at hu fD ⊢;rw[if_pos h3]at hu fD ⊢;rw[nG (by omega)]at i2;have z4:((n:Int)==w.set.many+w.set.bB+1)=true:=by rw[beq_iff_eq];omega
 have oF:=(r8 h.mn).1;have k:=JY (me:=(n:Int)) h.mn (cf.2 (by omega));have xV:=XQ w.cD n (by have:=oF.a;unfold maxLen;omega) (by have:=(gI oF.l).1;unfold maxLen;omega);have xL:=Vx w n (i7 w.cD n) h h3 k.1 k.2 (Q6 w.cD n) (by omega);generalize i7 w.cD n=T at *;generalize pd w n T=u at *;refine eI hx z1 z2 z3 ?_;refine aq.intro i2 ?_;refine oe hx z1 z2 z3 z4 ?_;refine il xV hx ?_;refine aD.intro xL ?_;exact dk hx fD
end
section
def Uc:bX:=⟨[(105,.cm [true,false]),(166,.cm [true,false]),(239,.cm [true,false])],[9,10,11],[24,26,30,44,47,50,51,52,57,58,59,62,76,88,138,185,186,187,253,254,297,311],false⟩
attribute [-go_sem] ei
theorem PF {w:ai}(h:w.wf) {k:Nat}(hk:k<w.ah.length):(ep (w.ah.getD k cF).aH (gw (w.ah.getD k cF).aH)).ok:=by
 have hw:=h.wt _ (iS (l:=w.ah) (i:=k) (d:=cF) hk);rw[Is];exact Ir hw.1 _
theorem agy (w:ai) (n:Nat) (h:w.wf) (hn:n<w.ak.length) (hb:w.book.length≤3700000000):bb Tryz.prog 175 (eB w) [eA,vI n] (.ba []) (im (ov w n)):=by
 refine aA Uc false Tryz.f175 ?_;conv=>enter[1];reduce
 refine bT Tryz.f175 42 [] (by kernel_rfl) (by decide +kernel) rfl ?_;have hx:=h.hx;have hs:=d7 h.so;have ga:=h.nw;have jD:=h.nc;have lF:=h.nb;have oD:=h.nu;have hu:n<w.up.length:=by omega
 have cM:(n:Int)<(w.up.length:Int):=by omega
 have cC:w.up[n]?=some w.up[n]:=bz hu;have oC:=yX w.up n true;have hr:=h.Je n;have bw:=hr.hx;have gX:=h.wl.up n true;have fJ:=gX.hx;have dS:=zM gX n;by_cases h1:1≤n∧n≤w.ah.length
 ·rw[decide_eq_true h1]at dS;unfold ov at hr bw ⊢;rw[if_pos h1]at hr bw ⊢;have hk:n - 1<w.ah.length:=by omega
  have hg:w.ah[n - 1]?=some (w.ah.getD (n - 1) cF):=by rw[List.getD_eq_getElem?_getD,bz hk];rfl
  obtain⟨w1,w2,w3⟩:=h.wt _ (iS (l:=w.ah) (i:=n - 1) (d:=cF) hk);have aF:=PF h hk;have z2:IntKind.i64.wrap ((n:Int) - 1)=((n - 1:Nat):Int):=by rw[aV (by omega)];omega
  generalize w.ah.getD (n - 1) cF=y at *;have sA:=B5 y.aH;have c1:=VB y.aH w1;have c2:=M7 y.aH (gw y.aH) (by unfold maxLen;omega);simp only at hr bw ⊢;generalize gw y.aH=M at *;generalize ep y.aH M=e at *;have c3:=Hw e aF;have aE:=rO w.ah (n - 1) e y.aS;have q5:=gX.pQ (n - 1) ⟨e,y.aS⟩;have eH:=BR {w with up:=w.up.set n true,ah:=w.ah.set (n - 1) ⟨e,y.aS⟩} ⟨6,n,0,0,0,.zero,cH e,[]⟩ (by show w.book.length≤4000000000;omega) h.dH rfl;generalize gT {w with up:=w.up.set n true,ah:=w.ah.set (n - 1) ⟨e,y.aS⟩} ⟨6,n,0,0,0,.zero,cH e,[]⟩=Z at *;generalize cH e=H at *;generalize n - 1=k at *;have bW:(k:Int)<(w.ah.length:Int):=by omega
  simp only[cS.cs,List.cons_append,List.nil_append]at aE;simp -implicitDefEqProofs only[go_sem,hx,hu,cM,cC,dq,oC];refine aD.intro (res:=vB true) (σout:=eB {w with up:=w.up.set n true}) (by simp -implicitDefEqProofs only[go_sem,List.length_set]at dS ⊢;exact dS) ?_;simp -implicitDefEqProofs only[go_sem,hx,fJ,List.length_set,z2,hk,bW,hg,bE.rc];refine aq.intro c1 ?_;simp -implicitDefEqProofs only[go_sem,hx,fJ,List.length_set,z2,hk,bW,hg,bE.rc];refine aq.intro c2 ?_;simp -implicitDefEqProofs only[go_sem,hx,fJ,List.length_set,z2,hk,bW,hg,bE.rc,aE];refine aq.intro c3 ?_;simp -implicitDefEqProofs only[go_sem,hx,fJ,List.length_set,z2,hk,bW,hg,bE.rc,aE];refine aD.intro (res:=.ba []) (σout:=im Z) (by simp -implicitDefEqProofs only[go_sem,List.length_set]at eH ⊢;exact eH) ?_;simp -implicitDefEqProofs only[go_sem,hx,fJ,bw]
 rw[decide_eq_false h1]at dS;unfold ov at hr bw ⊢;rw[if_neg h1]at hr bw ⊢;simp only at hr bw ⊢;simp -implicitDefEqProofs only[go_sem,hx,hu,cM,cC,dq,oC];refine aD.intro (res:=vB false) (σout:=eB {w with up:=w.up.set n true}) (by simp -implicitDefEqProofs only[go_sem,List.length_set]at dS ⊢;exact dS) ?_;simp -implicitDefEqProofs only[go_sem,hx,fJ,List.length_set]
theorem agr (w:ai) (n:Nat) (h:w.wf) (hn:n<w.ak.length) (hb:w.book.length≤3700000000):bb Tryz.prog 195 (gm w) [vA w 1000000,vI n] (vA (ov w n) 0) (eJ (ov w n)):=by
 refine aA Uc false Tryz.f195 ?_;conv=>enter[1];reduce
 refine bT Tryz.f195 46 [.cell 4 64] (by kernel_rfl) (by decide +kernel) rfl ?_;have hx:=h.hx;have hs:=d7 h.so;have ga:=h.nw;have jD:=h.nc;have lF:=h.nb;have oD:=h.nu;have hu:n<w.up.length:=by omega
 have cM:(n:Int)<(w.up.length:Int):=by omega
 have cC:w.up[n]?=some w.up[n]:=bz hu;have oC:=yX w.up n true;have hr:=h.Je n;have bw:=hr.hx;have i1:=e9 n 1 w.set.many;by_cases h1:1≤n∧n≤w.ah.length
 ·rw[cf.2 (by omega)]at i1;unfold ov at hr bw ⊢;rw[if_pos h1]at hr bw ⊢;have hk:n - 1<w.ah.length:=by omega
  have hg:w.ah[n - 1]?=some (w.ah.getD (n - 1) cF):=by rw[List.getD_eq_getElem?_getD,bz hk];rfl
  obtain⟨w1,w2,w3⟩:=h.wt _ (iS (l:=w.ah) (i:=n - 1) (d:=cF) hk);have aF:=PF h hk;have z2:IntKind.i64.wrap ((n:Int) - 1)=((n - 1:Nat):Int):=by rw[aV (by omega)];omega
  generalize w.ah.getD (n - 1) cF=y at *;have sA:=B5 y.aH;have c1:=Vv y.aH w1;have c2:=M0 y.aH (gw y.aH) (by unfold maxLen;omega);simp only at hr bw ⊢;generalize gw y.aH=M at *;generalize ep y.aH M=e at *;have c3:=Dw e aF;have aE:=rO w.ah (n - 1) e y.aS;have eH:=Ce {w with up:=w.up.set n true,ah:=w.ah.set (n - 1) ⟨e,y.aS⟩} ⟨6,n,0,0,0,.zero,cH e,[]⟩ (by show w.book.length≤4000000000;omega) h.dH rfl;generalize gT {w with up:=w.up.set n true,ah:=w.ah.set (n - 1) ⟨e,y.aS⟩} ⟨6,n,0,0,0,.zero,cH e,[]⟩=Z at *;generalize cH e=H at *;generalize n - 1=k at *;have bW:(k:Int)<(w.ah.length:Int):=by omega
  have vh:(w.ah.set k ⟨e,y.aS⟩)[k]?=some ⟨e,y.aS⟩:=List.getElem?_set_self hk;simp only[cS.cs,List.cons_append,List.nil_append]at aE;simp -implicitDefEqProofs only[go_sem,hx,hu,cM,cC,dq,oC];refine aq.intro i1 ?_;simp -implicitDefEqProofs only[go_sem,hx,List.length_set,z2,hk,bW,hg,bE.rc];refine aq.intro c1 ?_;simp -implicitDefEqProofs only[go_sem,hx,List.length_set,z2,hk,bW,hg,bE.rc];refine aq.intro c2 ?_;simp -implicitDefEqProofs only[go_sem,hx,List.length_set,z2,hk,bW,hg,bE.rc,aE,vh];refine aq.intro c3 ?_;simp -implicitDefEqProofs only[go_sem,hx,List.length_set,z2,hk,bW,hg,bE.rc,aE,vh];refine aD.intro (res:=vA Z 0) (σout:=eJ Z) (by simp -implicitDefEqProofs only[go_sem,List.length_set]at eH ⊢;exact eH) ?_;exact dk hx bw
 rw[nG (by omega)]at i1;unfold ov at hr bw ⊢;rw[if_neg h1]at hr bw ⊢;simp only at hr bw ⊢;simp -implicitDefEqProofs only[go_sem,hx,hu,cM,cC,dq,oC];refine aq.intro i1 ?_;refine yN hx bw ?_;rfl
end
end Go.Proofs.YtobpfkgabdeefaaGreat.E
