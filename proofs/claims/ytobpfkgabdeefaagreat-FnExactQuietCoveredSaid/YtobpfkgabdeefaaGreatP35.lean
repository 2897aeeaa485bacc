/- Contracts: a node hears the first letter of its box, in the reference; Contracts: nodes made fresh; Contracts: nodes fall -/
import Derived.Test.YtobpfkgabdeefaaGreatP34
namespace Go.Proofs.YtobpfkgabdeefaaGreat.E
open Go Go.RowKit
set_option maxHeartbeats 4000000
set_option maxRecDepth 10000
set_option linter.unusedSimpArgs false
set_option linter.unusedVariables false
set_option linter.unusedSectionVars false
section
def Hj:bX:=⟨[(181,.cm [true,false]),(183,.cm [true,false]),(184,.cm [false,false,false]),(185,.cm [true,false,false]),(186,.cm [true,false,false]),(187,.cm [true,false,false]),(188,.cm [true,false,false]),(189,.cm [false,false,false]),(190,.cm [true,false,false]),(191,.cm [false,false,false])],[9,10,11],[24,26,30,44,47,50,51,52,57,58,59,62,76,88,138,185,186,187,253,254,297,311],false⟩
attribute [-go_sem] ei
theorem YM (w v:ai) (n:Nat) (x:aB) (l:List aB) (h:w.ak[n]?=some (x::l)) (dW:l.length≤1000) (hv:v.wf) (iF:c8 x=true) (e:{w with ak:=w.ak.set n l}=v) (h0:n=0) (iI:0<w.ak.length):
  bb Tryz.prog 135 (gm w) [vA w 1000000,vI n] (vA (fI v n x) 0) (eJ (fI v n x)):=by
 refine aA Hj false Tryz.f135 ?_;conv=>enter[1];reduce
 refine bT Tryz.f135 103 [.cell 4 64] (by kernel_rfl) (by decide +kernel) rfl ?_;have hx:=dL (bs:=w.bx) (by rw[de];exact iI);have hf:=DE w n x l h dW;rw[e]at hf;have di:=hv.hx;have lI:=(gI hv.lg).1;have Gy:=agx v.log x (by unfold maxLen;omega);subst h0;have z:(((0:Nat):Int)==0)=true:=rfl;unfold fI;rw[if_pos rfl];refine aC hx ?_;refine ff hf di z ?_;refine aq.intro Gy ?_;cases hk:(kg v.log x).2 with
 | true=>
  have jt:=Kp hk;have hs:=DD v [(kg v.log x).1] hv (fun y hy=>by rw[List.mem_singleton.1 hy];exact jt) (by show 1≤1000;omega);have mB:=hv.Bo jt;have es:fG v [(kg v.log x).1]=lq v (kg v.log x).1:=rfl;rw[es]at hs;rw[if_pos rfl];generalize kg v.log x=A at *;generalize lq v A.1=u at *;have fD:=mB.hx;refine cg hk di ?_;refine aD.intro hs ?_;exact dk di fD
 | false=>
  rw[if_neg (by decide)];generalize kg v.log x=A at *;exact dk hk di
theorem YL (w v:ai) (n:Nat) (x:aB) (l:List aB) (h:w.ak[n]?=some (x::l)) (dW:l.length≤1000) (hv:v.wf) (iF:c8 x=true) (e:{w with ak:=w.ak.set n l}=v) (hn:n=v.ah.length+v.cls.length+1) (iI:0<w.ak.length) (gq:v.book.length≤3700000000):
  bb Tryz.prog 135 (gm w) [vA w 1000000,vI n] (vA (fI v n x) 0) (eJ (fI v n x)):=by
 refine aA Hj false Tryz.f135 ?_;conv=>enter[1];reduce
 refine bT Tryz.f135 103 [.cell 4 64] (by kernel_rfl) (by decide +kernel) rfl ?_;have hx:=dL (bs:=w.bx) (by rw[de];exact iI);have hf:=DE w n x l h dW;rw[e]at hf;have di:=hv.hx;have hs:=d7 hv.so;have ga:=hv.nw;have jD:=hv.nc;have jY:aT n 1 20=true:=cf.2 (by omega);have hm:=jK.of hv.mn;have hq:=(B1 hv.mn iF jY);have oF:=(r8 hv.mn).1;have xV:=XU v.cD n x (by have:=oF.a;unfold maxLen;omega) (by have:=(gI oF.l).1;unfold maxLen;omega);have xL:=Vx v n (i9 v.cD n x) hv hn (jK.mk' hq.1.ok) hq.2 (Ra hv.mn iF jY) (by omega);have hu:(fI v n x).wf:=hv.CL (by omega) iF;unfold fI at hu ⊢;rw[if_neg (by omega),if_neg (by omega),if_neg (by omega)]at hu ⊢;have z:((n:Int)==0)=false:=by rw[beq_eq_false_iff_ne];omega
 have z2:¬((n:Int)≤v.set.many):=by omega
 have z3:IntKind.i64.wrap (v.set.many+v.set.bB)=v.set.many+v.set.bB:=aV (by omega);have z4:¬((n:Int)≤v.set.many+v.set.bB):=by omega
 generalize i9 v.cD n x=T at *;generalize pd v n T=u at *;have fD:=hu.hx;refine aC hx ?_;refine aD.intro hf ?_;refine oe di z z2 z3 z4 ?_;refine il xV di ?_;refine aD.intro xL ?_;exact dk di fD
theorem YN (w v:ai) (n:Nat) (x:aB) (l:List aB) (h:w.ak[n]?=some (x::l)) (dW:l.length≤1000) (hv:v.wf) (iF:c8 x=true) (e:{w with ak:=w.ak.set n l}=v) (hn:v.ah.length<n∧n≤v.ah.length+v.cls.length) (iI:0<w.ak.length) (gq:v.book.length≤3700000000):
  bb Tryz.prog 135 (gm w) [vA w 1000000,vI n] (vA (fI v n x) 0) (eJ (fI v n x)):=by
 refine aA Hj false Tryz.f135 ?_;conv=>enter[1];reduce
 refine bT Tryz.f135 103 [.cell 4 64] (by kernel_rfl) (by decide +kernel) rfl ?_;have hx:=dL (bs:=w.bx) (by rw[de];exact iI);have hf:=DE w n x l h dW;rw[e]at hf;have di:=hv.hx;have hs:=d7 hv.so;have ga:=hv.nw;have jD:=hv.nc;have jY:aT n 1 20=true:=cf.2 (by omega);have hk:n - v.ah.length - 1<v.cls.length:=by omega
 have hg:v.cls[n - v.ah.length - 1]?=some (v.cls.getD (n - v.ah.length - 1) (dP v.set)):=by rw[List.getD_eq_getElem?_getD,bz hk];rfl
 have hc:=hv.cl _ (iS (l:=v.cls) (i:=n - v.ah.length - 1) (d:=dP v.set) hk);have hu:(fI v n x).wf:=hv.CL (by omega) iF;unfold fI at hu ⊢;rw[if_neg (by omega),if_neg (by omega),if_pos (by omega)]at hu ⊢;have z:((n:Int)==0)=false:=by rw[beq_eq_false_iff_ne];omega
 have z2:¬((n:Int)≤v.set.many):=by omega
 have z3:IntKind.i64.wrap (v.set.many+v.set.bB)=v.set.many+v.set.bB:=aV (by omega);have z4:(n:Int)≤v.set.many+v.set.bB:=by omega
 have z5:IntKind.i64.wrap ((n:Int) - v.set.many)=(n:Int) - v.set.many:=aV (by omega);have z6:IntKind.i64.wrap ((n:Int) - v.set.many - 1)=((n - v.ah.length - 1:Nat):Int):=by rw[aV (by omega)];omega
 generalize v.cls.getD (n - v.ah.length - 1) (dP v.set)=c at *;have ho:iQ c n x=true:=by unfold iQ;rw[hc,iF,jY];rfl
 have q:=xu ho;have lL:=(sX hc).2;have mK:=XV c n x (by unfold maxLen;omega);have iO:=Vz v n (jo c n x) hv hn q.ok (F8 hc q (by omega)) (Lp ho) (by omega);generalize jo c n x=T at *;generalize pe v n T=u at *;generalize nf:n - v.ah.length - 1=k at *;have bW:(k:Int)<(v.cls.length:Int):=by omega
 have fD:=hu.hx;refine aC hx ?_;refine aD.intro hf ?_;simp -implicitDefEqProofs only[go_sem,di,z,z2,z3,z4,z5,z6,hk,bW,hg,bu.rc];refine il mK di ?_;refine aD.intro iO ?_;exact dk di fD
theorem YK (w v:ai) (n:Nat) (x:aB) (l:List aB) (h:w.ak[n]?=some (x::l)) (dW:l.length≤1000) (hv:v.wf) (iF:c8 x=true) (e:{w with ak:=w.ak.set n l}=v) (hn:1≤n∧n≤v.ah.length) (iI:0<w.ak.length) (gq:v.book.length≤3700000000):
  bb Tryz.prog 135 (gm w) [vA w 1000000,vI n] (vA (fI v n x) 0) (eJ (fI v n x)):=by
 refine aA Hj false Tryz.f135 ?_;conv=>enter[1];reduce
 refine bT Tryz.f135 103 [.cell 4 64] (by kernel_rfl) (by decide +kernel) rfl ?_;have hx:=dL (bs:=w.bx) (by rw[de];exact iI);have hf:=DE w n x l h dW;rw[e]at hf;have di:=hv.hx;have hs:=d7 hv.so;have ga:=hv.nw;have jD:=hv.nc;have jY:aT n 1 20=true:=cf.2 (by omega);have hk:n - 1<v.ah.length:=by omega
 have hg:v.ah[n - 1]?=some (v.ah.getD (n - 1) cF):=by rw[List.getD_eq_getElem?_getD,bz hk];rfl
 obtain⟨w1,w2,w3⟩:=hv.wt _ (iS (l:=v.ah) (i:=n - 1) (d:=cF) hk);unfold fI;rw[if_neg (by omega),if_pos (by omega)];have z:((n:Int)==0)=false:=by rw[beq_eq_false_iff_ne];omega
 have z2:IntKind.i64.wrap ((n:Int) - 1)=((n - 1:Nat):Int):=by rw[aV (by omega)];omega
 have z3:(n:Int)≤v.set.many:=by omega
 generalize v.ah.getD (n - 1) cF=y at *;have gX:=uI w2;have mK:=OJ y n x w1 (by unfold maxLen;omega) w3;have hm:=uL (me:=(n:Int)) (l:=x) w1 w3;have ht:=(IB (me:=(n:Int)) (l:=x) w2 iF jY w3).1;have hl:=IC (w:=y) (me:=(n:Int)) (l:=x) (by omega);generalize fO y n x=T at *;unfold B7;have k1:=hv.pQ (i:=n - 1) (x:=⟨T.aH,T.aS⟩) ⟨hm.d,ht.ok,hm.x w3⟩;have aE:=rO v.ah (n - 1) T.aH T.aS;generalize n - 1=k at *;have bW:(k:Int)<(v.ah.length:Int):=by omega
 have La:=yY T.kept;have dW:=hm.l;have hal:=hm.a;have c1:=VA {v with ah:=v.ah.set k ⟨T.aH,T.aS⟩} n T.kept.toList (by show v.book.length≤3900000000;omega) k1.dH (by omega) (vd hm);have b1:=(v5 {v with ah:=v.ah.set k ⟨T.aH,T.aS⟩} n T.kept.toList (vd hm)).len;have b1:(fi {v with ah:=v.ah.set k ⟨T.aH,T.aS⟩} n T.kept.toList).book.length≤v.book.length+T.kept.toList.length:=b1;have k2:=Sb k1 n T.kept.toList;generalize fi {v with ah:=v.ah.set k ⟨T.aH,T.aS⟩} n T.kept.toList=u at *;have c2:=agv u n T.bM (by omega) k2.dH (by omega) hl;have k3:=Wx k2 n T.bM;have b2:=(DM u n T.bM).len;have c3:=DD (iw u n T.bM) T.bM k3 hl (by omega);have b3:=(rF (iw u n T.bM) T.bM).len;have k4:=k3.send hl;have c4:=Na (fG (iw u n T.bM) T.bM) n T.dI (by omega) k4.dH (by omega);have k5:=Ws k4 n T.dI;generalize hA:iw u n T.bM=A at *;generalize fG A T.bM=S at *;generalize gV S n T.dI=Z at *;have fD:=k2.hx;have Ci:=k3.hx;have Ch:=k4.hx;have qY:=k5.hx;simp only[cS.cs,List.cons_append,List.nil_append]at aE;refine aC hx ?_;refine aD.intro hf ?_;simp -implicitDefEqProofs only[go_sem,di,z,z2,z3,hk,bW,hg,bE.rc];refine And.intro ?_ ?_;all_goals
  refine aD.intro mK ?_;simp -implicitDefEqProofs only[go_sem,di,z2,hk,bW,hg,bE.rc,aE];refine aD.intro (res:=vA u 0) (σout:=eJ u) (by simp -implicitDefEqProofs only[go_sem,List.length_set]at c1 ⊢;exact c1) ?_;refine aC fD ?_;refine ff c2 fD Ci ?_;refine ff c3 Ci Ch ?_;refine aD.intro c4 ?_;exact dk Ch qY
theorem VL (w:ai) (n:Nat) (x:aB) (l:List aB) (hw:w.wf) (h:w.ak[n]?=some (x::l)) (gq:w.book.length≤3700000000):bb Tryz.prog 135 (gm w) [vA w 1000000,vI n] (vA (kh w n) 0) (eJ (kh w n)):=by
 have hf:=hw.first n;have dW:l.length≤1000:=by
  have h1:=(hw.bx _ (dh h)).1;have h2:=(d7 hw.so).2.2.2.2.2;rw[List.length_cons]at h1;omega
 unfold kh;rw[Df h]at hf ⊢;have hn:=(List.getElem?_eq_some_iff.1 h).1;have lF:=hw.nb;simp only at hf ⊢;have kx:ai.ah {w with ak:=w.ak.set n l}=w.ah:=rfl;have na:ai.cls {w with ak:=w.ak.set n l}=w.cls:=rfl;have nS:ai.book {w with ak:=w.ak.set n l}=w.book:=rfl;generalize he:({w with ak:=w.ak.set n l}:ai)=v at *;by_cases c0:n=0
 ·exact YM w v n x l h dW hf.1 hf.2 he c0 hw.dH
 by_cases c1:n≤v.ah.length
 ·exact YK w v n x l h dW hf.1 hf.2 he (by omega) hw.dH (by rw[nS];exact gq)
 by_cases c2:n≤v.ah.length+v.cls.length
 ·exact YN w v n x l h dW hf.1 hf.2 he (by omega) hw.dH (by rw[nS];exact gq)
 exact YL w v n x l h dW hf.1 hf.2 he (by rw[kx,na]at *;omega) hw.dH (by rw[nS];exact gq)
end
section
def Uf:bX:=⟨[(105,.cm [true,false]),(106,.cm [true]),(107,.cm [true,false])],[9,10,11],[24,26,30,44,47,50,51,52,57,58,59,62,76,88,138,185,186,187,253,254,297,311],false⟩
attribute [-go_sem] ei
theorem afb (s:cK):aR Tryz.prog 157 [.agg ((dP s).cs .aG)] (vB (dC (dP s))) []:=
 (vV (dP s) (by show 0≤maxLen;exact aQ _)).arg fun rd vs h=>P3 (by
  unfold dP bu.cs
  repeat' first
   | exact .nil
   | refine .cons mU ?_
   | refine .cons mV ?_) h
theorem agY (s:cK) (h:fv s=true):aR Tryz.prog 104 [vI s.eK,vI s.many] (.ba [.agg ((dP s).cs (.ro 1 [])),vB true]) []:=by
 refine aA Uf false Tryz.f104 ?_;conv=>enter[1];reduce
 refine bf Tryz.f104 15 [.cell 4 54,.tmp 5] (by kernel_rfl) (by decide +kernel) rfl ?_;have hc:=afb s;rw[FH h]at hc;unfold dP at hc ⊢;refine aw ?_;refine cz hc ?_;rfl
theorem G6 {w:ai}(h:w.wl) {n:Nat}(hn:n<w.ak.length):n=0∨(1≤n∧n≤w.ah.length)∨(w.ah.length<n∧n≤w.ah.length+w.cls.length)∨n=w.ah.length+w.cls.length+1:=by
 have:=h.nb;omega
theorem UP (w:ai) (n:Nat) (h:w.wl) (hn:n<w.ak.length):bb Tryz.prog 75 (eB w) [eA,vI n] (.ba []) (eB (eW w n)):=by
 refine aA Uf false Tryz.f75 ?_;conv=>enter[1];reduce
 refine qV Tryz.f75 58 [] (by kernel_rfl) (by decide +kernel) rfl rfl ?_;have hx:=h.hx;have hs:=d7 h.so;have ga:=h.nw;have jD:=h.nc;have lF:=h.nb;have CN:=agY w.set h.so;unfold dP at CN;have dS:=zM h n;have gK:=tQ h.so h.dH h.last;have mL:=HP w n h.so (by omega) h.dH;have hQ:([ai.cells w 1000001 1]:List (List AV))=[ai.cells w 1000001 1]:=rfl;rcases G6 h hn with h0|h1|h2|h3
 ·have e:eW w n={w with log:=[]}:=if_pos h0;rw[e];have z:((n:Int)==0)=true:=by rw[beq_iff_eq];omega
  refine aC hx ?_;refine And.intro ?_ ?_;all_goals
   refine qG CN hx z ?_;refine dK.step (aI.tr (r:=1000000) [ai.cells {w with log:=[]} 1000001 1] (by decide) rfl (.cons (by
    simp -implicitDefEqProofs only[go_sem]
    repeat' first
     | exact .nil
     | refine .cons mU ?_
     | refine .cons mV ?_) .nil)) ?_
   refine dK.intro (aI.refl _) ?_;refine aC hx ?_
   first|exact True.intro|exact⟨rfl,rfl⟩|rfl
 ·have hk:n - 1<w.ah.length:=by omega
  have hg:w.ah[n - 1]?=some (w.ah.getD (n - 1) cF):=by rw[List.getD_eq_getElem?_getD,bz hk];rfl
  have e:eW w n={w with ah:=w.ah.set (n - 1) ⟨(w.ah.getD (n - 1) cF).aH,[]⟩}:=LY w h1;rw[e];rw[decide_eq_true h1]at dS;have z:((n:Int)==0)=false:=by rw[beq_eq_false_iff_ne];omega
  have z2:IntKind.i64.wrap ((n:Int) - 1)=((n - 1:Nat):Int):=by rw[aV (by omega)];omega
  generalize w.ah.getD (n - 1) cF=y at *;have aE:=rO w.ah (n - 1) y.aH [];generalize n - 1=k at *;have bW:(k:Int)<(w.ah.length:Int):=by omega
  refine aC hx ?_;refine And.intro ?_ ?_;all_goals
   refine qG CN hx z ?_;refine aD.intro dS ?_;simp -implicitDefEqProofs only[go_sem,hx,z2,hk,bW,hg,bE.rc];refine dK.step (aI.tr (r:=1000001) ((w.ah.map bE.rc).set k (y.aH.cs++[.ro 7 []])) (by decide) rfl (gM.set (by
    simp -implicitDefEqProofs only[go_sem]
    repeat' first
     | exact .nil
     | refine .cons mU ?_
     | refine .cons mV ?_) _ _)) ?_
   rw[show y.aH.cs++[.ro 7 []]=y.aH.cs++[.ro 7 (List.map bG.cs [])] from rfl,aE];refine dK.intro (aI.refl _) ?_;simp -implicitDefEqProofs only[go_sem,hx,List.length_set]
   first|done|exact⟨rfl,rfl⟩|rfl
 ·have hk:n - w.ah.length - 1<w.cls.length:=by omega
  have e:eW w n={w with cls:=w.cls.set (n - w.ah.length - 1) (dP w.set)}:=by
   unfold eW;rw[if_neg (by omega),if_neg (by omega),if_pos h2.2]
  rw[e];rw[decide_eq_false (by omega)]at dS;rw[cf.2 (by omega),if_pos rfl,show(n:Int) - w.set.many - 1=((n - w.ah.length - 1:Nat):Int) by omega]at mL;have z:((n:Int)==0)=false:=by rw[beq_eq_false_iff_ne];omega
  have z3:((n:Int)==((w.ah.length+w.cls.length+1:Nat):Int))=false:=by rw[beq_eq_false_iff_ne];omega
  have aE:=Hr w.cls (n - w.ah.length - 1) (dP w.set);generalize n - w.ah.length - 1=k at *;have bW:(k:Int)<(w.cls.length:Int):=by omega
  have hg:w.cls[k]?=some w.cls[k]:=bz hk;unfold dP bu.cs at aE;simp only[List.map_nil]at aE;refine aC hx ?_;refine And.intro ?_ ?_;all_goals
   refine qG CN hx z ?_;refine il dS hx ?_;refine ff gK hx z3 ?_;refine aD.intro mL ?_;simp -implicitDefEqProofs only[go_sem,hx,hk,bW,hg,bu.rc];refine dK.intro (aI.refl _) ?_;refine yN hx aE ?_
   first|exact True.intro|exact⟨rfl,rfl⟩|rfl
 have e:eW w n={w with cD:=p6 w.set}:=by
  unfold eW;rw[if_neg (by omega),if_neg (by omega),if_neg (by omega)]
 rw[e];rw[decide_eq_false (by omega)]at dS;have z:((n:Int)==0)=false:=by rw[beq_eq_false_iff_ne];omega
 have z3:((n:Int)==((w.ah.length+w.cls.length+1:Nat):Int))=true:=by rw[beq_iff_eq];omega
 refine aC hx ?_;refine And.intro ?_ ?_;all_goals
  refine qG CN hx z ?_;refine il dS hx ?_;refine ff gK hx z3 ?_;refine dK.step (aI.tr (r:=1000000) [ai.cells {w with cD:=p6 w.set} 1000001 1] (by decide) rfl (.cons (by
   unfold p6 dP;simp -implicitDefEqProofs only[go_sem]
   repeat' first
    | exact .nil
    | refine .cons mU ?_
    | refine .cons mV ?_) .nil)) ?_
  refine dK.intro (aI.refl _) ?_;refine aC hx ?_
  first|exact True.intro|exact⟨rfl,rfl⟩|rfl
end
section
def aeN:bX:=⟨[(75,.cm [true,false]),(166,.cm [true,false]),(239,.cm [true,false])],[9,10,11],[24,26,30,44,47,50,51,52,57,58,59,62,76,88,138,185,186,187,253,254,297,311],false⟩
attribute [-go_sem] ei
theorem yX (l:List Bool) (i:Nat) (b:Bool):(l.map dq).set i [vB b]=(l.set i b).map dq:=by rw[List.map_set];rfl
theorem Nc (w:ai) (n:Nat) (h:w.wl) (hn:n<w.ak.length) (hb:w.book.length≤3900000000):bb Tryz.prog 174 (eB w) [eA,vI n] (.ba []) (im (ja w n)):=by
 refine IM [[0]] aeN false Tryz.f174 ?_;conv=>enter[1];reduce
 refine bT Tryz.f174 24 [] (by kernel_rfl) (by decide +kernel) rfl ?_;have hx:=h.hx;have dR:w.bx.length=w.ak.length:=de w;have lF:=h.nb;have oD:=h.nu;have hu:n<w.up.length:=by omega
 have cM:(n:Int)<(w.up.length:Int):=by omega
 have lG:(n:Int)<(w.ak.length:Int):=by omega
 have hg:w.up[n]?=some w.up[n]:=bz hu;have oC:=yX w.up n false;have gp:w.bx[n]?=some ((w.ak[n]).map aB.cs):=by unfold ai.bx;rw[List.getElem?_map,bz hn];rfl
 have hv:=(h.up n false).box n [];unfold ja;have iI:w.bx.set n []=ai.bx {w with up:=w.up.set n false,ak:=w.ak.set n []}:=by unfold ai.bx;rw[List.map_set];rfl
 have qp:(w.up.set n false).length=w.up.length:=List.length_set;have dW:(w.ak.set n []).length=w.ak.length:=List.length_set;simp -implicitDefEqProofs only[go_sem,hx,hu,cM,hg,hn,lG,gp,dR,dq,oC];refine vH (fun s=>s=⟨24,[(0,eA),(1,vI n)],wS {w with up:=w.up.set n false,ak:=w.ak.set n []} 900000 1,1⟩) ?_ ?_
 ·simp -implicitDefEqProofs only[go_sem,hx,hu,cM,hg,hn,lG,gp,dR,dq,oC];refine cO.step (aI.tA _ 1000004) ?_;refine aC hx ?_;refine cO.step (aI.yo (B:=900100) (i:=n) (L:=[]) (by decide) rfl (by rw[dR];exact hn) (.nil) rfl (by repeat' first|exact trivial|refine And.intro (.inl rfl) ?_|refine And.intro (.inr ⟨_,rfl,rfl⟩) ?_)) ?_;have aX:=hv.hx;refine aC iI ?_;refine cO.intro (aI.dm [1000000] [0,1] _) ?_;simp -implicitDefEqProofs only[go_sem,aX,qp,dW]
 rintro s rfl;have dJ:=UP {w with up:=w.up.set n false,ak:=w.ak.set n []} n hv (by show n<(w.ak.set n []).length;rw[List.length_set];exact hn);have hf:=hv.fresh n;have ye:=Nr {w with up:=w.up.set n false,ak:=w.ak.set n []} n;have ye:(eW {w with up:=w.up.set n false,ak:=w.ak.set n []} n).book=w.book:=ye;generalize ({w with up:=w.up.set n false,ak:=w.ak.set n []}:ai)=v at *;have aX:=hv.hx;generalize eW v n=u at *;have eH:=BR u ⟨7,n,0,0,0,.zero,.zero,[]⟩ (by rw[ye];omega) hf.dH rfl;have nV:=hf.rl (qw u ⟨7,n,0,0,0,.zero,.zero,[]⟩);generalize gT u ⟨7,n,0,0,0,.zero,.zero,[]⟩=z at *;have cr:=hf.hx;have kS:=nV.hx;refine aC aX ?_;refine ff dJ aX cr ?_;refine aD.intro eH ?_;exact dk cr kS
end
end Go.Proofs.YtobpfkgabdeefaaGreat.E
