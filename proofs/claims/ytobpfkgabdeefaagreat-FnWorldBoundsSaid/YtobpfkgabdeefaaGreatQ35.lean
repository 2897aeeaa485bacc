/- Contracts: a node hears the first letter of its box, in the reference; Contracts: nodes made fresh; Contracts: nodes fall -/
import Derived.Test.YtobpfkgabdeefaaGreatQ34
namespace Go.Proofs.YtobpfkgabdeefaaGreat.E
open Go Go.RowKit
set_option maxHeartbeats 4000000
set_option maxRecDepth 10000
set_option linter.unusedSimpArgs false
set_option linter.unusedVariables false
set_option linter.unusedSectionVars false
section
def Hn:cc:=⟨[(181,.cm [true,false]),(183,.cm [true,false]),(184,.cm [false,false,false]),(185,.cm [true,false,false]),(186,.cm [true,false,false]),(187,.cm [true,false,false]),(188,.cm [true,false,false]),(189,.cm [false,false,false]),(190,.cm [true,false,false]),(191,.cm [false,false,false])],cw,cz,false⟩
attribute [-go_sem] ei
theorem YV (w v:ae) (n:Nat) (x:aC) (l:List aC) (h:w.ai[n]?=some (x::l)) (dY:l.length<=1000) (hv:v.wf) (gT:df x=true) (e:{w with ai:=w.ai.set n l}=v) (h0:n=0) (iW:0<w.ai.length):
  aY Tryz.prog 135 (gJ w) [vA w 1000000,vI n] (vA (fA v n x) 0) (eX (fA v n x)):=by
 refine aF Hn false Tryz.f135 ?_;conv=>enter[1];reduce
 refine bI Tryz.f135 103 [.cell 4 64] (by kernel_rfl) (by decide +kernel) rfl ?_;have hx:=dR (bs:=w.bx) (by rw[dh];exact iW);have hf:=DA w n x l h dY;rw[e]at hf;have c8:=hv.hx;have pK:=(gB hv.lg).1;have vz:=VD v.log x (by unfold maxLen;omega);subst h0;have z:(((0:Nat):Int)==0)=true:=rfl;unfold fA;rw[if_pos rfl];refine aA hx ?_;refine eK hf c8 z ?_;refine aq.intro vz ?_;cases hk:(i7 v.log x).2 with
 | true=>
  have iU:=F3 hk;have hs:=Dz v [(i7 v.log x).1] hv (fun y hy=>by rw[List.mem_singleton.1 hy];exact iU) (by show 1<=1000;omega);have oe:=hv.Bh iU;have es:fP v [(i7 v.log x).1]=lK v (i7 v.log x).1:=rfl;rw[es]at hs;rw[if_pos rfl];generalize i7 v.log x=A at *;generalize lK v A.1=u at *;have fB:=oe.hx;refine b8 hk c8 ?_;refine aE.intro hs ?_;exact dp c8 fB
 | false=>
  rw[if_neg (by decide)];generalize i7 v.log x=A at *;exact dp hk c8
theorem YU (w v:ae) (n:Nat) (x:aC) (l:List aC) (h:w.ai[n]?=some (x::l)) (dY:l.length<=1000) (hv:v.wf) (gT:df x=true) (e:{w with ai:=w.ai.set n l}=v) (hn:n=v.aj.length+v.cls.length+1) (iW:0<w.ai.length) (fU:v.book.length<=3700000000):
  aY Tryz.prog 135 (gJ w) [vA w 1000000,vI n] (vA (fA v n x) 0) (eX (fA v n x)):=by
 refine aF Hn false Tryz.f135 ?_;conv=>enter[1];reduce
 refine bI Tryz.f135 103 [.cell 4 64] (by kernel_rfl) (by decide +kernel) rfl ?_;have hx:=dR (bs:=w.bx) (by rw[dh];exact iW);have hf:=DA w n x l h dY;rw[e]at hf;have c8:=hv.hx;have hs:=ea hv.so;have fR:=hv.nw;have jV:=hv.nc;have kr:aS n 1 20=true:=cr.2 (by omega);have hm:=j7.of hv.mn;have hq:=(BT hv.mn gT kr);have mU:=(ra hv.mn).1;have xS:=X3 v.cS n x (by have:=mU.a;unfold maxLen;omega) (by have:=(gB mU.l).1;unfold maxLen;omega);have xH:=Vz v n (jr v.cS n x) hv hn (j7.mk' hq.1.ok) hq.2 (Rf hv.mn gT kr) (by omega);have hu:(fA v n x).wf:=hv.CM (by omega) gT;unfold fA at hu ⊢;rw[if_neg (by omega),if_neg (by omega),if_neg (by omega)]at hu ⊢;have z:((n:Int)==0)=false:=by rw[beq_eq_false_iff_ne];omega
 have z2:¬((n:Int)<=v.set.many):=by omega
 have z3:IntKind.i64.wrap (v.set.many+v.set.bB)=v.set.many+v.set.bB:=aN (by omega);have z4:¬((n:Int)<=v.set.many+v.set.bB):=by omega
 generalize jr v.cS n x=T at *;generalize oP v n T=u at *;have fB:=hu.hx;refine aA hx ?_;refine aE.intro hf ?_;refine qc c8 z z2 z3 z4 ?_;refine eW xS c8 ?_;refine aE.intro xH ?_;exact dp c8 fB
theorem YW (w v:ae) (n:Nat) (x:aC) (l:List aC) (h:w.ai[n]?=some (x::l)) (dY:l.length<=1000) (hv:v.wf) (gT:df x=true) (e:{w with ai:=w.ai.set n l}=v) (hn:v.aj.length<n/\n<=v.aj.length+v.cls.length) (iW:0<w.ai.length) (fU:v.book.length<=3700000000):
  aY Tryz.prog 135 (gJ w) [vA w 1000000,vI n] (vA (fA v n x) 0) (eX (fA v n x)):=by
 refine aF Hn false Tryz.f135 ?_;conv=>enter[1];reduce
 refine bI Tryz.f135 103 [.cell 4 64] (by kernel_rfl) (by decide +kernel) rfl ?_;have hx:=dR (bs:=w.bx) (by rw[dh];exact iW);have hf:=DA w n x l h dY;rw[e]at hf;have c8:=hv.hx;have hs:=ea hv.so;have fR:=hv.nw;have jV:=hv.nc;have kr:aS n 1 20=true:=cr.2 (by omega);have hk:n - v.aj.length - 1<v.cls.length:=by omega
 have hg:v.cls[n - v.aj.length - 1]?=some (v.cls.getD (n - v.aj.length - 1) (dW v.set)):=by rw[List.getD_eq_getElem?_getD,bm hk];rfl
 have hc:=hv.cl _ (je (l:=v.cls) (i:=n - v.aj.length - 1) (d:=dW v.set) hk);have hu:(fA v n x).wf:=hv.CM (by omega) gT;unfold fA at hu ⊢;rw[if_neg (by omega),if_neg (by omega),if_pos (by omega)]at hu ⊢;have z:((n:Int)==0)=false:=by rw[beq_eq_false_iff_ne];omega
 have z2:¬((n:Int)<=v.set.many):=by omega
 have z3:IntKind.i64.wrap (v.set.many+v.set.bB)=v.set.many+v.set.bB:=aN (by omega);have z4:(n:Int)<=v.set.many+v.set.bB:=by omega
 have z5:IntKind.i64.wrap ((n:Int) - v.set.many)=(n:Int) - v.set.many:=aN (by omega);have z6:IntKind.i64.wrap ((n:Int) - v.set.many - 1)=((n - v.aj.length - 1:Nat):Int):=by rw[aN (by omega)];omega
 generalize v.cls.getD (n - v.aj.length - 1) (dW v.set)=c at *;have ho:jc c n x=true:=by unfold jc;rw[hc,gT,kr];rfl
 have q:=xA ho;have lV:=(rT hc).2;have mX:=X4 c n x (by unfold maxLen;omega);have ja:=VB v n (jH c n x) hv hn q.ok (Ga hc q (by omega)) (Lg ho) (by omega);generalize jH c n x=T at *;generalize oQ v n T=u at *;generalize nH:n - v.aj.length - 1=k at *;have bV:(k:Int)<(v.cls.length:Int):=by omega
 have fB:=hu.hx;refine aA hx ?_;refine aE.intro hf ?_;simp -implicitDefEqProofs only[go_sem,c8,z,z2,z3,z4,z5,z6,hk,bV,hg,bw.rc];refine eW mX c8 ?_;refine aE.intro ja ?_;exact dp c8 fB
theorem YT (w v:ae) (n:Nat) (x:aC) (l:List aC) (h:w.ai[n]?=some (x::l)) (dY:l.length<=1000) (hv:v.wf) (gT:df x=true) (e:{w with ai:=w.ai.set n l}=v) (hn:1<=n/\n<=v.aj.length) (iW:0<w.ai.length) (fU:v.book.length<=3700000000):
  aY Tryz.prog 135 (gJ w) [vA w 1000000,vI n] (vA (fA v n x) 0) (eX (fA v n x)):=by
 refine aF Hn false Tryz.f135 ?_;conv=>enter[1];reduce
 refine bI Tryz.f135 103 [.cell 4 64] (by kernel_rfl) (by decide +kernel) rfl ?_;have hx:=dR (bs:=w.bx) (by rw[dh];exact iW);have hf:=DA w n x l h dY;rw[e]at hf;have c8:=hv.hx;have hs:=ea hv.so;have fR:=hv.nw;have jV:=hv.nc;have kr:aS n 1 20=true:=cr.2 (by omega);have hk:n - 1<v.aj.length:=by omega
 have hg:v.aj[n - 1]?=some (v.aj.getD (n - 1) cJ):=by rw[List.getD_eq_getElem?_getD,bm hk];rfl
 obtain⟨w1,w2,w3⟩:=hv.wt _ (je (l:=v.aj) (i:=n - 1) (d:=cJ) hk);unfold fA;rw[if_neg (by omega),if_pos (by omega)];have z:((n:Int)==0)=false:=by rw[beq_eq_false_iff_ne];omega
 have z2:IntKind.i64.wrap ((n:Int) - 1)=((n - 1:Nat):Int):=by rw[aN (by omega)];omega
 have z3:(n:Int)<=v.set.many:=by omega
 generalize v.aj.getD (n - 1) cJ=y at *;have ir:=tH w2;have mX:=Ox y n x w1 (by unfold maxLen;omega) w3;have hm:=uR (me:=(n:Int)) (l:=x) w1 w3;have ht:=(Iy (me:=(n:Int)) (l:=x) w2 gT kr w3).1;have hl:=Iz (w:=y) (me:=(n:Int)) (l:=x) (by omega);generalize fX y n x=T at *;unfold B3;have k1:=hv.qf (i:=n - 1) (x:=⟨T.aH,T.aQ⟩) ⟨hm.d,ht.ok,hm.x w3⟩;have aD:=sh v.aj (n - 1) T.aH T.aQ;generalize n - 1=k at *;have bV:(k:Int)<(v.aj.length:Int):=by omega
 have KZ:=yX T.kept;have dY:=hm.l;have CR:=hm.a;have c1:=VC {v with aj:=v.aj.set k ⟨T.aH,T.aQ⟩} n T.kept.toList (by show v.book.length<=3900000000;omega) k1.dM (by omega) (vl hm);have b1:=(wo {v with aj:=v.aj.set k ⟨T.aH,T.aQ⟩} n T.kept.toList (vl hm)).len;have b1:(fC {v with aj:=v.aj.set k ⟨T.aH,T.aQ⟩} n T.kept.toList).book.length<=v.book.length+T.kept.toList.length:=b1;have k2:=Sf k1 n T.kept.toList;generalize fC {v with aj:=v.aj.set k ⟨T.aH,T.aQ⟩} n T.kept.toList=u at *;have c2:=agG u n T.bR (by omega) k2.dM (by omega) hl;have k3:=WE k2 n T.bR;have b2:=(DI u n T.bR).len;have c3:=Dz (iE u n T.bR) T.bR k3 hl (by omega);have b3:=(rY (iE u n T.bR) T.bR).len;have k4:=k3.send hl;have c4:=MV (fP (iE u n T.bR) T.bR) n T.dN (by omega) k4.dM (by omega);have k5:=Wy k4 n T.dN;generalize hA:iE u n T.bR=A at *;generalize fP A T.bR=S at *;generalize il S n T.dN=Z at *;have fB:=k2.hx;have Cg:=k3.hx;have Cf:=k4.hx;have ry:=k5.hx;simp only[cX.cs,List.cons_append,List.nil_append]at aD;refine aA hx ?_;refine aE.intro hf ?_;simp -implicitDefEqProofs only[go_sem,c8,z,z2,z3,hk,bV,hg,bz.rc];refine And.intro ?_ ?_;all_goals
  refine aE.intro mX ?_;simp -implicitDefEqProofs only[go_sem,c8,z2,hk,bV,hg,bz.rc,aD];refine aE.intro (res:=vA u 0) (σout:=eX u) (by simp -implicitDefEqProofs only[go_sem,List.length_set]at c1 ⊢;exact c1) ?_;refine aA fB ?_;refine eK c2 fB Cg ?_;refine eK c3 Cg Cf ?_;refine aE.intro c4 ?_;exact dp Cf ry
theorem VO (w:ae) (n:Nat) (x:aC) (l:List aC) (hw:w.wf) (h:w.ai[n]?=some (x::l)) (fU:w.book.length<=3700000000):aY Tryz.prog 135 (gJ w) [vA w 1000000,vI n] (vA (js w n) 0) (eX (js w n)):=by
 have hf:=hw.first n;have dY:l.length<=1000:=by
  have h1:=(hw.bx _ (dk h)).1;have h2:=(ea hw.so).2.2.2.2.2;rw[List.length_cons]at h1;omega
 unfold js;rw[De h]at hf ⊢;have hn:=(List.getElem?_eq_some_iff.1 h).1;have jW:=hw.nb;simp only at hf ⊢;have kI:ae.aj {w with ai:=w.ai.set n l}=w.aj:=rfl;have mo:ae.cls {w with ai:=w.ai.set n l}=w.cls:=rfl;have ou:ae.book {w with ai:=w.ai.set n l}=w.book:=rfl;generalize he:({w with ai:=w.ai.set n l}:ae)=v at *;by_cases c0:n=0
 ·exact YV w v n x l h dY hf.1 hf.2 he c0 hw.dM
 by_cases c1:n<=v.aj.length
 ·exact YT w v n x l h dY hf.1 hf.2 he (by omega) hw.dM (by rw[ou];exact fU)
 by_cases c2:n<=v.aj.length+v.cls.length
 ·exact YW w v n x l h dY hf.1 hf.2 he (by omega) hw.dM (by rw[ou];exact fU)
 exact YU w v n x l h dY hf.1 hf.2 he (by rw[kI,mo]at *;omega) hw.dM (by rw[ou];exact fU)
end
section
def Un:cc:=⟨[(105,.cm [true,false]),(106,.cm [true]),(107,.cm [true,false])],cw,cz,false⟩
attribute [-go_sem] ei
theorem afu (s:et):ba Tryz.prog 157 [.agg ((dW s).cs .aG)] (vB (dG (dW s))) []:=
 (wi (dW s) (by show 0<=maxLen;exact aR _)).arg fun rd vs h=>Fe (by
  unfold dW bw.cs
  repeat' first
   | exact .nil
   | refine .cons nn ?_
   | refine .cons np ?_) h
theorem ahb (s:et) (h:ij s=true):ba Tryz.prog 104 [vI s.eH,vI s.many] (.aZ [.agg ((dW s).cs (.ro 1 [])),vB true]) []:=by
 refine aF Un false Tryz.f104 ?_;conv=>enter[1];reduce
 refine bu Tryz.f104 15 [.cell 4 54,.tmp 5] (by kernel_rfl) (by decide +kernel) rfl ?_;have hc:=afu s;rw[FI h]at hc;unfold dW at hc ⊢;refine au ?_;refine cT hc ?_;rfl
theorem Hd {w:ae}(h:w.wl) {n:Nat}(hn:n<w.ai.length):n=0\/(1<=n/\n<=w.aj.length)\/(w.aj.length<n/\n<=w.aj.length+w.cls.length)\/n=w.aj.length+w.cls.length+1:=by
 have:=h.nb;omega
theorem UU (w:ae) (n:Nat) (h:w.wl) (hn:n<w.ai.length):aY Tryz.prog 75 (eL w) [eI,vI n] (.aZ []) (eL (eQ w n)):=by
 refine aF Un false Tryz.f75 ?_;conv=>enter[1];reduce
 refine rl Tryz.f75 58 [] (by kernel_rfl) (by decide +kernel) rfl rfl ?_;have hx:=h.hx;have hs:=ea h.so;have fR:=h.nw;have jV:=h.nc;have jW:=h.nb;have zS:=ahb w.set h.so;unfold dW at zS;have dZ:=zC h n;have gZ:=t6 h.so h.dM h.last;have mY:=HO w n h.so (by omega) h.dM;have iH:([ae.cells w 1000001 1]:List (List AV))=[ae.cells w 1000001 1]:=rfl;rcases Hd h hn with h0|h1|h2|h3
 ·have e:eQ w n={w with log:=[]}:=if_pos h0;rw[e];have z:((n:Int)==0)=true:=by rw[beq_iff_eq];omega
  refine aA hx ?_;refine And.intro ?_ ?_;all_goals
   refine aq.intro zS ?_;refine b8 hx z ?_;refine dO.step (aB.tG (r:=1000000) [ae.cells {w with log:=[]} 1000001 1] (by decide) rfl (.cons (by
    simp -implicitDefEqProofs only[go_sem]
    repeat' first
     | exact .nil
     | refine .cons nn ?_
     | refine .cons np ?_) .nil)) ?_
   refine dO.intro (aB.refl _) ?_;refine aA hx ?_
   first|exact True.intro|exact⟨rfl,rfl⟩|rfl
 ·have hk:n - 1<w.aj.length:=by omega
  have hg:w.aj[n - 1]?=some (w.aj.getD (n - 1) cJ):=by rw[List.getD_eq_getElem?_getD,bm hk];rfl
  have e:eQ w n={w with aj:=w.aj.set (n - 1) ⟨(w.aj.getD (n - 1) cJ).aH,[]⟩}:=LN w h1;rw[e];rw[decide_eq_true h1]at dZ;have z:((n:Int)==0)=false:=by rw[beq_eq_false_iff_ne];omega
  have z2:IntKind.i64.wrap ((n:Int) - 1)=((n - 1:Nat):Int):=by rw[aN (by omega)];omega
  generalize w.aj.getD (n - 1) cJ=y at *;have aD:=sh w.aj (n - 1) y.aH [];generalize n - 1=k at *;have bV:(k:Int)<(w.aj.length:Int):=by omega
  refine aA hx ?_;refine And.intro ?_ ?_;all_goals
   refine aq.intro zS ?_;refine b8 hx z ?_;refine aE.intro dZ ?_;simp -implicitDefEqProofs only[go_sem,hx,z2,hk,bV,hg,bz.rc];refine dO.step (aB.tG (r:=1000001) ((w.aj.map bz.rc).set k (y.aH.cs++[.ro 7 []])) (by decide) rfl (hY.set (by
    simp -implicitDefEqProofs only[go_sem]
    repeat' first
     | exact .nil
     | refine .cons nn ?_
     | refine .cons np ?_) _ _)) ?_
   rw[show y.aH.cs++[.ro 7 []]=y.aH.cs++[.ro 7 (List.map bD.cs [])] from rfl,aD];refine dO.intro (aB.refl _) ?_;simp -implicitDefEqProofs only[go_sem,hx,List.length_set]
   first|done|exact⟨rfl,rfl⟩|rfl
 ·have hk:n - w.aj.length - 1<w.cls.length:=by omega
  have e:eQ w n={w with cls:=w.cls.set (n - w.aj.length - 1) (dW w.set)}:=by
   unfold eQ;rw[if_neg (by omega),if_neg (by omega),if_pos h2.2]
  rw[e];rw[decide_eq_false (by omega)]at dZ;rw[cr.2 (by omega),if_pos rfl,show(n:Int) - w.set.many - 1=((n - w.aj.length - 1:Nat):Int) by omega]at mY;have z:((n:Int)==0)=false:=by rw[beq_eq_false_iff_ne];omega
  have z3:((n:Int)==((w.aj.length+w.cls.length+1:Nat):Int))=false:=by rw[beq_eq_false_iff_ne];omega
  have aD:=Hv w.cls (n - w.aj.length - 1) (dW w.set);generalize n - w.aj.length - 1=k at *;have bV:(k:Int)<(w.cls.length:Int):=by omega
  have hg:w.cls[k]?=some w.cls[k]:=bm hk;unfold dW bw.cs at aD;simp only[List.map_nil]at aD;refine aA hx ?_;refine And.intro ?_ ?_;all_goals
   refine aq.intro zS ?_;refine b8 hx z ?_;refine eW dZ hx ?_;refine eK gZ hx z3 ?_;refine aE.intro mY ?_;simp -implicitDefEqProofs only[go_sem,hx,hk,bV,hg,bw.rc];refine dO.intro (aB.refl _) ?_;refine yM hx aD ?_
   first|exact True.intro|exact⟨rfl,rfl⟩|rfl
 have e:eQ w n={w with cS:=qm w.set}:=by
  unfold eQ;rw[if_neg (by omega),if_neg (by omega),if_neg (by omega)]
 rw[e];rw[decide_eq_false (by omega)]at dZ;have z:((n:Int)==0)=false:=by rw[beq_eq_false_iff_ne];omega
 have z3:((n:Int)==((w.aj.length+w.cls.length+1:Nat):Int))=true:=by rw[beq_iff_eq];omega
 refine aA hx ?_;refine And.intro ?_ ?_;all_goals
  refine aq.intro zS ?_;refine b8 hx z ?_;refine eW dZ hx ?_;refine eK gZ hx z3 ?_;refine dO.step (aB.tG (r:=1000000) [ae.cells {w with cS:=qm w.set} 1000001 1] (by decide) rfl (.cons (by
   unfold qm dW;simp -implicitDefEqProofs only[go_sem]
   repeat' first
    | exact .nil
    | refine .cons nn ?_
    | refine .cons np ?_) .nil)) ?_
  refine dO.intro (aB.refl _) ?_;refine aA hx ?_
  first|exact True.intro|exact⟨rfl,rfl⟩|rfl
end
section
def ae2:cc:=⟨[(75,.cm [true,false]),(166,.cm [true,false]),(239,.cm [true,false])],cw,cz,false⟩
attribute [-go_sem] ei
theorem yW (l:List Bool) (i:Nat) (b:Bool):(l.map dw).set i [vB b]=(l.set i b).map dw:=by rw[List.map_set];rfl
theorem MX (w:ae) (n:Nat) (h:w.wl) (hn:n<w.ai.length) (hb:w.book.length<=3900000000):aY Tryz.prog 174 (eL w) [eI,vI n] (.aZ []) (iA (iR w n)):=by
 refine yV [[0]] ae2 false Tryz.f174 ?_;conv=>enter[1];reduce
 refine bI Tryz.f174 24 [] (by kernel_rfl) (by decide +kernel) rfl ?_;have hx:=h.hx;have dX:w.bx.length=w.ai.length:=dh w;have jW:=h.nb;have om:=h.nu;have hu:n<w.up.length:=by omega
 have cU:(n:Int)<(w.up.length:Int):=by omega
 have lR:(n:Int)<(w.ai.length:Int):=by omega
 have hg:w.up[n]?=some w.up[n]:=bm hu;have oX:=yW w.up n false;have ga:w.bx[n]?=some ((w.ai[n]).map aC.cs):=by unfold ae.bx;rw[List.getElem?_map,bm hn];rfl
 have hv:=(h.up n false).box n [];unfold iR;have iW:w.bx.set n []=ae.bx {w with up:=w.up.set n false,ai:=w.ai.set n []}:=by unfold ae.bx;rw[List.map_set];rfl
 have pU:(w.up.set n false).length=w.up.length:=List.length_set;have dY:(w.ai.set n []).length=w.ai.length:=List.length_set;simp -implicitDefEqProofs only[go_sem,hx,hu,cU,hg,hn,lR,ga,dX,dw,oX];refine kM (fun s=>s=⟨24,[(0,eI),(1,vI n)],wS {w with up:=w.up.set n false,ai:=w.ai.set n []} 900000 1,1⟩) ?_ ?_
 ·simp -implicitDefEqProofs only[go_sem,hx,hu,cU,hg,hn,lR,ga,dX,dw,oX];refine bO.step (aB.tO _ 1000004) ?_;refine aA hx ?_;refine bO.step (aB.yj (B:=900100) (i:=n) (L:=[]) (by decide) rfl (by rw[dX];exact hn) (.nil) rfl (by repeat' first|exact trivial|refine And.intro (.inl rfl) ?_|refine And.intro (.inr ⟨_,rfl,rfl⟩) ?_)) ?_;have aW:=hv.hx;refine aA iW ?_;refine bO.intro (aB.b9 [1000000] [0,1] _) ?_;simp -implicitDefEqProofs only[go_sem,aW,pU,dY]
 rintro s rfl;have dA:=UU {w with up:=w.up.set n false,ai:=w.ai.set n []} n hv (by show n<(w.ai.set n []).length;rw[List.length_set];exact hn);have hf:=hv.fresh n;have qE:=M9 {w with up:=w.up.set n false,ai:=w.ai.set n []} n;have qE:(eQ {w with up:=w.up.set n false,ai:=w.ai.set n []} n).book=w.book:=qE;generalize ({w with up:=w.up.set n false,ai:=w.ai.set n []}:ae)=v at *;have aW:=hv.hx;generalize eQ v n=u at *;have eU:=BK u ⟨7,n,0,0,0,.zero,.zero,[]⟩ (by rw[qE];omega) hf.dM rfl;have ow:=hf.rL (qJ u ⟨7,n,0,0,0,.zero,.zero,[]⟩);generalize ik u ⟨7,n,0,0,0,.zero,.zero,[]⟩=z at *;have cD:=hf.hx;have lb:=ow.hx;refine aA aW ?_;refine eK dA aW cD ?_;refine aE.intro eU ?_;exact dp cD lb
end
end Go.Proofs.YtobpfkgabdeefaaGreat.E
