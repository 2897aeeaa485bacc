/- Contracts: a step at a node, in the reference; Contracts: rounds; Contracts: the world stops; Contracts: a step -/
import Derived.Test.YtobpfkgabdeefaaGreatQ38
namespace Go.Proofs.YtobpfkgabdeefaaGreat.E
open Go Go.RowKit
set_option maxHeartbeats 4000000
set_option maxRecDepth 10000
set_option linter.unusedSimpArgs false
set_option linter.unusedVariables false
set_option linter.unusedSectionVars false
section
def aeU:cc:=⟨[(183,.cm [true,false]),(192,.cm [true,false]),(193,.cm [true,false,false]),(194,.cm [true,false]),(195,.cm [true,false])],cw,cz,false⟩
attribute [-go_sem] ei
theorem VN (w:ae) (x:bQ) (n:Nat) (h:w.wf) (qz:x.node=n) (hn:n<w.ai.length) (aI:e9 x=true) (hb:w.book.length<=3700000000):aY Tryz.prog 139 (gJ w) [vA w 1000000,.agg x.bH] (vA (mg w x n) 0) (eX (mg w x n)):=by
 refine aF aeU false Tryz.f139 ?_;conv=>enter[1];reduce
 refine bI Tryz.f139 121 [.cell 4 64] (by kernel_rfl) (by decide +kernel) rfl ?_;have hx:=h.hx;have hs:=ea h.so;have fR:=h.nw;have jV:=h.nc;have jW:=h.nb;have om:=h.nu;have hu:n<w.up.length:=by omega
 have cU:(n:Int)<(w.up.length:Int):=by omega
 have lR:(n:Int)<(w.ai.length:Int):=by omega
 have dX:w.bx.length=w.ai.length:=dh w;have bY:w.up[n]?=some (w.up.getD n false):=by rw[List.getD_eq_getElem?_getD,bm hu];rfl
 have ga:w.bx[n]?=some ((w.ai.getD n []).map aC.cs):=by unfold ae.bx;rw[List.getElem?_map,List.getD_eq_getElem?_getD,bm hn];rfl
 have CH:w.ai[n]?=some (w.ai.getD n []):=by rw[List.getD_eq_getElem?_getD,bm hn];rfl
 have hr:=h.node (n:=n) (by omega) aI;have br:=hr.hx;obtain⟨kd,nd,ar,tx⟩:=x;simp only at qz;subst qz;have dZ:=fG n 1 w.set.many;have xU:kd=2\/kd=7\/kd=8\/kd=9\/kd=10\/kd=11\/(kd≠2/\kd≠7/\kd≠8/\kd≠9/\kd≠10/\kd≠11):=by omega
 unfold mg at hr br ⊢;simp only at hr br ⊢;rcases xU with rfl|rfl|rfl|rfl|rfl|rfl|bJ
 ·have y2:((2:Int)==2)=true:=rfl;have y7:((2:Int)==7)=false:=rfl;have y8:((2:Int)==8)=false:=rfl;have y9:((2:Int)==9)=false:=rfl;have du:((2:Int)==10)=false:=rfl;have dt:((2:Int)==11)=false:=rfl;rcases Bool.eq_false_or_eq_true (w.up.getD n false) with bG|bG
  ·
   rw[bG]at bY;rw[if_pos ⟨rfl,bG⟩]at hr br ⊢;have eo:=agE w n h hn hb;generalize i5 w n=Z at *;refine jh hx hu cU bY bG y2 y7 y8 y9 du dt ?_;refine aq.intro dZ ?_;refine jh hx hu cU bY bG y2 y7 y8 y9 du dt ?_;refine aE.intro eo ?_;exact dp hx br
  
  rw[bG]at bY;rw[if_neg (fun h=>by rw[bG]at h;exact absurd h.2 (by decide)),if_neg (fun h=>absurd h.1 (by decide)),if_neg (fun h=>absurd h.1 (by decide)),if_neg (fun h=>absurd h.1 (by decide)),if_neg (fun h=>absurd h.1 (by decide)),if_neg (by decide)]at hr br ⊢;refine jh hx hu cU bY bG y2 y7 y8 y9 du dt ?_;refine aq.intro dZ ?_;exact tF hx hu cU bY bG y2 y7 y8 y9 du dt br
 ·have y2:((7:Int)==2)=false:=rfl;have y7:((7:Int)==7)=true:=rfl;have y8:((7:Int)==8)=false:=rfl;have y9:((7:Int)==9)=false:=rfl;have du:((7:Int)==10)=false:=rfl;have dt:((7:Int)==11)=false:=rfl;rcases Bool.eq_false_or_eq_true (w.up.getD n false) with bG|bG
  ·
   rw[bG]at bY;by_cases iT:1<=n/\n<=w.aj.length
   ·rw[cr.2 (by omega)]at dZ;rcases F5 (w.ai.getD n []) with hB|⟨y,l,hB⟩
    ·
     rw[hB]at ga;have hz:¬(((0:Nat):Int)>0):=by decide
     rw[if_neg (fun h=>absurd h.1 (by decide)),if_neg (fun h=>by rw[hB]at h;exact absurd h.2.2.2 (by decide)),if_neg (fun h=>absurd h.1 (by decide)),if_neg (fun h=>absurd h.1 (by decide)),if_neg (fun h=>absurd h.1 (by decide)),if_neg (by decide)]at hr br ⊢;refine jh hx hu cU bY bG y2 y7 y8 y9 du dt ?_;refine aq.intro dZ ?_;simp -implicitDefEqProofs only[go_sem,hx,hu,cU,bY,bG,dw,y2,y7,y8,y9,du,dt,bb,hn,lR,ga,dX,hz,br]
    
    rw[hB]at ga CH;have hz:((l.length+1:Nat):Int)>0:=by omega
    rw[if_neg (fun h=>absurd h.1 (by decide)),if_pos ⟨rfl,bG,iT,by rw[hB];exact Nat.succ_pos _⟩]at hr br ⊢;have eo:=agD w n ar y l h CH iT hb;generalize nA w n ar=Z at *;refine jh hx hu cU bY bG y2 y7 y8 y9 du dt ?_;refine aq.intro dZ ?_;simp -implicitDefEqProofs only[go_sem,hx,hu,cU,bY,bG,dw,y2,y7,y8,y9,du,dt,bb,hn,lR,ga,dX,hz];refine aE.intro eo ?_;exact dp hx br
   rw[nX (by omega)]at dZ;rw[if_neg (fun h=>absurd h.1 (by decide)),if_neg (fun h=>iT h.2.2.1),if_neg (fun h=>absurd h.1 (by decide)),if_neg (fun h=>absurd h.1 (by decide)),if_neg (fun h=>absurd h.1 (by decide)),if_neg (by decide)]at hr br ⊢;refine jh hx hu cU bY bG y2 y7 y8 y9 du dt ?_;refine aq.intro dZ ?_;exact tF hx hu cU bY bG y2 y7 y8 y9 du dt br
  
  rw[bG]at bY;rw[if_neg (fun h=>absurd h.1 (by decide)),if_neg (fun h=>by rw[bG]at h;exact absurd h.2.1 (by decide)),if_neg (fun h=>absurd h.1 (by decide)),if_neg (fun h=>absurd h.1 (by decide)),if_neg (fun h=>absurd h.1 (by decide)),if_neg (by decide)]at hr br ⊢;refine jh hx hu cU bY bG y2 y7 y8 y9 du dt ?_;refine aq.intro dZ ?_;exact tF hx hu cU bY bG y2 y7 y8 y9 du dt br
 ·have y2:((8:Int)==2)=false:=rfl;have y7:((8:Int)==7)=false:=rfl;have y8:((8:Int)==8)=true:=rfl;have y9:((8:Int)==9)=false:=rfl;have du:((8:Int)==10)=false:=rfl;have dt:((8:Int)==11)=false:=rfl;rcases Bool.eq_false_or_eq_true (w.up.getD n false) with bG|bG
  ·
   rw[bG]at bY;rw[if_neg (fun h=>absurd h.1 (by decide)),if_neg (fun h=>absurd h.1 (by decide)),if_pos ⟨rfl,bG⟩]at hr br ⊢;have eo:=MU w n h.wl hn (by omega);generalize iR w n=Z at *;refine jh hx hu cU bY bG y2 y7 y8 y9 du dt ?_;refine aq.intro dZ ?_;refine jh hx hu cU bY bG y2 y7 y8 y9 du dt ?_;refine aE.intro eo ?_;exact dp hx br
  
  rw[bG]at bY;rw[if_neg (fun h=>absurd h.1 (by decide)),if_neg (fun h=>absurd h.1 (by decide)),if_neg (fun h=>by rw[bG]at h;exact absurd h.2 (by decide)),if_neg (fun h=>absurd h.1 (by decide)),if_neg (fun h=>absurd h.1 (by decide)),if_neg (by decide)]at hr br ⊢;refine jh hx hu cU bY bG y2 y7 y8 y9 du dt ?_;refine aq.intro dZ ?_;exact tF hx hu cU bY bG y2 y7 y8 y9 du dt br
 ·have y2:((9:Int)==2)=false:=rfl;have y7:((9:Int)==7)=false:=rfl;have y8:((9:Int)==8)=false:=rfl;have y9:((9:Int)==9)=true:=rfl;have du:((9:Int)==10)=false:=rfl;have dt:((9:Int)==11)=false:=rfl;rcases Bool.eq_false_or_eq_true (w.up.getD n false) with bG|bG
  ·
   rw[bG]at bY;rw[if_neg (fun h=>absurd h.1 (by decide)),if_neg (fun h=>absurd h.1 (by decide)),if_neg (fun h=>absurd h.1 (by decide)),if_neg (fun h=>by rw[bG]at h;exact absurd h.2 (by decide)),if_neg (fun h=>absurd h.1 (by decide)),if_neg (by decide)]at hr br ⊢;refine jh hx hu cU bY bG y2 y7 y8 y9 du dt ?_;refine aq.intro dZ ?_;exact tF hx hu cU bY bG y2 y7 y8 y9 du dt br
  
  rw[bG]at bY;rw[if_neg (fun h=>absurd h.1 (by decide)),if_neg (fun h=>absurd h.1 (by decide)),if_neg (fun h=>absurd h.1 (by decide)),if_pos ⟨rfl,bG⟩]at hr br ⊢;have eo:=agC w n h hn hb;generalize mN w n=Z at *;refine jh hx hu cU bY bG y2 y7 y8 y9 du dt ?_;refine aq.intro dZ ?_;refine jh hx hu cU bY bG y2 y7 y8 y9 du dt ?_;refine aE.intro eo ?_;exact dp hx br
 ·have y2:((10:Int)==2)=false:=rfl;have y7:((10:Int)==7)=false:=rfl;have y8:((10:Int)==8)=false:=rfl;have y9:((10:Int)==9)=false:=rfl;have du:((10:Int)==10)=true:=rfl;have dt:((10:Int)==11)=false:=rfl;rcases Bool.eq_false_or_eq_true (w.up.getD n false) with bG|bG
  ·
   rw[bG]at bY;rw[if_neg (fun h=>absurd h.1 (by decide)),if_neg (fun h=>absurd h.1 (by decide)),if_neg (fun h=>absurd h.1 (by decide)),if_neg (fun h=>absurd h.1 (by decide)),if_neg (fun h=>by rw[bG]at h;exact absurd h.2.1 (by decide)),if_neg (by decide)]at hr br ⊢;refine jh hx hu cU bY bG y2 y7 y8 y9 du dt ?_;refine aq.intro dZ ?_;exact tF hx hu cU bY bG y2 y7 y8 y9 du dt br
  
  rw[bG]at bY;by_cases iT:1<=n/\n<=w.aj.length
  ·rw[cr.2 (by omega)]at dZ;rw[if_neg (fun h=>absurd h.1 (by decide)),if_neg (fun h=>absurd h.1 (by decide)),if_neg (fun h=>absurd h.1 (by decide)),if_neg (fun h=>absurd h.1 (by decide)),if_pos ⟨rfl,bG,iT⟩]at hr br ⊢;have hk:n - 1<w.aj.length:=by omega
   have hg:w.aj[n - 1]?=some (w.aj.getD (n - 1) cJ):=by rw[List.getD_eq_getElem?_getD,bm hk];rfl
   obtain⟨w1,w2,w3⟩:=h.wt _ (je (l:=w.aj) (i:=n - 1) (d:=cJ) hk);have z2:IntKind.i64.wrap ((n:Int) - 1)=((n - 1:Nat):Int):=by rw[aN (by omega)];omega
   generalize w.aj.getD (n - 1) cJ=y at *;have rB:=BY y.aH;have c1:=Vx y.aH w1;have c2:=Vy y.aH (gQ y.aH) ar (by unfold maxLen;omega);generalize gQ y.aH=M at *;generalize fu y.aH M ar=e at *;have aD:=sh w.aj (n - 1) e y.aQ;generalize n - 1=k at *;have bV:(k:Int)<(w.aj.length:Int):=by omega
   simp only[cX.cs,List.cons_append,List.nil_append]at aD;refine jh hx hu cU bY bG y2 y7 y8 y9 du dt ?_;refine aq.intro dZ ?_;simp -implicitDefEqProofs only[go_sem,hx,hu,cU,bY,bG,dw,y2,y7,y8,y9,du,dt,bb,z2,hk,bV,hg,bz.rc];refine aq.intro c1 ?_;simp -implicitDefEqProofs only[go_sem,hx,hu,cU,bY,bG,dw,y2,y7,y8,y9,du,dt,bb,z2,hk,bV,hg,bz.rc];refine aq.intro c2 ?_;simp -implicitDefEqProofs only[go_sem,hx,hu,cU,bY,bG,dw,y2,y7,y8,y9,du,dt,bb,z2,hk,bV,hg,bz.rc,aD,br,List.length_set]
   first|done|rfl
  rw[nX (by omega)]at dZ;rw[if_neg (fun h=>absurd h.1 (by decide)),if_neg (fun h=>absurd h.1 (by decide)),if_neg (fun h=>absurd h.1 (by decide)),if_neg (fun h=>absurd h.1 (by decide)),if_neg (fun h=>iT h.2.2),if_neg (by decide)]at hr br ⊢;refine jh hx hu cU bY bG y2 y7 y8 y9 du dt ?_;refine aq.intro dZ ?_;exact tF hx hu cU bY bG y2 y7 y8 y9 du dt br
 ·have y2:((11:Int)==2)=false:=rfl;have y7:((11:Int)==7)=false:=rfl;have y8:((11:Int)==8)=false:=rfl;have y9:((11:Int)==9)=false:=rfl;have du:((11:Int)==10)=false:=rfl;have dt:((11:Int)==11)=true:=rfl;rw[if_neg (fun h=>absurd h.1 (by decide)),if_neg (fun h=>absurd h.1 (by decide)),if_neg (fun h=>absurd h.1 (by decide)),if_neg (fun h=>absurd h.1 (by decide)),if_neg (fun h=>absurd h.1 (by decide)),if_pos rfl]at hr br ⊢;have iU:df ⟨0,n,tx⟩=true:=by
   simp only[e9,Bool.and_eq_true,decide_eq_true_eq,cr]at aI;simp only[df,Bool.and_eq_true,decide_eq_true_eq,cr];refine⟨by omega,by omega,?_⟩;have:=aI.2.2;omega
  have fE:=Dz w [⟨0,n,tx⟩] h (fun y hy=>by rw[List.mem_singleton.1 hy];exact iU) (by show 1<=1000;omega);rw[show fP w [⟨0,n,tx⟩]=lK w ⟨0,n,tx⟩ from rfl]at fE;generalize lK w ⟨0,n,tx⟩=Z at *;have bG:w.up.getD n false=w.up.getD n false:=rfl;simp -implicitDefEqProofs only[go_sem,hx,hu,cU,bY,dw,y2,y7,y8,y9,du,dt,bb];refine aq.intro dZ ?_;simp -implicitDefEqProofs only[go_sem,hx,hu,cU,bY,dw,y2,y7,y8,y9,du,dt,bb];refine aE.intro fE ?_;exact dp hx br
 obtain⟨n2,n7,n8,n9,BS,BR⟩:=bJ;have y2:(kd==2)=false:=beq_eq_false_iff_ne.2 n2;have y7:(kd==7)=false:=beq_eq_false_iff_ne.2 n7;have y8:(kd==8)=false:=beq_eq_false_iff_ne.2 n8;have y9:(kd==9)=false:=beq_eq_false_iff_ne.2 n9;have du:(kd==10)=false:=beq_eq_false_iff_ne.2 BS;have dt:(kd==11)=false:=beq_eq_false_iff_ne.2 BR;rw[if_neg (fun h=>n2 h.1),if_neg (fun h=>n7 h.1),if_neg (fun h=>n8 h.1),if_neg (fun h=>n9 h.1),if_neg (fun h=>BS h.1),if_neg BR]at hr br ⊢;simp -implicitDefEqProofs only[go_sem,hx,hu,cU,bY,dw,y2,y7,y8,y9,du,dt,bb];refine aq.intro dZ ?_;exact uJ hx hu cU bY y2 y7 y8 y9 du dt br
end
section
def Uj:cc:=⟨[(109,.cm [true,false]),(112,.cm [true]),(113,.cm [true,false]),(131,.cm [true,false]),(134,.cm [true]),(135,.cm [true,false])],cw,cz,false⟩
attribute [-go_sem] ei
theorem fh.step {I:Nat->St->Prop}{m:Nat}{s s':St}(h:aB s s') (k:fh I m s'):fh I m s:=by
 obtain⟨m',h1,h2⟩:=k;exact⟨m',h1,bO.step h h2⟩
theorem L9:∀(n:Nat) (w:ae),iS (n+1) w=ju (iS n w) 0
 | 0,w=>rfl
 | n+1,w=>L9 n (ju w 0)
theorem SV {w:ae}(h:gP w=[]) (n:Nat):jt n w=w:=by
 cases n with
 | zero=>rfl
 | succ n=>unfold jt;rw[h]
theorem SW {w:ae}{i:Nat}{l:List Nat}(h:gP w=i::l):jt (jO w) w=jt (jO (js w i)) (js w i):=by
 have ht:=IK (w:=w) (i:=i) (by rw[h];exact List.mem_cons_self ..);rw[<-ht];simp only[jt,h]
theorem T9 (n:Nat) (w:ae):(iS n w).book.length=w.book.length:=by rw[Nb]
theorem PT {w:ae}{i:Nat}{l:List Nat}(h:gP w=i::l):∃x b,w.ai[i]?=some (x::b):=(E4 (w:=w) (i:=i) (by rw[h];exact List.mem_cons_self ..)).2.2
theorem ag6 (w:ae) (h:w.wf) (hb:w.book.length<=3600000000):aY Tryz.prog 115 (eL w) [eI] (.aZ []) (iA (pD w)):=by
 refine aF Uj false Tryz.f115 ?_;conv=>enter[1];reduce
 refine bI Tryz.f115 28 [] (by kernel_rfl) (by decide +kernel) rfl ?_;have hx:=h.hx;have hs:=ea h.so;have pU:=h.bl;have SA:=h.rm;have hm:w.aO.length<=maxLen:=by unfold maxLen;omega
 refine aA hx ?_;refine im (fun m s=>∃(i:Nat),i<=w.aO.length/\m=w.aO.length - i/\s=⟨28,[(0,eI),(2,vI ((w.aO.length - i:Nat):Int))],wS (iS i w) 900000 1,1⟩) w.aO.length (bO.intro (aB.b9 [1000000] [0,2] _) ?_) ?_
 ·refine aA hx ?_;exact⟨0,aR _,rfl,rfl⟩
 rintro m s ⟨i,hi,rfl,rfl⟩;have hv:=h.pY i;rcases bp i w.aO.length with ab|bM
 ·have ah:((w.aO.length - i:Nat):Int)>0:=by omega
  have hw:IntKind.i64.wrap (((w.aO.length - i:Nat):Int) - 1)=((w.aO.length - (i+1):Nat):Int):=by rw[aN (by omega)];omega
  have hd:=VU (iS i w) 0 hv;rw[<-L9]at hd;have dH:=h.pY (i+1);generalize hU:iS (i+1) w=u at *;generalize iS i w=v at *;have aW:=hv.hx;have cD:=dH.hx;refine b8 ah aW ?_;refine ji hd hw aW cD ?_;refine fh.intro (w.aO.length - (i+1)) (by omega) (aB.b9 [1000000] [0,2] _) ?_;refine aA cD ?_;refine⟨i+1,ab,rfl,?_⟩;subst hU;rfl
 have hi:i=w.aO.length:=by omega
 subst hi;have ah:¬(((w.aO.length - w.aO.length:Nat):Int)>0):=by omega
 have hT:pD w=jt (jO (iS w.aO.length w)) (iS w.aO.length w):=rfl;have fU:=T9 w.aO.length w;rw[hT];generalize iS w.aO.length w=v0 at *;have aW:=hv.hx;have htt:=hv.IL;refine b8 ah aW ?_;refine eW (M4 v0 hv) aW ?_;generalize hR:jt (jO v0) v0=R;refine im (fun m s=>∃(v:ae),v.wf/\jt (jO v) v=R/\v.book.length+300 * jO v<=3600192000/\m=jO v/\s=⟨28,[(0,eI),(3,.ro 1 ((gP v).map jN))],wS v 900000 1,1⟩) (jO v0) (bO.intro (aB.b9 [1000000] [0,3] _) ?_) ?_
 ·refine aA aW ?_;exact⟨v0,hv,hR,by omega,rfl,rfl⟩
 rintro m s ⟨v,hv,hR,lf,rfl,rfl⟩;have aW:=hv.hx;rcases F5 (gP v) with hr|⟨i,l,hr⟩
 ·rw[SV hr]at hR;subst hR;rw[hr];have hz:¬(((0:Nat):Int)>0):=by decide
  exact dp hz aW
 obtain⟨x,b,Ce⟩:=PT hr;have CC:=E3 hv hr;have xY:=VS v i x b hv Ce (by omega);have dH:=hv.vJ (n:=i) CC;have adE:=(hv.HT (n:=i) CC).len;have acV:=IK (w:=v) (i:=i) (by rw[hr];exact List.mem_cons_self ..);rw[SW hr]at hR;have pN:=M4 (js v i) dH;rw[hr];generalize js v i=u at *;have cD:=dH.hx;have hz:((l.length+1:Nat):Int)>0:=by omega
 have zF:(0:Int)<((l.length+1:Nat):Int):=by omega
 refine AQ hz zF aW ?_;refine eK xY aW cD ?_;refine eW pN cD ?_;refine fh.intro (jO u) (by omega) (aB.b9 [1000000] [0,3] _) ?_;refine aA cD ?_;exact⟨u,dH,hR,by omega,rfl,rfl⟩
theorem agV (w:ae) (h:w.wf) (hb:w.book.length<=3600000000):aY Tryz.prog 138 (gJ w) [vA w 1000000] (vA (pD w) 0) (eX (pD w)):=by
 refine aF Uj false Tryz.f138 ?_;conv=>enter[1];reduce
 refine bI Tryz.f138 25 [.cell 2 64] (by kernel_rfl) (by decide +kernel) rfl ?_;have hx:=h.hx;have hs:=ea h.so;have pU:=h.bl;have SA:=h.rm;have hm:w.aO.length<=maxLen:=by unfold maxLen;omega
 refine aA hx ?_;refine im (fun m s=>∃(i:Nat),i<=w.aO.length/\m=w.aO.length - i/\s=⟨25,[(1,.ptr 1 0 [] 35 0 0),(2,.ptr 2 0 [] 35 0 0),(3,vI ((w.aO.length - i:Nat):Int))],uT (iS i w) 1 2 [],1⟩) w.aO.length (bO.intro (aB.b9 [] [1,2,3] _) ?_) ?_
 ·refine aA hx ?_;exact⟨0,aR _,rfl,rfl⟩
 rintro m s ⟨i,hi,rfl,rfl⟩;have hv:=h.pY i;rcases bp i w.aO.length with ab|bM
 ·have ah:((w.aO.length - i:Nat):Int)>0:=by omega
  have hw:IntKind.i64.wrap (((w.aO.length - i:Nat):Int) - 1)=((w.aO.length - (i+1):Nat):Int):=by rw[aN (by omega)];omega
  have hd:=VR (iS i w) 0 hv;rw[<-L9]at hd;have dH:=h.pY (i+1);generalize hU:iS (i+1) w=u at *;generalize iS i w=v at *;have aW:=hv.hx;have cD:=dH.hx;refine b8 ah aW ?_;refine ji hd hw aW cD ?_;refine fh.intro (w.aO.length - (i+1)) (by omega) (aB.b9 [] [1,2,3] _) ?_;refine aA cD ?_;refine⟨i+1,ab,rfl,?_⟩;subst hU;rfl
 have hi:i=w.aO.length:=by omega
 subst hi;have ah:¬(((w.aO.length - w.aO.length:Nat):Int)>0):=by omega
 have hT:pD w=jt (jO (iS w.aO.length w)) (iS w.aO.length w):=rfl;have fU:=T9 w.aO.length w;rw[hT];generalize iS w.aO.length w=v0 at *;have aW:=hv.hx;have htt:=hv.IL;generalize hR:jt (jO v0) v0=R;refine b8 ah aW ?_;refine im (fun m s=>∃(v:ae),v.wf/\jt (jO v) v=R/\v.book.length+300 * jO v<=3600192000/\m=jO v/\s=⟨25,[(1,.ptr 1 0 [] 35 0 0),(2,.ptr 2 0 [] 35 0 0)],uT v 1 2 [],1⟩) (jO v0) (bO.intro (aB.b9 [] [1,2] _) ?_) ?_
 ·refine aA aW ?_;exact⟨v0,hv,hR,by omega,rfl,rfl⟩
 rintro m s ⟨v,hv,hR,lf,rfl,rfl⟩;have aW:=hv.hx;have nE:=VP v hv;rcases F5 (gP v) with hr|⟨i,l,hr⟩
 ·rw[SV hr]at hR;subst hR;rw[hr]at nE;have hz:¬(((0:Nat):Int)>0):=by decide
  refine aA aW ?_;refine aE.intro nE ?_;exact dp hz aW
 obtain⟨x,b,Ce⟩:=PT hr;have CC:=E3 hv hr;have xY:=VO v i x b hv Ce (by omega);have dH:=hv.vJ (n:=i) CC;have adE:=(hv.HT (n:=i) CC).len;have acV:=IK (w:=v) (i:=i) (by rw[hr];exact List.mem_cons_self ..);rw[SW hr]at hR;rw[hr]at nE;generalize js v i=u at *;have cD:=dH.hx;have hz:((l.length+1:Nat):Int)>0:=by omega
 have zF:(0:Int)<((l.length+1:Nat):Int):=by omega
 refine aA aW ?_;refine aE.intro nE ?_;refine AQ hz zF aW ?_;refine aE.intro nE ?_;refine AQ hz zF aW ?_;refine eK xY aW cD ?_;refine fh.intro (jO u) (by omega) (aB.b9 [] [1,2] _) ?_;refine aA cD ?_;exact⟨u,dH,hR,by omega,rfl,rfl⟩
end
section
def aeT:cc:=⟨[],cw,cz,false⟩
attribute [-go_sem] ei
def jf {α:Type} (z:α) (l:List α) (i:Nat):List α:=List.replicate i z++l.drop i
theorem Df {α:Type}{z:α}{l:List α}:jf z l l.length=l.map fun _=>z:=by
 unfold jf;rw[List.drop_length,List.append_nil];induction l with
 | nil=>rfl
 | cons a l ih=>rw[List.length_cons,List.replicate_succ,ih];rfl
theorem rO {α:Type}{z:α}{l:List α}{i:Nat}(h:i<=l.length):(jf z l i).length=l.length:=by
 unfold jf;rw[List.length_append,List.length_replicate,List.length_drop];omega
theorem Hi {α:Type}{z:α}{l:List α}{i:Nat}:(jf z l i)[i]?=l[i]?:=by
 unfold jf;rw[List.getElem?_append_right (by simp),List.length_replicate,Nat.sub_self,List.getElem?_drop,Nat.add_zero]
theorem Hh {α:Type}{z:α}{l:List α}{i:Nat}(h:i<l.length):(jf z l i).set i z=jf z l (i+1):=by
 unfold jf;rw[List.set_append,if_neg (by simp),List.length_replicate,Nat.sub_self,List.drop_eq_getElem_cons h,List.set_cons_zero,List.replicate_succ',List.append_assoc];rfl
def j9 (w:ae) (i:Nat):ae:={w with stop:=true,up:=jf false w.up i,ai:=jf [] w.ai i}
theorem OT {w:ae}{i:Nat}(h:i<w.ai.length):(j9 w i).bx.set i []=(j9 w (i+1)).bx:=by
 have:((jf [] w.ai i).map fun b=>b.map aC.cs).set i (([]:List aC).map aC.cs)=(jf [] w.ai (i+1)).map fun b=>b.map aC.cs:=by
  rw[<-List.map_set,Hh h]
 exact this
theorem OS {w:ae}{i:Nat}(h:i<w.up.length):((j9 w i).up.map dw).set i [vB false]=(j9 w (i+1)).up.map dw:=by
 rw[yW];show(List.map dw ((jf false w.up i).set i false))=_
 rw[Hh h];rfl
theorem YG {w:ae}(h:w.wf):u9 w={j9 w w.up.length with aO:=[]}:=by
 have hl:w.ai.length=w.up.length:=by rw[h.nb,h.nu]
 unfold u9 j9;simp only;rw[Df,<-hl,Df]
theorem IT {w:ae}(h:w.wf) {i:Nat}(hi:i<=w.up.length):(j9 w i).wl:=
 ⟨h.so,h.nw,h.nc,by show(jf false w.up i).length=_;rw[rO hi];exact h.nu,by show(jf [] w.ai i).length=_;rw[rO (by rw[h.nb,<-h.nu];exact hi)];exact h.nb⟩
theorem ag5 (w:ae) (h:w.wf):aY Tryz.prog 116 (eL w) [eI] (.aZ []) (iA (u9 w)):=by
 refine aF aeT false Tryz.f116 ?_;conv=>enter[1];reduce
 refine rl Tryz.f116 32 [] (by kernel_rfl) (by decide +kernel) rfl rfl ?_;have hx:=h.hx;have hs:=ea h.so;have fR:=h.nw;have jV:=h.nc;have jW:=h.nb;have om:=h.nu;have hm:w.up.length<=maxLen:=by unfold maxLen;omega
 have e0:wS (j9 w 0) 900000 1=wS {w with stop:=true} 900000 1:=rfl;refine aA hx ?_;refine im (fun m s=>∃(i:Nat),i<=w.up.length/\m=w.up.length - i/\s=⟨32,[(0,eI),(10,vI w.up.length),(11,vI i)],wS (j9 w i) 900000 1,1⟩) w.up.length (bO.intro (aB.b9 [1000000] [0,10,11] _) ?_) ?_
 ·refine aA hx ?_;exact⟨0,aR _,rfl,rfl⟩
 rintro m s ⟨i,hi,rfl,rfl⟩;have hv:=IT h hi;rcases bp i w.up.length with ab|bM
 ·have ah:(i:Int)<(w.up.length:Int):=by omega
  have hw:=dx ab hm;have ot:(j9 w i).up.length=w.up.length:=rO hi;have qA:(j9 w i).ai.length=w.ai.length:=rO (by omega);have dX:(j9 w i).bx.length=w.ai.length:=by rw[dh];exact qA
  have lT:i<w.ai.length:=by omega
  have xV:(i:Int)<(w.ai.length:Int):=by omega
  have hg:(j9 w i).up[i]?=some w.up[i]:=by
   show(jf false w.up i)[i]?=_
   rw[Hi];exact bm ab
  have ga:(j9 w i).bx[i]?=some ((w.ai[i]).map aC.cs):=by
   show((jf [] w.ai i).map fun b=>b.map aC.cs)[i]?=_
   rw[List.getElem?_map,Hi,bm lT];rfl
  have kF:=OS ab;have Cm:=OT lT;have dH:=IT h (i:=i+1) ab;have KW:(j9 w (i+1)).up.length=w.up.length:=rO ab;have xT:(j9 w (i+1)).ai.length=w.ai.length:=rO (by omega);have aiQ:(j9 w (i+1)).bx.length=w.ai.length:=by rw[dh];exact xT
  have hz:j9 w (i+1)={j9 w i with up:=(j9 w (i+1)).up,ai:=(j9 w (i+1)).ai}:=rfl;have aW:=hv.hx;have cD:=dH.hx;simp -implicitDefEqProofs only[go_sem,ah,hw,ot,qA,hg,ga,dX,lT,xV,aW,dw,kF];refine fh.step (aB.tO _ 900003) ?_;refine aA aW ?_;refine fh.step (aB.yj (B:=900100) (i:=i) (L:=[]) (by decide) rfl (by rw[dX];exact lT) (.nil) rfl (by repeat' first|exact trivial|refine And.intro (.inl rfl) ?_|refine And.intro (.inr ⟨_,rfl,rfl⟩) ?_)) ?_;refine aA Cm ?_;refine fh.intro (w.up.length - (i+1)) (by omega) (aB.b9 [1000000] [0,10,11] _) ?_;refine b8 cD Cm ?_;refine⟨i+1,ab,rfl,?_⟩;rw[KW,xT];rfl
 have hi:i=w.up.length:=by omega
 subst hi;have ah:¬((w.up.length:Int)<(w.up.length:Int)):=by omega
 rw[YG h];generalize j9 w w.up.length=v at *;have aW:=hv.hx;refine b8 ah aW ?_;refine dO.step (aB.tG (r:=1000000) [ae.cells {v with aO:=[]} 900000 1] (by decide) rfl (.cons (by
  simp -implicitDefEqProofs only[go_sem]
  repeat' first
   | exact .nil
   | refine .cons nn ?_
   | refine .cons np ?_) .nil)) ?_
 refine dO.intro (aB.refl _) ?_;refine aA aW ?_
 first|exact True.intro|rfl|exact⟨rfl,rfl⟩
end
section
def aeS:cc:=⟨[(106,.cm [true]),(108,.cm [false,false]),(109,.cm [true,false]),(110,.cm [false,false]),(111,.cm [false,false]),(112,.cm [true]),(113,.cm [true,false]),(115,.cm [true]),(116,.cm [true]),(117,.cm [true,false])],cw,cz,false⟩
attribute [-go_sem] ei
theorem I9:∀(n:Nat) (w:ae),jP (n+1) w=pD (jP n w)
 | 0,w=>rfl
 | n+1,w=>I9 n (pD w)
theorem T3 (w:ae) (k:Int):vi w k={w with aO:=sH w.room w.aO k}:=by
 unfold vi sH;split
 ·rename_i x e;rw[e];simp only;unfold mh;split<;>rfl
 rename_i e;rw[e]
theorem RT {w:ae}(h:w.wf) (t:ByteArray):BZ w.log t=vf w.log t:=by
 unfold BZ vf;rw[if_pos h.lg]
theorem drop_eq (w:ae) (k:Int):({w with aO:=if w.aO=[] then [] else w.aO.eraseIdx (eP k w.aO.length)}:ae)={w with aO:=w.aO.eraseIdx (eP k w.aO.length)}:=by
 split
 ·rename_i h;rw[h];rfl
 rfl
theorem PS {w:ae}(k:Int) (h:0<(gP w).length):∃n,(gP w)[eP k (gP w).length]?=some n/\n∈gP w:=by
 have hm:=tV k h;exact⟨_,bm hm,List.getElem_mem hm⟩
theorem afN (w:ae) (x:bQ) (h:w.wf) (aI:e9 x=true) (aD:w.stop=false) (hb:w.book.length<=3500000000):aY Tryz.prog 76 (eL w) [eI,.agg x.bH] (.aZ []) (iA (eZ w x)):=by
 refine aF aeS false Tryz.f76 ?_;conv=>enter[1];reduce
 refine bI Tryz.f76 106 [] (by kernel_rfl) (by decide +kernel) rfl ?_;have hx:=h.hx;have hs:=ea h.so;have fR:=h.nw;have jV:=h.nc;have jW:=h.nb;have om:=h.nu;have hr:=h.step aI;have br:=hr.hx;unfold eZ at hr br ⊢;rw[if_neg (by rw[aD];decide)]at hr br ⊢;obtain⟨kd,nd,ar,tx⟩:=x;have xU:kd=1\/kd=3\/kd=4\/kd=5\/kd=6\/kd=12\/kd=13\/(kd≠1/\kd≠3/\kd≠4/\kd≠5/\kd≠6/\kd≠12/\kd≠13):=by omega
 simp only at hr br ⊢;rcases xU with rfl|rfl|rfl|rfl|rfl|rfl|rfl|bJ
 ·have y1:((1:Int)==1)=true:=rfl;have y3:((1:Int)==3)=false:=rfl;have y4:((1:Int)==4)=false:=rfl;have y5:((1:Int)==5)=false:=rfl;have y6:((1:Int)==6)=false:=rfl;have dU:((1:Int)==12)=false:=rfl;have dL:((1:Int)==13)=false:=rfl;rw[if_pos rfl]at hr br ⊢;have hu:0<w.up.length:=by omega
  have cU:(0:Int)<(w.up.length:Int):=by omega
  have bY:w.up[0]?=some (w.up.getD 0 false):=by rw[List.getD_eq_getElem?_getD,bm hu];rfl
  rcases Bool.eq_false_or_eq_true (w.up.getD 0 false) with bG|bG
  ·rw[if_pos bG]at hr br ⊢;rw[bG]at bY;obtain⟨b,gZ⟩:=ag8 w.log tx h.lg;rw[RT h]at hr br ⊢;generalize vf w.log tx=L at *;refine jh hx y1 y3 y4 y5 y6 dU dL hu cU bY ?_;refine aE.intro gZ ?_;simp -implicitDefEqProofs only[go_sem,hx,y1,y3,y4,y5,y6,dU,dL,bb];try rfl
  rw[if_neg (by rw[bG];decide)]at hr br ⊢;rw[bG]at bY;exact uJ hx y1 y3 y4 y5 y6 dU dL hu cU bY
 ·have y1:((3:Int)==1)=false:=rfl;have y3:((3:Int)==3)=true:=rfl;have y4:((3:Int)==4)=false:=rfl;have y5:((3:Int)==5)=false:=rfl;have y6:((3:Int)==6)=false:=rfl;have dU:((3:Int)==12)=false:=rfl;have dL:((3:Int)==13)=false:=rfl;rw[if_neg (by decide),if_pos rfl]at hr br ⊢;have eo:=VU w ar h;generalize ju w ar=Z at *;refine tE hx y1 y3 y4 y5 y6 dU dL ?_;refine aE.intro eo ?_;exact dp hx br
 ·have y1:((4:Int)==1)=false:=rfl;have y3:((4:Int)==3)=false:=rfl;have y4:((4:Int)==4)=true:=rfl;have y5:((4:Int)==5)=false:=rfl;have y6:((4:Int)==6)=false:=rfl;have dU:((4:Int)==12)=false:=rfl;have dL:((4:Int)==13)=false:=rfl;rw[if_neg (by decide),if_neg (by decide),if_pos rfl]at hr br ⊢;rw[drop_eq]at hr br ⊢;by_cases lk:w.aO=[]
  ·have eo:=NV (lk▸h.oD) ar;rw[lk,List.eraseIdx_nil]at hr br ⊢;simp -implicitDefEqProofs only[go_sem,hx,y1,y3,y4,y5,y6,dU,dL,bb,lk];refine aE.intro eo ?_;simp -implicitDefEqProofs only[go_sem,hx];try rfl
  have jU:0<w.aO.length:=List.length_pos_iff.2 lk;have eo:=VT h.oD ar (bm (tV ar jU));generalize w.aO.eraseIdx (eP ar w.aO.length)=b at *;refine tE hx y1 y3 y4 y5 y6 dU dL ?_;refine aE.intro eo ?_;simp -implicitDefEqProofs only[go_sem,hx];try rfl
 ·have y1:((5:Int)==1)=false:=rfl;have y3:((5:Int)==3)=false:=rfl;have y4:((5:Int)==4)=false:=rfl;have y5:((5:Int)==5)=true:=rfl;have y6:((5:Int)==6)=false:=rfl;have dU:((5:Int)==12)=false:=rfl;have dL:((5:Int)==13)=false:=rfl;rw[if_neg (by decide),if_neg (by decide),if_neg (by decide),if_pos rfl]at hr br ⊢;obtain⟨b,eo⟩:=ag7 h.oD ar;rw[T3]at hr br ⊢;generalize sH w.room w.aO ar=B at *;refine tE hx y1 y3 y4 y5 y6 dU dL ?_;refine aE.intro eo ?_;simp -implicitDefEqProofs only[go_sem,hx];try rfl
 ·have y1:((6:Int)==1)=false:=rfl;have y3:((6:Int)==3)=false:=rfl;have y4:((6:Int)==4)=false:=rfl;have y5:((6:Int)==5)=false:=rfl;have y6:((6:Int)==6)=true:=rfl;have dU:((6:Int)==12)=false:=rfl;have dL:((6:Int)==13)=false:=rfl;rw[if_neg (by decide),if_neg (by decide),if_neg (by decide),if_neg (by decide),if_pos rfl]at hr br ⊢;have pN:=M4 w h;rcases Nat.eq_zero_or_pos (gP w).length with hl|hl
  ·have sS:=List.eq_nil_of_length_eq_zero hl;rw[sS]at hr br pN ⊢;have hz:¬(((0:Nat):Int)>0):=by decide
   refine tE hx y1 y3 y4 y5 y6 dU dL ?_;refine aE.intro pN ?_;exact dp hx hz
  obtain⟨n,hn,oY⟩:=PS ar hl;obtain⟨ab,-,y,b,Kz⟩:=E4 oY;have hle:(gP w).length<=1000:=by rw[<-E9];have:=E8 w w.up.length;omega
  have KR:=M3 ar (gP w).length hl hle;have rB:=tV ar hl;rw[hn]at hr br ⊢;simp only at hr br ⊢;have eo:=VS w n y b h Kz (by omega);generalize js w n=Z at *;generalize gP w=L at *;generalize eP ar L.length=j at *;have hz:(L.length:Int)>0:=by omega
  have hj:(j:Int)<(L.length:Int):=by omega
  refine tE hx y1 y3 y4 y5 y6 dU dL ?_;refine eK pN hx hz ?_;refine aq.intro KR ?_;refine AQ hx hj hn ?_;refine aE.intro eo ?_;exact dp hx br
 ·have y1:((12:Int)==1)=false:=rfl;have y3:((12:Int)==3)=false:=rfl;have y4:((12:Int)==4)=false:=rfl;have y5:((12:Int)==5)=false:=rfl;have y6:((12:Int)==6)=false:=rfl;have dU:((12:Int)==12)=true:=rfl;have dL:((12:Int)==13)=false:=rfl;rw[if_neg (by decide),if_neg (by decide),if_neg (by decide),if_neg (by decide),if_neg (by decide),if_pos rfl]at hr br ⊢;have Gx:(min ar 16)<=16:=by omega
  refine tE hx y1 y3 y4 y5 y6 dU dL ?_;refine im (fun m s=>∃(i:Nat),i<=(min ar 16).toNat/\m=(min ar 16).toNat - i/\s=⟨106,[(0,eI),(5,vI (min ar 16 - (i:Int)))],wS (jP i w) 900000 1,1⟩) (min ar 16).toNat (bO.intro (aB.b9 [1000000] [0,5] _) ?_) ?_
  ·refine aA hx ?_;refine⟨0,aR _,rfl,?_⟩;rw[show min ar 16 - ((0:Nat):Int)=min ar 16 by omega];try rfl
  generalize hA:min ar 16=A at *;rintro m s ⟨i,hi,rfl,rfl⟩;have hv:=h.tN i;rcases bp i A.toNat with ab|bM
  ·have ah:A - (i:Int)>0:=by omega
   have hw:IntKind.i64.wrap (A - (i:Int) - 1)=A - ((i+1:Nat):Int):=by rw[aN (by omega)];omega
   have fU:=(h.HS i).len;have hd:=ag6 (jP i w) hv (by omega);rw[<-I9]at hd;have dH:=h.tN (i+1);generalize hU:jP (i+1) w=u at *;generalize jP i w=v at *;have aW:=hv.hx;have cD:=dH.hx;refine b8 ah aW ?_;refine ji hd hw aW cD ?_;refine fh.intro (A.toNat - (i+1)) (by omega) (aB.b9 [1000000] [0,5] _) ?_;refine aA cD ?_;refine⟨i+1,ab,rfl,?_⟩;subst hU;rfl
  have hi:i=A.toNat:=by omega
  subst hi;have ah:¬(A - (A.toNat:Int)>0):=by omega
  have aW:=hv.hx;generalize jP A.toNat w=v at *;exact dp ah aW
 ·have y1:((13:Int)==1)=false:=rfl;have y3:((13:Int)==3)=false:=rfl;have y4:((13:Int)==4)=false:=rfl;have y5:((13:Int)==5)=false:=rfl;have y6:((13:Int)==6)=false:=rfl;have dU:((13:Int)==12)=false:=rfl;have dL:((13:Int)==13)=true:=rfl;rw[if_neg (by decide),if_neg (by decide),if_neg (by decide),if_neg (by decide),if_neg (by decide),if_neg (by decide),if_pos rfl]at hr br ⊢;have eo:=ag5 w h;generalize u9 w=Z at *;refine tE hx y1 y3 y4 y5 y6 dU dL ?_;refine aE.intro eo ?_;exact dp hx br
 obtain⟨n1,n3,n4,n5,n6,BQ,BP⟩:=bJ;have y1:(kd==1)=false:=beq_eq_false_iff_ne.2 n1;have y3:(kd==3)=false:=beq_eq_false_iff_ne.2 n3;have y4:(kd==4)=false:=beq_eq_false_iff_ne.2 n4;have y5:(kd==5)=false:=beq_eq_false_iff_ne.2 n5;have y6:(kd==6)=false:=beq_eq_false_iff_ne.2 n6;have dU:(kd==12)=false:=beq_eq_false_iff_ne.2 BQ;have dL:(kd==13)=false:=beq_eq_false_iff_ne.2 BP;rw[if_neg n1,if_neg n3,if_neg n4,if_neg n5,if_neg n6,if_neg BQ,if_neg BP]at hr br ⊢;have gZ:=t6 h.so h.dM h.last;have Cw:0<=nd/\nd<=20:=by
  have Cu:=aI;simp only[e9,Bool.and_eq_true,cr]at Cu;omega
 by_cases hle:nd<=((w.aj.length+w.cls.length+1:Nat):Int)
 ·rw[if_pos hle]at hr br ⊢;have eo:=ag4 w ⟨kd,nd,ar,tx⟩ nd.toNat h (by show nd=_;omega) (by omega) aI (by omega);generalize mg w ⟨kd,nd,ar,tx⟩ nd.toNat=Z at *;refine tE hx y1 y3 y4 y5 y6 dU dL ?_;refine eK gZ hx hle ?_;refine aE.intro eo ?_;exact dp hx br
 rw[if_neg hle]at hr br ⊢;refine tE hx y1 y3 y4 y5 y6 dU dL ?_;refine aE.intro gZ ?_;exact dp hx hle
end
end Go.Proofs.YtobpfkgabdeefaaGreat.E
