/- Contracts: a step at a node; Contracts: setups and steps; quiet steps, cover steps; lists of steps, one behind the other -/
import Derived.Test.YtobpfkgabdeefaaGreatQ37
namespace Go.Proofs.YtobpfkgabdeefaaGreat.E
open Go Go.RowKit
set_option maxHeartbeats 4000000
set_option maxRecDepth 10000
set_option linter.unusedSimpArgs false
set_option linter.unusedVariables false
set_option linter.unusedSectionVars false
section
def aeV:cc:=⟨[(105,.cm [true,false]),(162,.cm [true,false]),(172,.cm [true,false]),(173,.cm [true,false,false]),(174,.cm [true,false]),(175,.cm [true,false])],cw,cz,false⟩
attribute [-go_sem] ei
theorem F5 {α:Type}(l:List α):l=[]\/∃y m,l=y::m:=by
 cases l with
 | nil=>exact .inl rfl
 | cons y m=>exact .inr ⟨y,m,rfl⟩
def bQ.bH (x:bQ):List AV:=[vI x.kind,vI x.node,vI x.arg,vS x.text]
attribute [go_sem] bQ.bH
theorem ag4 (w:ae) (x:bQ) (n:Nat) (h:w.wf) (qz:x.node=n) (hn:n<w.ai.length) (aI:e9 x=true) (hb:w.book.length<=3700000000):aY Tryz.prog 117 (eL w) [eI,.agg x.bH] (.aZ []) (iA (mg w x n)):=by
 refine aF aeV false Tryz.f117 ?_;conv=>enter[1];reduce
 refine bI Tryz.f117 131 [] (by kernel_rfl) (by decide +kernel) rfl ?_;have hx:=h.hx;have hs:=ea h.so;have fR:=h.nw;have jV:=h.nc;have jW:=h.nb;have om:=h.nu;have hu:n<w.up.length:=by omega
 have cU:(n:Int)<(w.up.length:Int):=by omega
 have lR:(n:Int)<(w.ai.length:Int):=by omega
 have dX:w.bx.length=w.ai.length:=dh w;have bY:w.up[n]?=some (w.up.getD n false):=by rw[List.getD_eq_getElem?_getD,bm hu];rfl
 have ga:w.bx[n]?=some ((w.ai.getD n []).map aC.cs):=by unfold ae.bx;rw[List.getElem?_map,List.getD_eq_getElem?_getD,bm hn];rfl
 have CH:w.ai[n]?=some (w.ai.getD n []):=by rw[List.getD_eq_getElem?_getD,bm hn];rfl
 have hr:=h.node (n:=n) (by omega) aI;have br:=hr.hx;obtain⟨kd,nd,ar,tx⟩:=x;simp only at qz;subst qz;have dZ:=zC h.wl n;have xU:kd=2\/kd=7\/kd=8\/kd=9\/kd=10\/kd=11\/(kd≠2/\kd≠7/\kd≠8/\kd≠9/\kd≠10/\kd≠11):=by omega
 unfold mg at hr br ⊢;simp only at hr br ⊢;rcases xU with rfl|rfl|rfl|rfl|rfl|rfl|bJ
 ·have y2:((2:Int)==2)=true:=rfl;have y7:((2:Int)==7)=false:=rfl;have y8:((2:Int)==8)=false:=rfl;have y9:((2:Int)==9)=false:=rfl;have du:((2:Int)==10)=false:=rfl;have dt:((2:Int)==11)=false:=rfl;rcases Bool.eq_false_or_eq_true (w.up.getD n false) with bG|bG
  ·
   rw[bG]at bY;rw[if_pos ⟨rfl,bG⟩]at hr br ⊢;have eo:=agL w n h hn hb;generalize i5 w n=Z at *;refine jh hx hu cU bY bG y2 y7 y8 y9 du dt ?_;refine aE.intro eo ?_;exact dp hx br
  
  rw[bG]at bY;rw[if_neg (fun h=>by rw[bG]at h;exact absurd h.2 (by decide)),if_neg (fun h=>absurd h.1 (by decide)),if_neg (fun h=>absurd h.1 (by decide)),if_neg (fun h=>absurd h.1 (by decide)),if_neg (fun h=>absurd h.1 (by decide)),if_neg (by decide)]at hr br ⊢;exact uJ hx hu cU bY bG y2 y7 y8 y9 du dt
 ·have y2:((7:Int)==2)=false:=rfl;have y7:((7:Int)==7)=true:=rfl;have y8:((7:Int)==8)=false:=rfl;have y9:((7:Int)==9)=false:=rfl;have du:((7:Int)==10)=false:=rfl;have dt:((7:Int)==11)=false:=rfl;rcases Bool.eq_false_or_eq_true (w.up.getD n false) with bG|bG
  ·
   rw[bG]at bY;by_cases iT:1<=n/\n<=w.aj.length
   ·rw[decide_eq_true iT]at dZ;rcases F5 (w.ai.getD n []) with hB|⟨y,l,hB⟩
    ·
     rw[hB]at ga;have hz:¬(((0:Nat):Int)>0):=by decide
     rw[if_neg (fun h=>absurd h.1 (by decide)),if_neg (fun h=>by rw[hB]at h;exact absurd h.2.2.2 (by decide)),if_neg (fun h=>absurd h.1 (by decide)),if_neg (fun h=>absurd h.1 (by decide)),if_neg (fun h=>absurd h.1 (by decide)),if_neg (by decide)]at hr br ⊢;refine jh hx hu cU bY bG y2 y7 y8 y9 du dt ?_;refine aE.intro dZ ?_;simp -implicitDefEqProofs only[go_sem,hx,hu,cU,bY,bG,dw,y2,y7,y8,y9,du,dt,bb,hn,lR,ga,dX,hz,br]
    
    rw[hB]at ga CH;have hz:((l.length+1:Nat):Int)>0:=by omega
    rw[if_neg (fun h=>absurd h.1 (by decide)),if_pos ⟨rfl,bG,iT,by rw[hB];exact Nat.succ_pos _⟩]at hr br ⊢;have eo:=agK w n ar y l h CH iT hb;generalize nA w n ar=Z at *;refine jh hx hu cU bY bG y2 y7 y8 y9 du dt ?_;refine aE.intro dZ ?_;simp -implicitDefEqProofs only[go_sem,hx,hu,cU,bY,bG,dw,y2,y7,y8,y9,du,dt,bb,hn,lR,ga,dX,hz];refine aE.intro eo ?_;exact dp hx br
   rw[decide_eq_false iT]at dZ;rw[if_neg (fun h=>absurd h.1 (by decide)),if_neg (fun h=>iT h.2.2.1),if_neg (fun h=>absurd h.1 (by decide)),if_neg (fun h=>absurd h.1 (by decide)),if_neg (fun h=>absurd h.1 (by decide)),if_neg (by decide)]at hr br ⊢;refine jh hx hu cU bY bG y2 y7 y8 y9 du dt ?_;refine aE.intro dZ ?_;exact tF hx hu cU bY bG y2 y7 y8 y9 du dt br
  
  rw[bG]at bY;rw[if_neg (fun h=>absurd h.1 (by decide)),if_neg (fun h=>by rw[bG]at h;exact absurd h.2.1 (by decide)),if_neg (fun h=>absurd h.1 (by decide)),if_neg (fun h=>absurd h.1 (by decide)),if_neg (fun h=>absurd h.1 (by decide)),if_neg (by decide)]at hr br ⊢;exact uJ hx hu cU bY bG y2 y7 y8 y9 du dt
 ·have y2:((8:Int)==2)=false:=rfl;have y7:((8:Int)==7)=false:=rfl;have y8:((8:Int)==8)=true:=rfl;have y9:((8:Int)==9)=false:=rfl;have du:((8:Int)==10)=false:=rfl;have dt:((8:Int)==11)=false:=rfl;rcases Bool.eq_false_or_eq_true (w.up.getD n false) with bG|bG
  ·
   rw[bG]at bY;rw[if_neg (fun h=>absurd h.1 (by decide)),if_neg (fun h=>absurd h.1 (by decide)),if_pos ⟨rfl,bG⟩]at hr br ⊢;have eo:=MX w n h.wl hn (by omega);generalize iR w n=Z at *;refine jh hx hu cU bY bG y2 y7 y8 y9 du dt ?_;refine aE.intro eo ?_;exact dp hx br
  
  rw[bG]at bY;rw[if_neg (fun h=>absurd h.1 (by decide)),if_neg (fun h=>absurd h.1 (by decide)),if_neg (fun h=>by rw[bG]at h;exact absurd h.2 (by decide)),if_neg (fun h=>absurd h.1 (by decide)),if_neg (fun h=>absurd h.1 (by decide)),if_neg (by decide)]at hr br ⊢;exact uJ hx hu cU bY bG y2 y7 y8 y9 du dt
 ·have y2:((9:Int)==2)=false:=rfl;have y7:((9:Int)==7)=false:=rfl;have y8:((9:Int)==8)=false:=rfl;have y9:((9:Int)==9)=true:=rfl;have du:((9:Int)==10)=false:=rfl;have dt:((9:Int)==11)=false:=rfl;rcases Bool.eq_false_or_eq_true (w.up.getD n false) with bG|bG
  ·
   rw[bG]at bY;rw[if_neg (fun h=>absurd h.1 (by decide)),if_neg (fun h=>absurd h.1 (by decide)),if_neg (fun h=>absurd h.1 (by decide)),if_neg (fun h=>by rw[bG]at h;exact absurd h.2 (by decide)),if_neg (fun h=>absurd h.1 (by decide)),if_neg (by decide)]at hr br ⊢;exact uJ hx hu cU bY bG y2 y7 y8 y9 du dt
  
  rw[bG]at bY;rw[if_neg (fun h=>absurd h.1 (by decide)),if_neg (fun h=>absurd h.1 (by decide)),if_neg (fun h=>absurd h.1 (by decide)),if_pos ⟨rfl,bG⟩]at hr br ⊢;have eo:=agJ w n h hn hb;generalize mN w n=Z at *;refine jh hx hu cU bY bG y2 y7 y8 y9 du dt ?_;refine aE.intro eo ?_;exact dp hx br
 ·have y2:((10:Int)==2)=false:=rfl;have y7:((10:Int)==7)=false:=rfl;have y8:((10:Int)==8)=false:=rfl;have y9:((10:Int)==9)=false:=rfl;have du:((10:Int)==10)=true:=rfl;have dt:((10:Int)==11)=false:=rfl;rcases Bool.eq_false_or_eq_true (w.up.getD n false) with bG|bG
  ·
   rw[bG]at bY;rw[if_neg (fun h=>absurd h.1 (by decide)),if_neg (fun h=>absurd h.1 (by decide)),if_neg (fun h=>absurd h.1 (by decide)),if_neg (fun h=>absurd h.1 (by decide)),if_neg (fun h=>by rw[bG]at h;exact absurd h.2.1 (by decide)),if_neg (by decide)]at hr br ⊢;exact uJ hx hu cU bY bG y2 y7 y8 y9 du dt
  
  rw[bG]at bY;by_cases iT:1<=n/\n<=w.aj.length
  ·rw[decide_eq_true iT]at dZ;rw[if_neg (fun h=>absurd h.1 (by decide)),if_neg (fun h=>absurd h.1 (by decide)),if_neg (fun h=>absurd h.1 (by decide)),if_neg (fun h=>absurd h.1 (by decide)),if_pos ⟨rfl,bG,iT⟩]at hr br ⊢;have hk:n - 1<w.aj.length:=by omega
   have hg:w.aj[n - 1]?=some (w.aj.getD (n - 1) cJ):=by rw[List.getD_eq_getElem?_getD,bm hk];rfl
   obtain⟨w1,w2,w3⟩:=h.wt _ (je (l:=w.aj) (i:=n - 1) (d:=cJ) hk);have z2:IntKind.i64.wrap ((n:Int) - 1)=((n - 1:Nat):Int):=by rw[aN (by omega)];omega
   generalize w.aj.getD (n - 1) cJ=y at *;have rB:=BY y.aH;have c1:=VE y.aH w1;have c2:=VF y.aH (gQ y.aH) ar (by unfold maxLen;omega);generalize gQ y.aH=M at *;generalize fu y.aH M ar=e at *;have aD:=sh w.aj (n - 1) e y.aQ;generalize n - 1=k at *;have bV:(k:Int)<(w.aj.length:Int):=by omega
   simp only[cX.cs,List.cons_append,List.nil_append]at aD;refine jh hx hu cU bY bG y2 y7 y8 y9 du dt ?_;refine aE.intro dZ ?_;simp -implicitDefEqProofs only[go_sem,hx,hu,cU,bY,bG,dw,y2,y7,y8,y9,du,dt,bb,z2,hk,bV,hg,bz.rc];refine aq.intro c1 ?_;simp -implicitDefEqProofs only[go_sem,hx,hu,cU,bY,bG,dw,y2,y7,y8,y9,du,dt,bb,z2,hk,bV,hg,bz.rc];refine aq.intro c2 ?_;simp -implicitDefEqProofs only[go_sem,hx,hu,cU,bY,bG,dw,y2,y7,y8,y9,du,dt,bb,z2,hk,bV,hg,bz.rc,aD,br,List.length_set]
   first|done|rfl
  rw[decide_eq_false iT]at dZ;rw[if_neg (fun h=>absurd h.1 (by decide)),if_neg (fun h=>absurd h.1 (by decide)),if_neg (fun h=>absurd h.1 (by decide)),if_neg (fun h=>absurd h.1 (by decide)),if_neg (fun h=>iT h.2.2),if_neg (by decide)]at hr br ⊢;refine jh hx hu cU bY bG y2 y7 y8 y9 du dt ?_;refine aE.intro dZ ?_;exact tF hx hu cU bY bG y2 y7 y8 y9 du dt br
 ·have y2:((11:Int)==2)=false:=rfl;have y7:((11:Int)==7)=false:=rfl;have y8:((11:Int)==8)=false:=rfl;have y9:((11:Int)==9)=false:=rfl;have du:((11:Int)==10)=false:=rfl;have dt:((11:Int)==11)=true:=rfl;rw[if_neg (fun h=>absurd h.1 (by decide)),if_neg (fun h=>absurd h.1 (by decide)),if_neg (fun h=>absurd h.1 (by decide)),if_neg (fun h=>absurd h.1 (by decide)),if_neg (fun h=>absurd h.1 (by decide)),if_pos rfl]at hr br ⊢;have iU:df ⟨0,n,tx⟩=true:=by
   simp only[e9,Bool.and_eq_true,decide_eq_true_eq,cr]at aI;simp only[df,Bool.and_eq_true,decide_eq_true_eq,cr];refine⟨by omega,by omega,?_⟩;have:=aI.2.2;omega
  have fE:=DC w [⟨0,n,tx⟩] h (fun y hy=>by rw[List.mem_singleton.1 hy];exact iU) (by show 1<=1000;omega);rw[show fP w [⟨0,n,tx⟩]=lK w ⟨0,n,tx⟩ from rfl]at fE;generalize lK w ⟨0,n,tx⟩=Z at *;have bG:w.up.getD n false=w.up.getD n false:=rfl;simp -implicitDefEqProofs only[go_sem,hx,hu,cU,bY,dw,y2,y7,y8,y9,du,dt,bb];refine aE.intro fE ?_;exact dp hx br
 obtain⟨n2,n7,n8,n9,BS,BR⟩:=bJ;have y2:(kd==2)=false:=beq_eq_false_iff_ne.2 n2;have y7:(kd==7)=false:=beq_eq_false_iff_ne.2 n7;have y8:(kd==8)=false:=beq_eq_false_iff_ne.2 n8;have y9:(kd==9)=false:=beq_eq_false_iff_ne.2 n9;have du:(kd==10)=false:=beq_eq_false_iff_ne.2 BS;have dt:(kd==11)=false:=beq_eq_false_iff_ne.2 BR;rw[if_neg (fun h=>n2 h.1),if_neg (fun h=>n7 h.1),if_neg (fun h=>n8 h.1),if_neg (fun h=>n9 h.1),if_neg (fun h=>BS h.1),if_neg BR]at hr br ⊢;exact uJ hx hu cU bY y2 y7 y8 y9 du dt br
end
def Ug:cc:=⟨[(95,.cm [true,false])],cw,cz,false⟩
theorem bQ.wide (l:List bQ):fN 4 (l.map bQ.bH)=true:=by
 induction l with
 | nil=>rfl
 | cons a l ih=>simp only[List.map_cons,fN,ih,bQ.bH];rfl
theorem bQ.flat (l:List bQ):dJ (l.map bQ.bH)=2:=by
 induction l with
 | nil=>rfl
 | cons a l ih=>simp only[List.map_cons,dJ,ih,bQ.bH];rfl
attribute [go_sem] bQ.wide bQ.flat
theorem afO (x:bQ):ba Tryz.prog 73 [.agg x.bH] (vB (e9 x)) []:=by
 refine aF Ug false Tryz.f73 ?_;conv=>enter[1];reduce
 refine bu Tryz.f73 17 [.tmp 2] (by kernel_rfl) (by decide +kernel) rfl ?_;unfold e9;refine au ?_;refine aq.intro (dQ _ _ _) ?_;cases h1:aS x.kind 1 13 with
 | false=>
  refine oG ?_
  first|exact True.intro|(simp;done)
 | true=>
  refine oG ?_;refine aq.intro (dQ _ _ _) ?_;cases h2:aS x.node 0 20 with
  | false=>
   refine oG ?_
   first|exact True.intro|(simp;done)
  | true=>
   refine oG ?_
   first|exact True.intro|(simp;done)
theorem agZ (x:bQ):ba Tryz.prog 129 [.agg x.bH] (vB (e9 x)) []:=by
 refine aF Ug false Tryz.f129 ?_;conv=>enter[1];reduce
 refine bu Tryz.f129 17 [.tmp 2] (by kernel_rfl) (by decide +kernel) rfl ?_;unfold e9;refine au ?_;refine aq.intro (fG _ _ _) ?_;cases h1:aS x.kind 1 13 with
 | false=>
  refine oG ?_
  first|exact True.intro|(simp;done)
 | true=>
  refine oG ?_;refine aq.intro (fG _ _ _) ?_;cases h2:aS x.node 0 20 with
  | false=>
   refine oG ?_
   first|exact True.intro|(simp;done)
  | true=>
   refine oG ?_
   first|exact True.intro|(simp;done)
end Go.Proofs.YtobpfkgabdeefaaGreat.E
