/- Contracts: a step at a node. -/
import Derived.Test.YtobpfkgabdeefaaGreatP37
namespace Go.Proofs.YtobpfkgabdeefaaGreat.E
open Go Go.RowKit
set_option maxHeartbeats 4000000
set_option maxRecDepth 10000
set_option linter.unusedSimpArgs false
set_option linter.unusedVariables false
set_option linter.unusedSectionVars false
def aeG:bX:=⟨[(105,.cm [true,false]),(162,.cm [true,false]),(172,.cm [true,false]),(173,.cm [true,false,false]),(174,.cm [true,false]),(175,.cm [true,false])],[9,10,11],[24,26,30,44,47,50,51,52,57,58,59,62,76,88,138,185,186,187,253,254,297,311],false⟩
attribute [-go_sem] ei
theorem F4 {α:Type}(l:List α):l=[]∨∃y m,l=y::m:=by
 cases l with
 | nil=>exact .inl rfl
 | cons y m=>exact .inr ⟨y,m,rfl⟩
def aJ.aO (x:aJ):List AV:=[vI x.kind,vI x.node,vI x.arg,vS x.text]
attribute [go_sem] aJ.aO
theorem agR (w:ai) (x:aJ) (n:Nat) (h:w.wf) (vf:x.node=n) (hn:n<w.ak.length) (aF:fW x=true) (hb:w.book.length≤3700000000):bb Tryz.prog 117 (eB w) [eA,.agg x.aO] (.ba []) (im (oA w x n)):=by
 refine aA aeG false Tryz.f117 ?_;conv=>enter[1];reduce
 refine bT Tryz.f117 131 [] (by kernel_rfl) (by decide +kernel) rfl ?_;have hx:=h.hx;have hs:=d7 h.so;have ga:=h.nw;have jD:=h.nc;have lF:=h.nb;have oD:=h.nu;have hu:n<w.up.length:=by omega
 have cM:(n:Int)<(w.up.length:Int):=by omega
 have lG:(n:Int)<(w.ak.length:Int):=by omega
 have dR:w.bx.length=w.ak.length:=de w;have cC:w.up[n]?=some (w.up.getD n false):=by rw[List.getD_eq_getElem?_getD,bz hu];rfl
 have gp:w.bx[n]?=some ((w.ak.getD n []).map aB.cs):=by unfold ai.bx;rw[List.getElem?_map,List.getD_eq_getElem?_getD,bz hn];rfl
 have CG:w.ak[n]?=some (w.ak.getD n []):=by rw[List.getD_eq_getElem?_getD,bz hn];rfl
 have hr:=h.node (n:=n) (by omega) aF;have bw:=hr.hx;obtain⟨kd,nd,ar,tx⟩:=x;simp only at vf;subst vf;have dS:=zM h.wl n;have xX:kd=2∨kd=7∨kd=8∨kd=9∨kd=10∨kd=11∨(kd≠2∧kd≠7∧kd≠8∧kd≠9∧kd≠10∧kd≠11):=by omega
 unfold oA at hr bw ⊢;simp only at hr bw ⊢;rcases xX with rfl|rfl|rfl|rfl|rfl|rfl|bO
 ·have y2:((2:Int)==2)=true:=rfl;have y7:((2:Int)==7)=false:=rfl;have y8:((2:Int)==8)=false:=rfl;have y9:((2:Int)==9)=false:=rfl;have dp:((2:Int)==10)=false:=rfl;have dn:((2:Int)==11)=false:=rfl;rcases Bool.eq_false_or_eq_true (w.up.getD n false) with bJ|bJ
  ·
   rw[bJ]at cC;rw[if_pos ⟨rfl,bJ⟩]at hr bw ⊢;have dT:=agA w n h hn hb;generalize jS w n=Z at *;refine iW hx hu cM cC bJ y2 y7 y8 y9 dp dn ?_;refine aD.intro dT ?_;exact dk hx bw
  
  rw[bJ]at cC;rw[if_neg (fun h=>by rw[bJ]at h;exact absurd h.2 (by decide)),if_neg (fun h=>absurd h.1 (by decide)),if_neg (fun h=>absurd h.1 (by decide)),if_neg (fun h=>absurd h.1 (by decide)),if_neg (fun h=>absurd h.1 (by decide)),if_neg (by decide)]at hr bw ⊢;exact uD hx hu cM cC bJ y2 y7 y8 y9 dp dn
 ·have y2:((7:Int)==2)=false:=rfl;have y7:((7:Int)==7)=true:=rfl;have y8:((7:Int)==8)=false:=rfl;have y9:((7:Int)==9)=false:=rfl;have dp:((7:Int)==10)=false:=rfl;have dn:((7:Int)==11)=false:=rfl;rcases Bool.eq_false_or_eq_true (w.up.getD n false) with bJ|bJ
  ·
   rw[bJ]at cC;by_cases iG:1≤n∧n≤w.ah.length
   ·rw[decide_eq_true iG]at dS;rcases F4 (w.ak.getD n []) with hB|⟨y,l,hB⟩
    ·
     rw[hB]at gp;have hz:¬(((0:Nat):Int)>0):=by decide
     rw[if_neg (fun h=>absurd h.1 (by decide)),if_neg (fun h=>by rw[hB]at h;exact absurd h.2.2.2 (by decide)),if_neg (fun h=>absurd h.1 (by decide)),if_neg (fun h=>absurd h.1 (by decide)),if_neg (fun h=>absurd h.1 (by decide)),if_neg (by decide)]at hr bw ⊢;refine iW hx hu cM cC bJ y2 y7 y8 y9 dp dn ?_;refine aD.intro dS ?_;simp -implicitDefEqProofs only[go_sem,hx,hu,cM,cC,bJ,dq,y2,y7,y8,y9,dp,dn,bc,hn,lG,gp,dR,hz,bw]
    
    rw[hB]at gp CG;have hz:((l.length+1:Nat):Int)>0:=by omega
    rw[if_neg (fun h=>absurd h.1 (by decide)),if_pos ⟨rfl,bJ,iG,by rw[hB];exact Nat.succ_pos _⟩]at hr bw ⊢;have dT:=agz w n ar y l h CG iG hb;generalize ph w n ar=Z at *;refine iW hx hu cM cC bJ y2 y7 y8 y9 dp dn ?_;refine aD.intro dS ?_;simp -implicitDefEqProofs only[go_sem,hx,hu,cM,cC,bJ,dq,y2,y7,y8,y9,dp,dn,bc,hn,lG,gp,dR,hz];refine aD.intro dT ?_;exact dk hx bw
   rw[decide_eq_false iG]at dS;rw[if_neg (fun h=>absurd h.1 (by decide)),if_neg (fun h=>iG h.2.2.1),if_neg (fun h=>absurd h.1 (by decide)),if_neg (fun h=>absurd h.1 (by decide)),if_neg (fun h=>absurd h.1 (by decide)),if_neg (by decide)]at hr bw ⊢;refine iW hx hu cM cC bJ y2 y7 y8 y9 dp dn ?_;refine aD.intro dS ?_;exact tq hx hu cM cC bJ y2 y7 y8 y9 dp dn bw
  
  rw[bJ]at cC;rw[if_neg (fun h=>absurd h.1 (by decide)),if_neg (fun h=>by rw[bJ]at h;exact absurd h.2.1 (by decide)),if_neg (fun h=>absurd h.1 (by decide)),if_neg (fun h=>absurd h.1 (by decide)),if_neg (fun h=>absurd h.1 (by decide)),if_neg (by decide)]at hr bw ⊢;exact uD hx hu cM cC bJ y2 y7 y8 y9 dp dn
 ·have y2:((8:Int)==2)=false:=rfl;have y7:((8:Int)==7)=false:=rfl;have y8:((8:Int)==8)=true:=rfl;have y9:((8:Int)==9)=false:=rfl;have dp:((8:Int)==10)=false:=rfl;have dn:((8:Int)==11)=false:=rfl;rcases Bool.eq_false_or_eq_true (w.up.getD n false) with bJ|bJ
  ·
   rw[bJ]at cC;rw[if_neg (fun h=>absurd h.1 (by decide)),if_neg (fun h=>absurd h.1 (by decide)),if_pos ⟨rfl,bJ⟩]at hr bw ⊢;have dT:=Nc w n h.wl hn (by omega);generalize ja w n=Z at *;refine iW hx hu cM cC bJ y2 y7 y8 y9 dp dn ?_;refine aD.intro dT ?_;exact dk hx bw
  
  rw[bJ]at cC;rw[if_neg (fun h=>absurd h.1 (by decide)),if_neg (fun h=>absurd h.1 (by decide)),if_neg (fun h=>by rw[bJ]at h;exact absurd h.2 (by decide)),if_neg (fun h=>absurd h.1 (by decide)),if_neg (fun h=>absurd h.1 (by decide)),if_neg (by decide)]at hr bw ⊢;exact uD hx hu cM cC bJ y2 y7 y8 y9 dp dn
 ·have y2:((9:Int)==2)=false:=rfl;have y7:((9:Int)==7)=false:=rfl;have y8:((9:Int)==8)=false:=rfl;have y9:((9:Int)==9)=true:=rfl;have dp:((9:Int)==10)=false:=rfl;have dn:((9:Int)==11)=false:=rfl;rcases Bool.eq_false_or_eq_true (w.up.getD n false) with bJ|bJ
  ·
   rw[bJ]at cC;rw[if_neg (fun h=>absurd h.1 (by decide)),if_neg (fun h=>absurd h.1 (by decide)),if_neg (fun h=>absurd h.1 (by decide)),if_neg (fun h=>by rw[bJ]at h;exact absurd h.2 (by decide)),if_neg (fun h=>absurd h.1 (by decide)),if_neg (by decide)]at hr bw ⊢;exact uD hx hu cM cC bJ y2 y7 y8 y9 dp dn
  
  rw[bJ]at cC;rw[if_neg (fun h=>absurd h.1 (by decide)),if_neg (fun h=>absurd h.1 (by decide)),if_neg (fun h=>absurd h.1 (by decide)),if_pos ⟨rfl,bJ⟩]at hr bw ⊢;have dT:=agy w n h hn hb;generalize ov w n=Z at *;refine iW hx hu cM cC bJ y2 y7 y8 y9 dp dn ?_;refine aD.intro dT ?_;exact dk hx bw
 ·have y2:((10:Int)==2)=false:=rfl;have y7:((10:Int)==7)=false:=rfl;have y8:((10:Int)==8)=false:=rfl;have y9:((10:Int)==9)=false:=rfl;have dp:((10:Int)==10)=true:=rfl;have dn:((10:Int)==11)=false:=rfl;rcases Bool.eq_false_or_eq_true (w.up.getD n false) with bJ|bJ
  ·
   rw[bJ]at cC;rw[if_neg (fun h=>absurd h.1 (by decide)),if_neg (fun h=>absurd h.1 (by decide)),if_neg (fun h=>absurd h.1 (by decide)),if_neg (fun h=>absurd h.1 (by decide)),if_neg (fun h=>by rw[bJ]at h;exact absurd h.2.1 (by decide)),if_neg (by decide)]at hr bw ⊢;exact uD hx hu cM cC bJ y2 y7 y8 y9 dp dn
  
  rw[bJ]at cC;by_cases iG:1≤n∧n≤w.ah.length
  ·rw[decide_eq_true iG]at dS;rw[if_neg (fun h=>absurd h.1 (by decide)),if_neg (fun h=>absurd h.1 (by decide)),if_neg (fun h=>absurd h.1 (by decide)),if_neg (fun h=>absurd h.1 (by decide)),if_pos ⟨rfl,bJ,iG⟩]at hr bw ⊢;have hk:n - 1<w.ah.length:=by omega
   have hg:w.ah[n - 1]?=some (w.ah.getD (n - 1) cF):=by rw[List.getD_eq_getElem?_getD,bz hk];rfl
   obtain⟨w1,w2,w3⟩:=h.wt _ (iS (l:=w.ah) (i:=n - 1) (d:=cF) hk);have z2:IntKind.i64.wrap ((n:Int) - 1)=((n - 1:Nat):Int):=by rw[aV (by omega)];omega
   generalize w.ah.getD (n - 1) cF=y at *;have sA:=B5 y.aH;have c1:=VB y.aH w1;have c2:=VC y.aH (gw y.aH) ar (by unfold maxLen;omega);generalize gw y.aH=M at *;generalize eX y.aH M ar=e at *;have aE:=rO w.ah (n - 1) e y.aS;generalize n - 1=k at *;have bW:(k:Int)<(w.ah.length:Int):=by omega
   simp only[cS.cs,List.cons_append,List.nil_append]at aE;refine iW hx hu cM cC bJ y2 y7 y8 y9 dp dn ?_;refine aD.intro dS ?_;simp -implicitDefEqProofs only[go_sem,hx,hu,cM,cC,bJ,dq,y2,y7,y8,y9,dp,dn,bc,z2,hk,bW,hg,bE.rc];refine aq.intro c1 ?_;simp -implicitDefEqProofs only[go_sem,hx,hu,cM,cC,bJ,dq,y2,y7,y8,y9,dp,dn,bc,z2,hk,bW,hg,bE.rc];refine aq.intro c2 ?_;simp -implicitDefEqProofs only[go_sem,hx,hu,cM,cC,bJ,dq,y2,y7,y8,y9,dp,dn,bc,z2,hk,bW,hg,bE.rc,aE,bw,List.length_set]
   first|done|rfl|trace_state
  rw[decide_eq_false iG]at dS;rw[if_neg (fun h=>absurd h.1 (by decide)),if_neg (fun h=>absurd h.1 (by decide)),if_neg (fun h=>absurd h.1 (by decide)),if_neg (fun h=>absurd h.1 (by decide)),if_neg (fun h=>iG h.2.2),if_neg (by decide)]at hr bw ⊢;refine iW hx hu cM cC bJ y2 y7 y8 y9 dp dn ?_;refine aD.intro dS ?_;exact tq hx hu cM cC bJ y2 y7 y8 y9 dp dn bw
 ·have y2:((11:Int)==2)=false:=rfl;have y7:((11:Int)==7)=false:=rfl;have y8:((11:Int)==8)=false:=rfl;have y9:((11:Int)==9)=false:=rfl;have dp:((11:Int)==10)=false:=rfl;have dn:((11:Int)==11)=true:=rfl;rw[if_neg (fun h=>absurd h.1 (by decide)),if_neg (fun h=>absurd h.1 (by decide)),if_neg (fun h=>absurd h.1 (by decide)),if_neg (fun h=>absurd h.1 (by decide)),if_neg (fun h=>absurd h.1 (by decide)),if_pos rfl]at hr bw ⊢;have jt:c8 ⟨0,n,tx⟩=true:=by
   simp only[fW,Bool.and_eq_true,decide_eq_true_eq,cf]at aF;simp only[c8,Bool.and_eq_true,decide_eq_true_eq,cf];refine⟨by omega,by omega,?_⟩;have:=aF.2.2;omega
  have fm:=DG w [⟨0,n,tx⟩] h (fun y hy=>by rw[List.mem_singleton.1 hy];exact jt) (by show 1≤1000;omega);rw[show fG w [⟨0,n,tx⟩]=lq w ⟨0,n,tx⟩ from rfl]at fm;generalize lq w ⟨0,n,tx⟩=Z at *;have bJ:w.up.getD n false=w.up.getD n false:=rfl;simp -implicitDefEqProofs only[go_sem,hx,hu,cM,cC,dq,y2,y7,y8,y9,dp,dn,bc];refine aD.intro fm ?_;exact dk hx bw
 obtain⟨n2,n7,n8,n9,BZ,BY⟩:=bO;have y2:(kd==2)=false:=beq_eq_false_iff_ne.2 n2;have y7:(kd==7)=false:=beq_eq_false_iff_ne.2 n7;have y8:(kd==8)=false:=beq_eq_false_iff_ne.2 n8;have y9:(kd==9)=false:=beq_eq_false_iff_ne.2 n9;have dp:(kd==10)=false:=beq_eq_false_iff_ne.2 BZ;have dn:(kd==11)=false:=beq_eq_false_iff_ne.2 BY;rw[if_neg (fun h=>n2 h.1),if_neg (fun h=>n7 h.1),if_neg (fun h=>n8 h.1),if_neg (fun h=>n9 h.1),if_neg (fun h=>BZ h.1),if_neg BY]at hr bw ⊢;exact uD hx hu cM cC y2 y7 y8 y9 dp dn bw
end Go.Proofs.YtobpfkgabdeefaaGreat.E
