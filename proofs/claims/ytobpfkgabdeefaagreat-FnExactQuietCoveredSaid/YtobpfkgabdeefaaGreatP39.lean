/- Contracts: a step at a node, in the reference; Contracts: rounds; Contracts: the world stops; Contracts: a step -/
import Derived.Test.YtobpfkgabdeefaaGreatP38
import Derived.Test.YtobpfkgabdeefaaGreatP36
import Derived.Test.YtobpfkgabdeefaaGreatP20
namespace Go.Proofs.YtobpfkgabdeefaaGreat.E
open Go Go.RowKit
set_option maxHeartbeats 4000000
set_option maxRecDepth 10000
set_option linter.unusedSimpArgs false
set_option linter.unusedVariables false
set_option linter.unusedSectionVars false
section
def aeF:bX:=⟨[(183,.cm [true,false]),(192,.cm [true,false]),(193,.cm [true,false,false]),(194,.cm [true,false]),(195,.cm [true,false])],[9,10,11],[24,26,30,44,47,50,51,52,57,58,59,62,76,88,138,185,186,187,253,254,297,311],false⟩
attribute [-go_sem] ei
theorem VK (w:ai) (x:aJ) (n:Nat) (h:w.wf) (vf:x.node=n) (hn:n<w.ak.length) (aF:fW x=true) (hb:w.book.length≤3700000000):bb Tryz.prog 139 (gm w) [vA w 1000000,.agg x.aO] (vA (oA w x n) 0) (eJ (oA w x n)):=by
 refine aA aeF false Tryz.f139 ?_;conv=>enter[1];reduce
 refine bT Tryz.f139 121 [.cell 4 64] (by kernel_rfl) (by decide +kernel) rfl ?_;have hx:=h.hx;have hs:=d7 h.so;have ga:=h.nw;have jD:=h.nc;have lF:=h.nb;have oD:=h.nu;have hu:n<w.up.length:=by omega
 have cM:(n:Int)<(w.up.length:Int):=by omega
 have lG:(n:Int)<(w.ak.length:Int):=by omega
 have dR:w.bx.length=w.ak.length:=de w;have cC:w.up[n]?=some (w.up.getD n false):=by rw[List.getD_eq_getElem?_getD,bz hu];rfl
 have gp:w.bx[n]?=some ((w.ak.getD n []).map aB.cs):=by unfold ai.bx;rw[List.getElem?_map,List.getD_eq_getElem?_getD,bz hn];rfl
 have CG:w.ak[n]?=some (w.ak.getD n []):=by rw[List.getD_eq_getElem?_getD,bz hn];rfl
 have hr:=h.node (n:=n) (by omega) aF;have bw:=hr.hx;obtain⟨kd,nd,ar,tx⟩:=x;simp only at vf;subst vf;have dS:=e9 n 1 w.set.many;have xX:kd=2∨kd=7∨kd=8∨kd=9∨kd=10∨kd=11∨(kd≠2∧kd≠7∧kd≠8∧kd≠9∧kd≠10∧kd≠11):=by omega
 unfold oA at hr bw ⊢;simp only at hr bw ⊢;rcases xX with rfl|rfl|rfl|rfl|rfl|rfl|bO
 ·have y2:((2:Int)==2)=true:=rfl;have y7:((2:Int)==7)=false:=rfl;have y8:((2:Int)==8)=false:=rfl;have y9:((2:Int)==9)=false:=rfl;have dp:((2:Int)==10)=false:=rfl;have dn:((2:Int)==11)=false:=rfl;rcases Bool.eq_false_or_eq_true (w.up.getD n false) with bJ|bJ
  ·
   rw[bJ]at cC;rw[if_pos ⟨rfl,bJ⟩]at hr bw ⊢;have dT:=agt w n h hn hb;generalize jS w n=Z at *;refine iW hx hu cM cC bJ y2 y7 y8 y9 dp dn ?_;refine aq.intro dS ?_;refine iW hx hu cM cC bJ y2 y7 y8 y9 dp dn ?_;refine aD.intro dT ?_;exact dk hx bw
  
  rw[bJ]at cC;rw[if_neg (fun h=>by rw[bJ]at h;exact absurd h.2 (by decide)),if_neg (fun h=>absurd h.1 (by decide)),if_neg (fun h=>absurd h.1 (by decide)),if_neg (fun h=>absurd h.1 (by decide)),if_neg (fun h=>absurd h.1 (by decide)),if_neg (by decide)]at hr bw ⊢;refine iW hx hu cM cC bJ y2 y7 y8 y9 dp dn ?_;refine aq.intro dS ?_;exact tq hx hu cM cC bJ y2 y7 y8 y9 dp dn bw
 ·have y2:((7:Int)==2)=false:=rfl;have y7:((7:Int)==7)=true:=rfl;have y8:((7:Int)==8)=false:=rfl;have y9:((7:Int)==9)=false:=rfl;have dp:((7:Int)==10)=false:=rfl;have dn:((7:Int)==11)=false:=rfl;rcases Bool.eq_false_or_eq_true (w.up.getD n false) with bJ|bJ
  ·
   rw[bJ]at cC;by_cases iG:1≤n∧n≤w.ah.length
   ·rw[cf.2 (by omega)]at dS;rcases F4 (w.ak.getD n []) with hB|⟨y,l,hB⟩
    ·
     rw[hB]at gp;have hz:¬(((0:Nat):Int)>0):=by decide
     rw[if_neg (fun h=>absurd h.1 (by decide)),if_neg (fun h=>by rw[hB]at h;exact absurd h.2.2.2 (by decide)),if_neg (fun h=>absurd h.1 (by decide)),if_neg (fun h=>absurd h.1 (by decide)),if_neg (fun h=>absurd h.1 (by decide)),if_neg (by decide)]at hr bw ⊢;refine iW hx hu cM cC bJ y2 y7 y8 y9 dp dn ?_;refine aq.intro dS ?_;simp -implicitDefEqProofs only[go_sem,hx,hu,cM,cC,bJ,dq,y2,y7,y8,y9,dp,dn,bc,hn,lG,gp,dR,hz,bw]
    
    rw[hB]at gp CG;have hz:((l.length+1:Nat):Int)>0:=by omega
    rw[if_neg (fun h=>absurd h.1 (by decide)),if_pos ⟨rfl,bJ,iG,by rw[hB];exact Nat.succ_pos _⟩]at hr bw ⊢;have dT:=ags w n ar y l h CG iG hb;generalize ph w n ar=Z at *;refine iW hx hu cM cC bJ y2 y7 y8 y9 dp dn ?_;refine aq.intro dS ?_;simp -implicitDefEqProofs only[go_sem,hx,hu,cM,cC,bJ,dq,y2,y7,y8,y9,dp,dn,bc,hn,lG,gp,dR,hz];refine aD.intro dT ?_;exact dk hx bw
   rw[nG (by omega)]at dS;rw[if_neg (fun h=>absurd h.1 (by decide)),if_neg (fun h=>iG h.2.2.1),if_neg (fun h=>absurd h.1 (by decide)),if_neg (fun h=>absurd h.1 (by decide)),if_neg (fun h=>absurd h.1 (by decide)),if_neg (by decide)]at hr bw ⊢;refine iW hx hu cM cC bJ y2 y7 y8 y9 dp dn ?_;refine aq.intro dS ?_;exact tq hx hu cM cC bJ y2 y7 y8 y9 dp dn bw
  
  rw[bJ]at cC;rw[if_neg (fun h=>absurd h.1 (by decide)),if_neg (fun h=>by rw[bJ]at h;exact absurd h.2.1 (by decide)),if_neg (fun h=>absurd h.1 (by decide)),if_neg (fun h=>absurd h.1 (by decide)),if_neg (fun h=>absurd h.1 (by decide)),if_neg (by decide)]at hr bw ⊢;refine iW hx hu cM cC bJ y2 y7 y8 y9 dp dn ?_;refine aq.intro dS ?_;exact tq hx hu cM cC bJ y2 y7 y8 y9 dp dn bw
 ·have y2:((8:Int)==2)=false:=rfl;have y7:((8:Int)==7)=false:=rfl;have y8:((8:Int)==8)=true:=rfl;have y9:((8:Int)==9)=false:=rfl;have dp:((8:Int)==10)=false:=rfl;have dn:((8:Int)==11)=false:=rfl;rcases Bool.eq_false_or_eq_true (w.up.getD n false) with bJ|bJ
  ·
   rw[bJ]at cC;rw[if_neg (fun h=>absurd h.1 (by decide)),if_neg (fun h=>absurd h.1 (by decide)),if_pos ⟨rfl,bJ⟩]at hr bw ⊢;have dT:=M9 w n h.wl hn (by omega);generalize ja w n=Z at *;refine iW hx hu cM cC bJ y2 y7 y8 y9 dp dn ?_;refine aq.intro dS ?_;refine iW hx hu cM cC bJ y2 y7 y8 y9 dp dn ?_;refine aD.intro dT ?_;exact dk hx bw
  
  rw[bJ]at cC;rw[if_neg (fun h=>absurd h.1 (by decide)),if_neg (fun h=>absurd h.1 (by decide)),if_neg (fun h=>by rw[bJ]at h;exact absurd h.2 (by decide)),if_neg (fun h=>absurd h.1 (by decide)),if_neg (fun h=>absurd h.1 (by decide)),if_neg (by decide)]at hr bw ⊢;refine iW hx hu cM cC bJ y2 y7 y8 y9 dp dn ?_;refine aq.intro dS ?_;exact tq hx hu cM cC bJ y2 y7 y8 y9 dp dn bw
 ·have y2:((9:Int)==2)=false:=rfl;have y7:((9:Int)==7)=false:=rfl;have y8:((9:Int)==8)=false:=rfl;have y9:((9:Int)==9)=true:=rfl;have dp:((9:Int)==10)=false:=rfl;have dn:((9:Int)==11)=false:=rfl;rcases Bool.eq_false_or_eq_true (w.up.getD n false) with bJ|bJ
  ·
   rw[bJ]at cC;rw[if_neg (fun h=>absurd h.1 (by decide)),if_neg (fun h=>absurd h.1 (by decide)),if_neg (fun h=>absurd h.1 (by decide)),if_neg (fun h=>by rw[bJ]at h;exact absurd h.2 (by decide)),if_neg (fun h=>absurd h.1 (by decide)),if_neg (by decide)]at hr bw ⊢;refine iW hx hu cM cC bJ y2 y7 y8 y9 dp dn ?_;refine aq.intro dS ?_;exact tq hx hu cM cC bJ y2 y7 y8 y9 dp dn bw
  
  rw[bJ]at cC;rw[if_neg (fun h=>absurd h.1 (by decide)),if_neg (fun h=>absurd h.1 (by decide)),if_neg (fun h=>absurd h.1 (by decide)),if_pos ⟨rfl,bJ⟩]at hr bw ⊢;have dT:=agr w n h hn hb;generalize ov w n=Z at *;refine iW hx hu cM cC bJ y2 y7 y8 y9 dp dn ?_;refine aq.intro dS ?_;refine iW hx hu cM cC bJ y2 y7 y8 y9 dp dn ?_;refine aD.intro dT ?_;exact dk hx bw
 ·have y2:((10:Int)==2)=false:=rfl;have y7:((10:Int)==7)=false:=rfl;have y8:((10:Int)==8)=false:=rfl;have y9:((10:Int)==9)=false:=rfl;have dp:((10:Int)==10)=true:=rfl;have dn:((10:Int)==11)=false:=rfl;rcases Bool.eq_false_or_eq_true (w.up.getD n false) with bJ|bJ
  ·
   rw[bJ]at cC;rw[if_neg (fun h=>absurd h.1 (by decide)),if_neg (fun h=>absurd h.1 (by decide)),if_neg (fun h=>absurd h.1 (by decide)),if_neg (fun h=>absurd h.1 (by decide)),if_neg (fun h=>by rw[bJ]at h;exact absurd h.2.1 (by decide)),if_neg (by decide)]at hr bw ⊢;refine iW hx hu cM cC bJ y2 y7 y8 y9 dp dn ?_;refine aq.intro dS ?_;exact tq hx hu cM cC bJ y2 y7 y8 y9 dp dn bw
  
  rw[bJ]at cC;by_cases iG:1≤n∧n≤w.ah.length
  ·rw[cf.2 (by omega)]at dS;rw[if_neg (fun h=>absurd h.1 (by decide)),if_neg (fun h=>absurd h.1 (by decide)),if_neg (fun h=>absurd h.1 (by decide)),if_neg (fun h=>absurd h.1 (by decide)),if_pos ⟨rfl,bJ,iG⟩]at hr bw ⊢;have hk:n - 1<w.ah.length:=by omega
   have hg:w.ah[n - 1]?=some (w.ah.getD (n - 1) cF):=by rw[List.getD_eq_getElem?_getD,bz hk];rfl
   obtain⟨w1,w2,w3⟩:=h.wt _ (iS (l:=w.ah) (i:=n - 1) (d:=cF) hk);have z2:IntKind.i64.wrap ((n:Int) - 1)=((n - 1:Nat):Int):=by rw[aV (by omega)];omega
   generalize w.ah.getD (n - 1) cF=y at *;have sA:=B5 y.aH;have c1:=Vv y.aH w1;have c2:=Vw y.aH (gw y.aH) ar (by unfold maxLen;omega);generalize gw y.aH=M at *;generalize eX y.aH M ar=e at *;have aE:=rO w.ah (n - 1) e y.aS;generalize n - 1=k at *;have bW:(k:Int)<(w.ah.length:Int):=by omega
   simp only[cS.cs,List.cons_append,List.nil_append]at aE;refine iW hx hu cM cC bJ y2 y7 y8 y9 dp dn ?_;refine aq.intro dS ?_;simp -implicitDefEqProofs only[go_sem,hx,hu,cM,cC,bJ,dq,y2,y7,y8,y9,dp,dn,bc,z2,hk,bW,hg,bE.rc];refine aq.intro c1 ?_;simp -implicitDefEqProofs only[go_sem,hx,hu,cM,cC,bJ,dq,y2,y7,y8,y9,dp,dn,bc,z2,hk,bW,hg,bE.rc];refine aq.intro c2 ?_;simp -implicitDefEqProofs only[go_sem,hx,hu,cM,cC,bJ,dq,y2,y7,y8,y9,dp,dn,bc,z2,hk,bW,hg,bE.rc,aE,bw,List.length_set]
   first|done|rfl|trace_state
  rw[nG (by omega)]at dS;rw[if_neg (fun h=>absurd h.1 (by decide)),if_neg (fun h=>absurd h.1 (by decide)),if_neg (fun h=>absurd h.1 (by decide)),if_neg (fun h=>absurd h.1 (by decide)),if_neg (fun h=>iG h.2.2),if_neg (by decide)]at hr bw ⊢;refine iW hx hu cM cC bJ y2 y7 y8 y9 dp dn ?_;refine aq.intro dS ?_;exact tq hx hu cM cC bJ y2 y7 y8 y9 dp dn bw
 ·have y2:((11:Int)==2)=false:=rfl;have y7:((11:Int)==7)=false:=rfl;have y8:((11:Int)==8)=false:=rfl;have y9:((11:Int)==9)=false:=rfl;have dp:((11:Int)==10)=false:=rfl;have dn:((11:Int)==11)=true:=rfl;rw[if_neg (fun h=>absurd h.1 (by decide)),if_neg (fun h=>absurd h.1 (by decide)),if_neg (fun h=>absurd h.1 (by decide)),if_neg (fun h=>absurd h.1 (by decide)),if_neg (fun h=>absurd h.1 (by decide)),if_pos rfl]at hr bw ⊢;have jt:c8 ⟨0,n,tx⟩=true:=by
   simp only[fW,Bool.and_eq_true,decide_eq_true_eq,cf]at aF;simp only[c8,Bool.and_eq_true,decide_eq_true_eq,cf];refine⟨by omega,by omega,?_⟩;have:=aF.2.2;omega
  have fm:=DD w [⟨0,n,tx⟩] h (fun y hy=>by rw[List.mem_singleton.1 hy];exact jt) (by show 1≤1000;omega);rw[show fG w [⟨0,n,tx⟩]=lq w ⟨0,n,tx⟩ from rfl]at fm;generalize lq w ⟨0,n,tx⟩=Z at *;have bJ:w.up.getD n false=w.up.getD n false:=rfl;simp -implicitDefEqProofs only[go_sem,hx,hu,cM,cC,dq,y2,y7,y8,y9,dp,dn,bc];refine aq.intro dS ?_;simp -implicitDefEqProofs only[go_sem,hx,hu,cM,cC,dq,y2,y7,y8,y9,dp,dn,bc];refine aD.intro fm ?_;exact dk hx bw
 obtain⟨n2,n7,n8,n9,BZ,BY⟩:=bO;have y2:(kd==2)=false:=beq_eq_false_iff_ne.2 n2;have y7:(kd==7)=false:=beq_eq_false_iff_ne.2 n7;have y8:(kd==8)=false:=beq_eq_false_iff_ne.2 n8;have y9:(kd==9)=false:=beq_eq_false_iff_ne.2 n9;have dp:(kd==10)=false:=beq_eq_false_iff_ne.2 BZ;have dn:(kd==11)=false:=beq_eq_false_iff_ne.2 BY;rw[if_neg (fun h=>n2 h.1),if_neg (fun h=>n7 h.1),if_neg (fun h=>n8 h.1),if_neg (fun h=>n9 h.1),if_neg (fun h=>BZ h.1),if_neg BY]at hr bw ⊢;simp -implicitDefEqProofs only[go_sem,hx,hu,cM,cC,dq,y2,y7,y8,y9,dp,dn,bc];refine aq.intro dS ?_;exact uD hx hu cM cC y2 y7 y8 y9 dp dn bw
end
section
def Ub:bX:=⟨[(109,.cm [true,false]),(112,.cm [true]),(113,.cm [true,false]),(131,.cm [true,false]),(134,.cm [true]),(135,.cm [true,false])],[9,10,11],[24,26,30,44,47,50,51,52,57,58,59,62,76,88,138,185,186,187,253,254,297,311],false⟩
attribute [-go_sem] ei
theorem fh.step {I:Nat→St→Prop}{m:Nat}{s s':St}(h:aI s s') (k:fh I m s'):fh I m s:=by
 obtain⟨m',h1,h2⟩:=k;exact⟨m',h1,cO.step h h2⟩
theorem Mj:∀(n:Nat) (w:ai),jb (n+1) w=kq (jb n w) 0
 | 0,w=>rfl
 | n+1,w=>Mj n (kq w 0)
theorem SS {w:ai}(h:gS w=[]) (n:Nat):kj n w=w:=by
 cases n with
 | zero=>rfl
 | succ n=>unfold kj;rw[h]
theorem SU {w:ai}{i:Nat}{l:List Nat}(h:gS w=i::l):kj (jz w) w=kj (jz (kh w i)) (kh w i):=by
 have ht:=IT (w:=w) (i:=i) (by rw[h];exact List.mem_cons_self ..);rw[←ht];simp only[kj,h]
theorem T2 (n:Nat) (w:ai):(jb n w).book.length=w.book.length:=by rw[Nt]
theorem PL {w:ai}{i:Nat}{l:List Nat}(h:gS w=i::l):∃x b,w.ak[i]?=some (x::b):=(EZ (w:=w) (i:=i) (by rw[h];exact List.mem_cons_self ..)).2.2
theorem agT (w:ai) (h:w.wf) (hb:w.book.length≤3600000000):bb Tryz.prog 115 (eB w) [eA] (.ba []) (im (pg w)):=by
 refine aA Ub false Tryz.f115 ?_;conv=>enter[1];reduce
 refine bT Tryz.f115 28 [] (by kernel_rfl) (by decide +kernel) rfl ?_;have hx:=h.hx;have hs:=d7 h.so;have qp:=h.bl;have Sx:=h.rm;have hm:w.bj.length≤maxLen:=by unfold maxLen;omega
 refine aC hx ?_;refine iN (fun m s=>∃(i:Nat),i≤w.bj.length∧m=w.bj.length - i∧s=⟨28,[(0,eA),(2,vI ((w.bj.length - i:Nat):Int))],wS (jb i w) 900000 1,1⟩) w.bj.length (cO.intro (aI.dm [1000000] [0,2] _) ?_) ?_
 ·refine aC hx ?_;exact⟨0,aQ _,rfl,rfl⟩
 rintro m s ⟨i,hi,rfl,rfl⟩;have hv:=h.sP i;rcases bm i w.bj.length with ab|bH
 ·have ae:((w.bj.length - i:Nat):Int)>0:=by omega
  have hw:IntKind.i64.wrap (((w.bj.length - i:Nat):Int) - 1)=((w.bj.length - (i+1):Nat):Int):=by rw[aV (by omega)];omega
  have hd:=VR (jb i w) 0 hv;rw[←Mj]at hd;have dQ:=h.sP (i+1);generalize hU:jb (i+1) w=u at *;generalize jb i w=v at *;have aX:=hv.hx;have cr:=dQ.hx;refine cg ae aX ?_;refine mb hd hw aX cr ?_;refine fh.intro (w.bj.length - (i+1)) (by omega) (aI.dm [1000000] [0,2] _) ?_;refine aC cr ?_;refine⟨i+1,ab,rfl,?_⟩;subst hU;rfl
 have hi:i=w.bj.length:=by omega
 subst hi;have ae:¬(((w.bj.length - w.bj.length:Nat):Int)>0):=by omega
 have hT:pg w=kj (jz (jb w.bj.length w)) (jb w.bj.length w):=rfl;have gq:=T2 w.bj.length w;rw[hT];generalize jb w.bj.length w=v0 at *;have aX:=hv.hx;have htt:=hv.IU;refine cg ae aX ?_;refine il (Nk v0 hv) aX ?_;generalize hR:kj (jz v0) v0=R;refine iN (fun m s=>∃(v:ai),v.wf∧kj (jz v) v=R∧v.book.length+300 * jz v≤3600192000∧m=jz v∧s=⟨28,[(0,eA),(3,.ro 1 ((gS v).map oq))],wS v 900000 1,1⟩) (jz v0) (cO.intro (aI.dm [1000000] [0,3] _) ?_) ?_
 ·refine aC aX ?_;exact⟨v0,hv,hR,by omega,rfl,rfl⟩
 rintro m s ⟨v,hv,hR,lY,rfl,rfl⟩;have aX:=hv.hx;rcases F4 (gS v) with hr|⟨i,l,hr⟩
 ·rw[SS hr]at hR;subst hR;rw[hr];have hz:¬(((0:Nat):Int)>0):=by decide
  exact dk hz aX
 obtain⟨x,b,Cg⟩:=PL hr;have CC:=EY hv hr;have x8:=VP v i x b hv Cg (by omega);have dQ:=hv.CM (n:=i) CC;have adm:=(hv.HT (n:=i) CC).len;have acz:=IT (w:=v) (i:=i) (by rw[hr];exact List.mem_cons_self ..);rw[SU hr]at hR;have pA:=Nk (kh v i) dQ;rw[hr];generalize kh v i=u at *;have cr:=dQ.hx;have hz:((l.length+1:Nat):Int)>0:=by omega
 have zP:(0:Int)<((l.length+1:Nat):Int):=by omega
 refine AX hz zP aX ?_;refine ff x8 aX cr ?_;refine il pA cr ?_;refine fh.intro (jz u) (by omega) (aI.dm [1000000] [0,3] _) ?_;refine aC cr ?_;exact⟨u,dQ,hR,by omega,rfl,rfl⟩
theorem agI (w:ai) (h:w.wf) (hb:w.book.length≤3600000000):bb Tryz.prog 138 (gm w) [vA w 1000000] (vA (pg w) 0) (eJ (pg w)):=by
 refine aA Ub false Tryz.f138 ?_;conv=>enter[1];reduce
 refine bT Tryz.f138 25 [.cell 2 64] (by kernel_rfl) (by decide +kernel) rfl ?_;have hx:=h.hx;have hs:=d7 h.so;have qp:=h.bl;have Sx:=h.rm;have hm:w.bj.length≤maxLen:=by unfold maxLen;omega
 refine aC hx ?_;refine iN (fun m s=>∃(i:Nat),i≤w.bj.length∧m=w.bj.length - i∧s=⟨25,[(1,.ptr 1 0 [] 35 0 0),(2,.ptr 2 0 [] 35 0 0),(3,vI ((w.bj.length - i:Nat):Int))],uN (jb i w) 1 2 [],1⟩) w.bj.length (cO.intro (aI.dm [] [1,2,3] _) ?_) ?_
 ·refine aC hx ?_;exact⟨0,aQ _,rfl,rfl⟩
 rintro m s ⟨i,hi,rfl,rfl⟩;have hv:=h.sP i;rcases bm i w.bj.length with ab|bH
 ·have ae:((w.bj.length - i:Nat):Int)>0:=by omega
  have hw:IntKind.i64.wrap (((w.bj.length - i:Nat):Int) - 1)=((w.bj.length - (i+1):Nat):Int):=by rw[aV (by omega)];omega
  have hd:=VO (jb i w) 0 hv;rw[←Mj]at hd;have dQ:=h.sP (i+1);generalize hU:jb (i+1) w=u at *;generalize jb i w=v at *;have aX:=hv.hx;have cr:=dQ.hx;refine cg ae aX ?_;refine mb hd hw aX cr ?_;refine fh.intro (w.bj.length - (i+1)) (by omega) (aI.dm [] [1,2,3] _) ?_;refine aC cr ?_;refine⟨i+1,ab,rfl,?_⟩;subst hU;rfl
 have hi:i=w.bj.length:=by omega
 subst hi;have ae:¬(((w.bj.length - w.bj.length:Nat):Int)>0):=by omega
 have hT:pg w=kj (jz (jb w.bj.length w)) (jb w.bj.length w):=rfl;have gq:=T2 w.bj.length w;rw[hT];generalize jb w.bj.length w=v0 at *;have aX:=hv.hx;have htt:=hv.IU;generalize hR:kj (jz v0) v0=R;refine cg ae aX ?_;refine iN (fun m s=>∃(v:ai),v.wf∧kj (jz v) v=R∧v.book.length+300 * jz v≤3600192000∧m=jz v∧s=⟨25,[(1,.ptr 1 0 [] 35 0 0),(2,.ptr 2 0 [] 35 0 0)],uN v 1 2 [],1⟩) (jz v0) (cO.intro (aI.dm [] [1,2] _) ?_) ?_
 ·refine aC aX ?_;exact⟨v0,hv,hR,by omega,rfl,rfl⟩
 rintro m s ⟨v,hv,hR,lY,rfl,rfl⟩;have aX:=hv.hx;have m9:=VM v hv;rcases F4 (gS v) with hr|⟨i,l,hr⟩
 ·rw[SS hr]at hR;subst hR;rw[hr]at m9;have hz:¬(((0:Nat):Int)>0):=by decide
  refine aC aX ?_;refine aD.intro m9 ?_;exact dk hz aX
 obtain⟨x,b,Cg⟩:=PL hr;have CC:=EY hv hr;have x8:=VL v i x b hv Cg (by omega);have dQ:=hv.CM (n:=i) CC;have adm:=(hv.HT (n:=i) CC).len;have acz:=IT (w:=v) (i:=i) (by rw[hr];exact List.mem_cons_self ..);rw[SU hr]at hR;rw[hr]at m9;generalize kh v i=u at *;have cr:=dQ.hx;have hz:((l.length+1:Nat):Int)>0:=by omega
 have zP:(0:Int)<((l.length+1:Nat):Int):=by omega
 refine aC aX ?_;refine aD.intro m9 ?_;refine AX hz zP aX ?_;refine aD.intro m9 ?_;refine AX hz zP aX ?_;refine ff x8 aX cr ?_;refine fh.intro (jz u) (by omega) (aI.dm [] [1,2] _) ?_;refine aC cr ?_;exact⟨u,dQ,hR,by omega,rfl,rfl⟩
end
section
def aeE:bX:=⟨[],[9,10,11],[24,26,30,44,47,50,51,52,57,58,59,62,76,88,138,185,186,187,253,254,297,311],false⟩
attribute [-go_sem] ei
def iT {α:Type} (z:α) (l:List α) (i:Nat):List α:=List.replicate i z++l.drop i
theorem Dg {α:Type}{z:α}{l:List α}:iT z l l.length=l.map fun _=>z:=by
 unfold iT;rw[List.drop_length,List.append_nil];induction l with
 | nil=>rfl
 | cons a l ih=>rw[List.length_cons,List.replicate_succ,ih];rfl
theorem ru {α:Type}{z:α}{l:List α}{i:Nat}(h:i≤l.length):(iT z l i).length=l.length:=by
 unfold iT;rw[List.length_append,List.length_replicate,List.length_drop];omega
theorem Hb {α:Type}{z:α}{l:List α}{i:Nat}:(iT z l i)[i]?=l[i]?:=by
 unfold iT;rw[List.getElem?_append_right (by simp),List.length_replicate,Nat.sub_self,List.getElem?_drop,Nat.add_zero]
theorem Ha {α:Type}{z:α}{l:List α}{i:Nat}(h:i<l.length):(iT z l i).set i z=iT z l (i+1):=by
 unfold iT;rw[List.set_append,if_neg (by simp),List.length_replicate,Nat.sub_self,List.drop_eq_getElem_cons h,List.set_cons_zero,List.replicate_succ',List.append_assoc];rfl
def jN (w:ai) (i:Nat):ai:={w with stop:=true,up:=iT false w.up i,ak:=iT [] w.ak i}
theorem O2 {w:ai}{i:Nat}(h:i<w.ak.length):(jN w i).bx.set i []=(jN w (i+1)).bx:=by
 have:((iT [] w.ak i).map fun b=>b.map aB.cs).set i (([]:List aB).map aB.cs)=(iT [] w.ak (i+1)).map fun b=>b.map aB.cs:=by
  rw[←List.map_set,Ha h]
 exact this
theorem O1 {w:ai}{i:Nat}(h:i<w.up.length):((jN w i).up.map dq).set i [vB false]=(jN w (i+1)).up.map dq:=by
 rw[yX];show(List.map dq ((iT false w.up i).set i false))=_
 rw[Ha h];rfl
theorem Yu {w:ai}(h:w.wf):uY w={jN w w.up.length with bj:=[]}:=by
 have hl:w.ak.length=w.up.length:=by rw[h.nb,h.nu]
 unfold uY jN;simp only;rw[Dg,←hl,Dg]
theorem I0 {w:ai}(h:w.wf) {i:Nat}(hi:i≤w.up.length):(jN w i).wl:=
 ⟨h.so,h.nw,h.nc,by show(iT false w.up i).length=_;rw[ru hi];exact h.nu,by show(iT [] w.ak i).length=_;rw[ru (by rw[h.nb,←h.nu];exact hi)];exact h.nb⟩
theorem agS (w:ai) (h:w.wf):bb Tryz.prog 116 (eB w) [eA] (.ba []) (im (uY w)):=by
 refine aA aeE false Tryz.f116 ?_;conv=>enter[1];reduce
 refine qV Tryz.f116 32 [] (by kernel_rfl) (by decide +kernel) rfl rfl ?_;have hx:=h.hx;have hs:=d7 h.so;have ga:=h.nw;have jD:=h.nc;have lF:=h.nb;have oD:=h.nu;have hm:w.up.length≤maxLen:=by unfold maxLen;omega
 have e0:wS (jN w 0) 900000 1=wS {w with stop:=true} 900000 1:=rfl;refine aC hx ?_;refine iN (fun m s=>∃(i:Nat),i≤w.up.length∧m=w.up.length - i∧s=⟨32,[(0,eA),(10,vI w.up.length),(11,vI i)],wS (jN w i) 900000 1,1⟩) w.up.length (cO.intro (aI.dm [1000000] [0,10,11] _) ?_) ?_
 ·refine aC hx ?_;exact⟨0,aQ _,rfl,rfl⟩
 rintro m s ⟨i,hi,rfl,rfl⟩;have hv:=I0 h hi;rcases bm i w.up.length with ab|bH
 ·have ae:(i:Int)<(w.up.length:Int):=by omega
  have hw:=df ab hm;have nR:(jN w i).up.length=w.up.length:=ru hi;have qk:(jN w i).ak.length=w.ak.length:=ru (by omega);have dR:(jN w i).bx.length=w.ak.length:=by rw[de];exact qk
  have nT:i<w.ak.length:=by omega
  have zW:(i:Int)<(w.ak.length:Int):=by omega
  have hg:(jN w i).up[i]?=some w.up[i]:=by
   show(iT false w.up i)[i]?=_
   rw[Hb];exact bz ab
  have gp:(jN w i).bx[i]?=some ((w.ak[i]).map aB.cs):=by
   show((iT [] w.ak i).map fun b=>b.map aB.cs)[i]?=_
   rw[List.getElem?_map,Hb,bz nT];rfl
  have kt:=O1 ab;have Cm:=O2 nT;have dQ:=I0 h (i:=i+1) ab;have K8:(jN w (i+1)).up.length=w.up.length:=ru ab;have xW:(jN w (i+1)).ak.length=w.ak.length:=ru (by omega);have air:(jN w (i+1)).bx.length=w.ak.length:=by rw[de];exact xW
  have hz:jN w (i+1)={jN w i with up:=(jN w (i+1)).up,ak:=(jN w (i+1)).ak}:=rfl;have aX:=hv.hx;have cr:=dQ.hx;simp -implicitDefEqProofs only[go_sem,ae,hw,nR,qk,hg,gp,dR,nT,zW,aX,dq,kt];refine fh.step (aI.tA _ 900003) ?_;refine aC aX ?_;refine fh.step (aI.yo (B:=900100) (i:=i) (L:=[]) (by decide) rfl (by rw[dR];exact nT) (.nil) rfl (by repeat' first|exact trivial|refine And.intro (.inl rfl) ?_|refine And.intro (.inr ⟨_,rfl,rfl⟩) ?_)) ?_;refine aC Cm ?_;refine fh.intro (w.up.length - (i+1)) (by omega) (aI.dm [1000000] [0,10,11] _) ?_;refine cg cr Cm ?_;refine⟨i+1,ab,rfl,?_⟩;rw[K8,xW];rfl
 have hi:i=w.up.length:=by omega
 subst hi;have ae:¬((w.up.length:Int)<(w.up.length:Int)):=by omega
 rw[Yu h];generalize jN w w.up.length=v at *;have aX:=hv.hx;refine cg ae aX ?_;refine dK.step (aI.tr (r:=1000000) [ai.cells {v with bj:=[]} 900000 1] (by decide) rfl (.cons (by
  simp -implicitDefEqProofs only[go_sem]
  repeat' first
   | exact .nil
   | refine .cons mU ?_
   | refine .cons mV ?_) .nil)) ?_
 refine dK.intro (aI.refl _) ?_;refine aC aX ?_
 first|exact True.intro|rfl|exact⟨rfl,rfl⟩
end
section
def aeD:bX:=⟨[(106,.cm [true]),(108,.cm [false,false]),(109,.cm [true,false]),(110,.cm [false,false]),(111,.cm [false,false]),(112,.cm [true]),(113,.cm [true,false]),(115,.cm [true]),(116,.cm [true]),(117,.cm [true,false])],[9,10,11],[24,26,30,44,47,50,51,52,57,58,59,62,76,88,138,185,186,187,253,254,297,311],false⟩
attribute [-go_sem] ei
theorem Jd:∀(n:Nat) (w:ai),ke (n+1) w=pg (ke n w)
 | 0,w=>rfl
 | n+1,w=>Jd n (pg w)
theorem TX (w:ai) (k:Int):zI w k={w with bj:=sg w.room w.bj k}:=by
 unfold zI sg;split
 ·rename_i x e;rw[e];simp only;unfold lW;split<;>rfl
 rename_i e;rw[e]
theorem RP {w:ai}(h:w.wf) (t:ByteArray):B6 w.log t=u7 w.log t:=by
 unfold B6 u7;rw[if_pos h.lg]
theorem drop_eq (w:ai) (k:Int):({w with bj:=if w.bj=[] then [] else w.bj.eraseIdx (eE k w.bj.length)}:ai)={w with bj:=w.bj.eraseIdx (eE k w.bj.length)}:=by
 split
 ·rename_i h;rw[h];rfl
 rfl
theorem PK {w:ai}(k:Int) (h:0<(gS w).length):∃n,(gS w)[eE k (gS w).length]?=some n∧n∈gS w:=by
 have hm:=tH k h;exact⟨_,bz hm,List.getElem_mem hm⟩
theorem aft (w:ai) (x:aJ) (h:w.wf) (aF:fW x=true) (aE:w.stop=false) (hb:w.book.length≤3500000000):bb Tryz.prog 76 (eB w) [eA,.agg x.aO] (.ba []) (im (fF w x)):=by
 refine aA aeD false Tryz.f76 ?_;conv=>enter[1];reduce
 refine bT Tryz.f76 106 [] (by kernel_rfl) (by decide +kernel) rfl ?_;have hx:=h.hx;have hs:=d7 h.so;have ga:=h.nw;have jD:=h.nc;have lF:=h.nb;have oD:=h.nu;have hr:=h.step aF;have bw:=hr.hx;unfold fF at hr bw ⊢;rw[if_neg (by rw[aE];decide)]at hr bw ⊢;obtain⟨kd,nd,ar,tx⟩:=x;have xX:kd=1∨kd=3∨kd=4∨kd=5∨kd=6∨kd=12∨kd=13∨(kd≠1∧kd≠3∧kd≠4∧kd≠5∧kd≠6∧kd≠12∧kd≠13):=by omega
 simp only at hr bw ⊢;rcases xX with rfl|rfl|rfl|rfl|rfl|rfl|rfl|bO
 ·have y1:((1:Int)==1)=true:=rfl;have y3:((1:Int)==3)=false:=rfl;have y4:((1:Int)==4)=false:=rfl;have y5:((1:Int)==5)=false:=rfl;have y6:((1:Int)==6)=false:=rfl;have dN:((1:Int)==12)=false:=rfl;have dF:((1:Int)==13)=false:=rfl;rw[if_pos rfl]at hr bw ⊢;have hu:0<w.up.length:=by omega
  have cM:(0:Int)<(w.up.length:Int):=by omega
  have cC:w.up[0]?=some (w.up.getD 0 false):=by rw[List.getD_eq_getElem?_getD,bz hu];rfl
  rcases Bool.eq_false_or_eq_true (w.up.getD 0 false) with bJ|bJ
  ·rw[if_pos bJ]at hr bw ⊢;rw[bJ]at cC;obtain⟨b,gK⟩:=agV w.log tx h.lg;rw[RP h]at hr bw ⊢;generalize u7 w.log tx=L at *;refine iW hx y1 y3 y4 y5 y6 dN dF hu cM cC ?_;refine aD.intro gK ?_;simp -implicitDefEqProofs only[go_sem,hx,y1,y3,y4,y5,y6,dN,dF,bc];try rfl
  rw[if_neg (by rw[bJ];decide)]at hr bw ⊢;rw[bJ]at cC;exact uD hx y1 y3 y4 y5 y6 dN dF hu cM cC
 ·have y1:((3:Int)==1)=false:=rfl;have y3:((3:Int)==3)=true:=rfl;have y4:((3:Int)==4)=false:=rfl;have y5:((3:Int)==5)=false:=rfl;have y6:((3:Int)==6)=false:=rfl;have dN:((3:Int)==12)=false:=rfl;have dF:((3:Int)==13)=false:=rfl;rw[if_neg (by decide),if_pos rfl]at hr bw ⊢;have dT:=VR w ar h;generalize kq w ar=Z at *;refine tp hx y1 y3 y4 y5 y6 dN dF ?_;refine aD.intro dT ?_;exact dk hx bw
 ·have y1:((4:Int)==1)=false:=rfl;have y3:((4:Int)==3)=false:=rfl;have y4:((4:Int)==4)=true:=rfl;have y5:((4:Int)==5)=false:=rfl;have y6:((4:Int)==6)=false:=rfl;have dN:((4:Int)==12)=false:=rfl;have dF:((4:Int)==13)=false:=rfl;rw[if_neg (by decide),if_neg (by decide),if_pos rfl]at hr bw ⊢;rw[drop_eq]at hr bw ⊢;by_cases kV:w.bj=[]
  ·have dT:=Ob (kV▸h.qE) ar;rw[kV,List.eraseIdx_nil]at hr bw ⊢;simp -implicitDefEqProofs only[go_sem,hx,y1,y3,y4,y5,y6,dN,dF,bc,kV];refine aD.intro dT ?_;simp -implicitDefEqProofs only[go_sem,hx];try rfl
  have gZ:0<w.bj.length:=List.length_pos_iff.2 kV;have dT:=VQ h.qE ar (bz (tH ar gZ));generalize w.bj.eraseIdx (eE ar w.bj.length)=b at *;refine tp hx y1 y3 y4 y5 y6 dN dF ?_;refine aD.intro dT ?_;simp -implicitDefEqProofs only[go_sem,hx];try rfl
 ·have y1:((5:Int)==1)=false:=rfl;have y3:((5:Int)==3)=false:=rfl;have y4:((5:Int)==4)=false:=rfl;have y5:((5:Int)==5)=true:=rfl;have y6:((5:Int)==6)=false:=rfl;have dN:((5:Int)==12)=false:=rfl;have dF:((5:Int)==13)=false:=rfl;rw[if_neg (by decide),if_neg (by decide),if_neg (by decide),if_pos rfl]at hr bw ⊢;obtain⟨b,dT⟩:=agU h.qE ar;rw[TX]at hr bw ⊢;generalize sg w.room w.bj ar=B at *;refine tp hx y1 y3 y4 y5 y6 dN dF ?_;refine aD.intro dT ?_;simp -implicitDefEqProofs only[go_sem,hx];try rfl
 ·have y1:((6:Int)==1)=false:=rfl;have y3:((6:Int)==3)=false:=rfl;have y4:((6:Int)==4)=false:=rfl;have y5:((6:Int)==5)=false:=rfl;have y6:((6:Int)==6)=true:=rfl;have dN:((6:Int)==12)=false:=rfl;have dF:((6:Int)==13)=false:=rfl;rw[if_neg (by decide),if_neg (by decide),if_neg (by decide),if_neg (by decide),if_pos rfl]at hr bw ⊢;have pA:=Nk w h;rcases Nat.eq_zero_or_pos (gS w).length with hl|hl
  ·have t0:=List.eq_nil_of_length_eq_zero hl;rw[t0]at hr bw pA ⊢;have hz:¬(((0:Nat):Int)>0):=by decide
   refine tp hx y1 y3 y4 y5 y6 dN dF ?_;refine aD.intro pA ?_;exact dk hx hz
  obtain⟨n,hn,oG⟩:=PK ar hl;obtain⟨ab,-,y,b,KJ⟩:=EZ oG;have hle:(gS w).length≤1000:=by rw[←E6];have:=E5 w w.up.length;omega
  have K4:=Nj ar (gS w).length hl hle;have sA:=tH ar hl;rw[hn]at hr bw ⊢;simp only at hr bw ⊢;have dT:=VP w n y b h KJ (by omega);generalize kh w n=Z at *;generalize gS w=L at *;generalize eE ar L.length=j at *;have hz:(L.length:Int)>0:=by omega
  have hj:(j:Int)<(L.length:Int):=by omega
  refine tp hx y1 y3 y4 y5 y6 dN dF ?_;refine ff pA hx hz ?_;refine aq.intro K4 ?_;refine AX hx hj hn ?_;refine aD.intro dT ?_;exact dk hx bw
 ·have y1:((12:Int)==1)=false:=rfl;have y3:((12:Int)==3)=false:=rfl;have y4:((12:Int)==4)=false:=rfl;have y5:((12:Int)==5)=false:=rfl;have y6:((12:Int)==6)=false:=rfl;have dN:((12:Int)==12)=true:=rfl;have dF:((12:Int)==13)=false:=rfl;rw[if_neg (by decide),if_neg (by decide),if_neg (by decide),if_neg (by decide),if_neg (by decide),if_pos rfl]at hr bw ⊢;have Gv:(min ar 16)≤16:=by omega
  refine tp hx y1 y3 y4 y5 y6 dN dF ?_;refine iN (fun m s=>∃(i:Nat),i≤(min ar 16).toNat∧m=(min ar 16).toNat - i∧s=⟨106,[(0,eA),(5,vI (min ar 16 - (i:Int)))],wS (ke i w) 900000 1,1⟩) (min ar 16).toNat (cO.intro (aI.dm [1000000] [0,5] _) ?_) ?_
  ·refine aC hx ?_;refine⟨0,aQ _,rfl,?_⟩;rw[show min ar 16 - ((0:Nat):Int)=min ar 16 by omega];try rfl
  generalize hA:min ar 16=A at *;rintro m s ⟨i,hi,rfl,rfl⟩;have hv:=h.zh i;rcases bm i A.toNat with ab|bH
  ·have ae:A - (i:Int)>0:=by omega
   have hw:IntKind.i64.wrap (A - (i:Int) - 1)=A - ((i+1:Nat):Int):=by rw[aV (by omega)];omega
   have gq:=(h.HS i).len;have hd:=agT (ke i w) hv (by omega);rw[←Jd]at hd;have dQ:=h.zh (i+1);generalize hU:ke (i+1) w=u at *;generalize ke i w=v at *;have aX:=hv.hx;have cr:=dQ.hx;refine cg ae aX ?_;refine mb hd hw aX cr ?_;refine fh.intro (A.toNat - (i+1)) (by omega) (aI.dm [1000000] [0,5] _) ?_;refine aC cr ?_;refine⟨i+1,ab,rfl,?_⟩;subst hU;rfl
  have hi:i=A.toNat:=by omega
  subst hi;have ae:¬(A - (A.toNat:Int)>0):=by omega
  have aX:=hv.hx;generalize ke A.toNat w=v at *;exact dk ae aX
 ·have y1:((13:Int)==1)=false:=rfl;have y3:((13:Int)==3)=false:=rfl;have y4:((13:Int)==4)=false:=rfl;have y5:((13:Int)==5)=false:=rfl;have y6:((13:Int)==6)=false:=rfl;have dN:((13:Int)==12)=false:=rfl;have dF:((13:Int)==13)=true:=rfl;rw[if_neg (by decide),if_neg (by decide),if_neg (by decide),if_neg (by decide),if_neg (by decide),if_neg (by decide),if_pos rfl]at hr bw ⊢;have dT:=agS w h;generalize uY w=Z at *;refine tp hx y1 y3 y4 y5 y6 dN dF ?_;refine aD.intro dT ?_;exact dk hx bw
 obtain⟨n1,n3,n4,n5,n6,BX,BW⟩:=bO;have y1:(kd==1)=false:=beq_eq_false_iff_ne.2 n1;have y3:(kd==3)=false:=beq_eq_false_iff_ne.2 n3;have y4:(kd==4)=false:=beq_eq_false_iff_ne.2 n4;have y5:(kd==5)=false:=beq_eq_false_iff_ne.2 n5;have y6:(kd==6)=false:=beq_eq_false_iff_ne.2 n6;have dN:(kd==12)=false:=beq_eq_false_iff_ne.2 BX;have dF:(kd==13)=false:=beq_eq_false_iff_ne.2 BW;rw[if_neg n1,if_neg n3,if_neg n4,if_neg n5,if_neg n6,if_neg BX,if_neg BW]at hr bw ⊢;have gK:=tQ h.so h.dH h.last;have vm:0≤nd∧nd≤20:=by
  have Ct:=aF;simp only[fW,Bool.and_eq_true,cf]at Ct;omega
 by_cases hle:nd≤((w.ah.length+w.cls.length+1:Nat):Int)
 ·rw[if_pos hle]at hr bw ⊢;have dT:=agR w ⟨kd,nd,ar,tx⟩ nd.toNat h (by show nd=_;omega) (by omega) aF (by omega);generalize oA w ⟨kd,nd,ar,tx⟩ nd.toNat=Z at *;refine tp hx y1 y3 y4 y5 y6 dN dF ?_;refine ff gK hx hle ?_;refine aD.intro dT ?_;exact dk hx bw
 rw[if_neg hle]at hr bw ⊢;refine tp hx y1 y3 y4 y5 y6 dN dF ?_;refine aD.intro gK ?_;exact dk hx hle
end
end Go.Proofs.YtobpfkgabdeefaaGreat.E
