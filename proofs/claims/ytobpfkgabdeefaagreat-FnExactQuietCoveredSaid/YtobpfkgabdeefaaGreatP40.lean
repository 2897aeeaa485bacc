/- Contracts: a step, in the reference. -/
import Derived.Test.YtobpfkgabdeefaaGreatP39
namespace Go.Proofs.YtobpfkgabdeefaaGreat.E
open Go Go.RowKit
set_option maxHeartbeats 4000000
set_option maxRecDepth 10000
set_option linter.unusedSimpArgs false
set_option linter.unusedVariables false
set_option linter.unusedSectionVars false
def Ua:bX:=⟨[(130,.cm [false,false]),(131,.cm [true,false]),(132,.cm [false,false]),(133,.cm [false,false]),(134,.cm [true]),(135,.cm [true,false]),(138,.cm [true]),(139,.cm [true,false])],[9,10,11],[24,26,30,44,47,50,51,52,57,58,59,62,76,88,138,185,186,187,253,254,297,311],false⟩
attribute [-go_sem] ei
theorem ag3 (w:ai) (L:List ByteArray):ai.bx {w with log:=L}=w.bx:=rfl
theorem ag2 (w:ai) (L:List ByteArray) (b:Bool):ai.bx {w with log:=L,stop:=b}=w.bx:=rfl
theorem ag4 (w:ai) (B:List aB) (b:Bool):ai.bx {w with bj:=B,stop:=b}=w.bx:=rfl
theorem ag0 (w:ai) (b:Bool):ai.bx {w with stop:=b}=w.bx:=rfl
attribute [go_sem] ag3 ag2 ag4 ag0
theorem Ys (w:ai) (n:Nat) (x:aB):(fI w n x).stop=w.stop:=by
 unfold fI;split
 ·split
  ·exact(Da w _).stop
  rfl
 split
 ·exact(jG _ _ _).stop.trans ((sK _ _).stop.trans ((sL _ _ _).stop.trans (nh _ _ _).stop))
 split
 ·exact(jG _ _ _).stop.trans ((ju _ _ _ _).stop.trans (sK _ _).stop)
 exact(jG _ _ _).stop.trans ((ju _ _ _ _).stop.trans ((ju _ _ _ _).stop.trans (sK _ _).stop))
theorem Yt (w:ai) (n:Nat):(kh w n).stop=w.stop:=by
 unfold kh;rw[Ys];unfold jW;split<;>rfl
theorem OZ:∀(n:Nat) (w:ai),(kj n w).stop=w.stop
 | 0,w=>rfl
 | n+1,w=>by
  unfold kj;split
  ·rfl
  rw[OZ n,Yt]
theorem Yv (w:ai) (k:Int):(kq w k).stop=w.stop:=by
 unfold kq;split
 ·simp only;split<;>rfl
 rfl
theorem O0:∀(n:Nat) (w:ai),(jb n w).stop=w.stop
 | 0,w=>rfl
 | n+1,w=>(O0 n _).trans (Yv w 0)
theorem Yr (w:ai):(pg w).stop=w.stop:=by
 unfold pg;rw[OZ,O0]
theorem OY:∀(n:Nat) (w:ai),(ke n w).stop=w.stop
 | 0,w=>rfl
 | n+1,w=>(OY n _).trans (Yr w)
theorem aaL {w:ai}{x:aJ}{n:Nat}(h:x.kind≠2∧x.kind≠7∧x.kind≠8∧x.kind≠9∧x.kind≠10∧x.kind≠11):oA w x n=w:=by
 obtain⟨a,b,c,d,e,f⟩:=h;unfold oA;rw[if_neg (fun h=>a h.1),if_neg (fun h=>b h.1),if_neg (fun h=>c h.1),if_neg (fun h=>d h.1),if_neg (fun h=>e h.1),if_neg f]
theorem agJ (n:Int):aR Tryz.prog 137 [vI n] (vI ((min n 16).toNat:Int)) []:=by
 refine aA Ua false Tryz.f137 ?_;conv=>enter[1];reduce
 refine bf Tryz.f137 8 [.tmp 2] (by kernel_rfl) (by decide +kernel) rfl ?_;by_cases h1:n<0
 ·rw[show((min n 16).toNat:Int)=0 by omega];exact er h1
 by_cases h2:n>16
 ·rw[show((min n 16).toNat:Int)=16 by omega];exact dk h1 h2
 rw[show((min n 16).toNat:Int)=n by omega];exact dk h1 h2
def kJ (w:ai) (i:Nat):ai:={w with stop:=true,room:=w.set.room,bj:=[],up:=iT false w.up i,ak:=iT [] w.ak i}
theorem Yy {w:ai}{i:Nat}(h:i<w.ak.length):(kJ w i).bx.set i []=(kJ w (i+1)).bx:=O2 h
theorem Yw {w:ai}{i:Nat}(h:i<w.up.length):((kJ w i).up.map dq).set i [vB false]=(kJ w (i+1)).up.map dq:=O1 h
theorem I1 {w:ai}(h:w.wf) {i:Nat}(hi:i≤w.up.length):(kJ w i).wl:=by
 have k:=I0 h hi;exact⟨k.so,k.nw,k.nc,k.nu,k.nb⟩
theorem Yx {w:ai}(h:w.wf):uY w=kJ w w.up.length:=by
 have hl:w.ak.length=w.up.length:=by rw[h.nb,h.nu]
 unfold uY kJ;rw[Dg,←hl,Dg,←h.rm]
theorem adf (w:ai) (n:Nat) (x:aB):(fI w n x).set=w.set:=by
 unfold fI;split
 ·split
  ·exact(Da w _).set
  rfl
 split
 ·exact(jG _ _ _).set.trans ((sK _ _).set.trans ((sL _ _ _).set.trans (nh _ _ _).set))
 split
 ·exact(jG _ _ _).set.trans ((ju _ _ _ _).set.trans (sK _ _).set)
 exact(jG _ _ _).set.trans ((ju _ _ _ _).set.trans ((ju _ _ _ _).set.trans (sK _ _).set))
theorem SR:∀(n:Nat) (w:ai),(kj n w).set=w.set
 | 0,w=>rfl
 | n+1,w=>by
  unfold kj;split
  ·rfl
  rw[SR n];unfold kh;rw[adf,(De w _).1]
theorem aes (w:ai) (k:Int):(kq w k).set=w.set:=by
 unfold kq;split
 ·simp only;split<;>rfl
 rfl
theorem T1:∀(n:Nat) (w:ai),(jb n w).set=w.set
 | 0,w=>rfl
 | n+1,w=>(T1 n _).trans (aes w 0)
theorem Pz:∀(n:Nat) (w:ai),(ke n w).set=w.set
 | 0,w=>rfl
 | n+1,w=>(Pz n _).trans (by unfold pg;rw[SR,T1])
theorem wC {v:ai}{x:aJ}(h:v.wf) (aF:fW x=true) (ab:x.node.toNat<v.ak.length) (hb:v.book.length≤3700000000) (hk:x.kind≠2∧x.kind≠7∧x.kind≠8∧x.kind≠9∧x.kind≠10∧x.kind≠11):bb Tryz.prog 139 (gm v) [vA v 1000000,.agg x.aO] (vA v 0) (eJ v):=by
 have vm:0≤x.node∧x.node≤20:=by
  simp only[fW,Bool.and_eq_true,cf]at aF;omega
 have e:=VK v x x.node.toNat h (by omega) ab aF hb;rw[aaL hk]at e;exact e
theorem afp (w:ai) (x:aJ) (h:w.wf) (aF:fW x=true) (aE:w.stop=false) (hb:w.book.length≤3500000000):bb Tryz.prog 80 (gm w) [vA w 1000000,.agg x.aO] (vA (fF w x) 0) (eJ (fF w x)):=by
 refine aA Ua false Tryz.f80 ?_;conv=>enter[1];reduce
 refine bT Tryz.f80 141 [.cell 4 64] (by kernel_rfl) (by decide +kernel) rfl ?_;have hx:=h.hx;have hs:=d7 h.so;have ga:=h.nw;have jD:=h.nc;have lF:=h.nb;have oD:=h.nu;have hr:=h.step aF;have bw:=hr.hx;unfold fF at hr bw ⊢;rw[if_neg (by rw[aE];decide)]at hr bw ⊢;obtain⟨kd,nd,ar,tx⟩:=x;have vm:0≤nd∧nd≤20:=by
  have Ct:=aF;simp only[fW,Bool.and_eq_true,cf]at Ct;omega
 have xX:kd=1∨kd=3∨kd=4∨kd=5∨kd=6∨kd=12∨kd=13∨(kd≠1∧kd≠3∧kd≠4∧kd≠5∧kd≠6∧kd≠12∧kd≠13):=by omega
 simp only at hr bw ⊢;rcases xX with rfl|rfl|rfl|rfl|rfl|rfl|rfl|bO
 ·have y1:((1:Int)==1)=true:=rfl;have y3:((1:Int)==3)=false:=rfl;have y4:((1:Int)==4)=false:=rfl;have y5:((1:Int)==5)=false:=rfl;have y6:((1:Int)==6)=false:=rfl;have dN:((1:Int)==12)=false:=rfl;have dF:((1:Int)==13)=false:=rfl;rw[if_pos rfl]at hr bw ⊢;have hu:0<w.up.length:=by omega
  have cM:(0:Int)<(w.up.length:Int):=by omega
  have cC:w.up[0]?=some (w.up.getD 0 false):=by rw[List.getD_eq_getElem?_getD,bz hu];rfl
  rcases Bool.eq_false_or_eq_true (w.up.getD 0 false) with bJ|bJ
  ·rw[if_pos bJ]at hr bw ⊢;rw[bJ]at cC;obtain⟨b,gK⟩:=agL w.log tx h.lg;rw[RP h]at hr bw ⊢;generalize u7 w.log tx=L at *;by_cases ab:nd<(w.up.length:Int)
   ·have ht:=wC (v:={w with log:=L}) (x:=⟨1,nd,ar,tx⟩) hr aF (by show nd.toNat<w.ak.length;omega) (by show w.book.length≤3700000000;omega) ⟨by show(1:Int)≠2;decide,by show(1:Int)≠7;decide,by show(1:Int)≠8;decide,by show(1:Int)≠9;decide,by show(1:Int)≠10;decide,by show(1:Int)≠11;decide⟩;simp -implicitDefEqProofs only[go_sem,hx,y1,y3,y4,y5,y6,dN,dF,aE,bc,ab,hu,cM,cC,dq];refine aD.intro gK ?_;refine uC hx y1 y3 y4 y5 y6 dN dF aE ab ?_;refine aD.intro (res:=vA ({w with log:=L}:ai) 0) (σout:=eJ ({w with log:=L}:ai)) (by simp -implicitDefEqProofs only[go_sem,aE]at ht ⊢;exact ht) ?_;refine ez hx bw aE ?_
    first|exact True.intro|rfl|exact⟨rfl,rfl⟩
    all_goals first|done|rfl|exact⟨rfl,rfl⟩
   simp -implicitDefEqProofs only[go_sem,hx,y1,y3,y4,y5,y6,dN,dF,aE,bc,ab,bw,hu,cM,cC,dq];refine aD.intro gK ?_;simp -implicitDefEqProofs only[go_sem,hx,y1,y3,y4,y5,y6,dN,dF,aE,bc,ab,bw];all_goals first|done|rfl|exact⟨rfl,rfl⟩
  rw[if_neg (by rw[bJ];decide)]at hr bw ⊢;rw[bJ]at cC;by_cases ab:nd<(w.up.length:Int)
  ·have ht:=wC (v:=w) (x:=⟨1,nd,ar,tx⟩) h aF (by show nd.toNat<w.ak.length;omega) (by omega) ⟨by show(1:Int)≠2;decide,by show(1:Int)≠7;decide,by show(1:Int)≠8;decide,by show(1:Int)≠9;decide,by show(1:Int)≠10;decide,by show(1:Int)≠11;decide⟩;simp -implicitDefEqProofs only[go_sem,hx,y1,y3,y4,y5,y6,dN,dF,aE,bc,ab,hu,cM,cC,dq];refine aD.intro (res:=vA w 0) (σout:=eJ w) (by simp -implicitDefEqProofs only[go_sem,aE]at ht ⊢;exact ht) ?_;refine ez hx bw aE ?_
   first|exact True.intro|rfl|exact⟨rfl,rfl⟩
   all_goals first|done|rfl|exact⟨rfl,rfl⟩
  simp -implicitDefEqProofs only[go_sem,hx,y1,y3,y4,y5,y6,dN,dF,aE,bc,ab,bw,hu,cM,cC,dq];all_goals first|done|rfl|exact⟨rfl,rfl⟩
 ·have y1:((3:Int)==1)=false:=rfl;have y3:((3:Int)==3)=true:=rfl;have y4:((3:Int)==4)=false:=rfl;have y5:((3:Int)==5)=false:=rfl;have y6:((3:Int)==6)=false:=rfl;have dN:((3:Int)==12)=false:=rfl;have dF:((3:Int)==13)=false:=rfl;rw[if_neg (by decide),if_pos rfl]at hr bw ⊢;have dT:=VO w ar h;generalize kq w ar=Z at *;simp -implicitDefEqProofs only[go_sem,hx,y1,y3,y4,y5,y6,dN,dF,aE,bc];refine aD.intro (res:=vA Z 0) (σout:=eJ Z) (by simp -implicitDefEqProofs only[go_sem,aE]at dT ⊢;exact dT) ?_;exact dk hx bw
 ·have y1:((4:Int)==1)=false:=rfl;have y3:((4:Int)==3)=false:=rfl;have y4:((4:Int)==4)=true:=rfl;have y5:((4:Int)==5)=false:=rfl;have y6:((4:Int)==6)=false:=rfl;have dN:((4:Int)==12)=false:=rfl;have dF:((4:Int)==13)=false:=rfl;rw[if_neg (by decide),if_neg (by decide),if_pos rfl]at hr bw ⊢;rw[drop_eq]at hr bw ⊢;by_cases kV:w.bj=[]
  ·have dT:=Oa (kV▸h.qE) ar;rw[kV,List.eraseIdx_nil]at hr bw ⊢;by_cases ab:nd<(w.up.length:Int)
   ·have ht:=wC (v:={w with bj:=[]}) (x:=⟨4,nd,ar,tx⟩) hr aF (by show nd.toNat<w.ak.length;omega) (by show w.book.length≤3700000000;omega) ⟨by show(4:Int)≠2;decide,by show(4:Int)≠7;decide,by show(4:Int)≠8;decide,by show(4:Int)≠9;decide,by show(4:Int)≠10;decide,by show(4:Int)≠11;decide⟩;simp -implicitDefEqProofs only[go_sem,hx,y1,y3,y4,y5,y6,dN,dF,aE,bc,ab,kV];refine aD.intro dT ?_;refine uC hx y1 y3 y4 y5 y6 dN dF aE ab ?_;refine aD.intro (res:=vA ({w with bj:=[]}:ai) 0) (σout:=eJ ({w with bj:=[]}:ai)) (by simp -implicitDefEqProofs only[go_sem,aE]at ht ⊢;exact ht) ?_;refine ez hx bw aE ?_
    first|exact True.intro|rfl|exact⟨rfl,rfl⟩
    all_goals first|done|rfl|exact⟨rfl,rfl⟩
   simp -implicitDefEqProofs only[go_sem,hx,y1,y3,y4,y5,y6,dN,dF,aE,bc,ab,bw,kV];refine aD.intro dT ?_;simp -implicitDefEqProofs only[go_sem,hx,y1,y3,y4,y5,y6,dN,dF,aE,bc,ab,bw];all_goals first|done|rfl|exact⟨rfl,rfl⟩
  have gZ:0<w.bj.length:=List.length_pos_iff.2 kV;have dT:=VN h.qE ar (bz (tH ar gZ));generalize w.bj.eraseIdx (eE ar w.bj.length)=b at *;by_cases ab:nd<(w.up.length:Int)
  ·have ht:=wC (v:={w with bj:=b}) (x:=⟨4,nd,ar,tx⟩) hr aF (by show nd.toNat<w.ak.length;omega) (by show w.book.length≤3700000000;omega) ⟨by show(4:Int)≠2;decide,by show(4:Int)≠7;decide,by show(4:Int)≠8;decide,by show(4:Int)≠9;decide,by show(4:Int)≠10;decide,by show(4:Int)≠11;decide⟩;refine uC hx y1 y3 y4 y5 y6 dN dF aE ab ?_;refine aD.intro dT ?_;refine uC hx y1 y3 y4 y5 y6 dN dF aE ab ?_;refine aD.intro (res:=vA ({w with bj:=b}:ai) 0) (σout:=eJ ({w with bj:=b}:ai)) (by simp -implicitDefEqProofs only[go_sem,aE]at ht ⊢;exact ht) ?_;refine ez hx bw aE ?_
   first|exact True.intro|rfl|exact⟨rfl,rfl⟩
   all_goals first|done|rfl|exact⟨rfl,rfl⟩
  simp -implicitDefEqProofs only[go_sem,hx,y1,y3,y4,y5,y6,dN,dF,aE,bc,ab,bw];refine aD.intro dT ?_;simp -implicitDefEqProofs only[go_sem,hx,y1,y3,y4,y5,y6,dN,dF,aE,bc,ab,bw];all_goals first|done|rfl|exact⟨rfl,rfl⟩
 ·have y1:((5:Int)==1)=false:=rfl;have y3:((5:Int)==3)=false:=rfl;have y4:((5:Int)==4)=false:=rfl;have y5:((5:Int)==5)=true:=rfl;have y6:((5:Int)==6)=false:=rfl;have dN:((5:Int)==12)=false:=rfl;have dF:((5:Int)==13)=false:=rfl;rw[if_neg (by decide),if_neg (by decide),if_neg (by decide),if_pos rfl]at hr bw ⊢;obtain⟨b,dT⟩:=agK h.qE ar;rw[TX]at hr bw ⊢;generalize sg w.room w.bj ar=B at *;by_cases ab:nd<(w.up.length:Int)
  ·have ht:=wC (v:={w with bj:=B}) (x:=⟨5,nd,ar,tx⟩) hr aF (by show nd.toNat<w.ak.length;omega) (by show w.book.length≤3700000000;omega) ⟨by show(5:Int)≠2;decide,by show(5:Int)≠7;decide,by show(5:Int)≠8;decide,by show(5:Int)≠9;decide,by show(5:Int)≠10;decide,by show(5:Int)≠11;decide⟩;refine uC hx y1 y3 y4 y5 y6 dN dF aE ab ?_;refine aD.intro dT ?_;refine uC hx y1 y3 y4 y5 y6 dN dF aE ab ?_;refine aD.intro (res:=vA ({w with bj:=B}:ai) 0) (σout:=eJ ({w with bj:=B}:ai)) (by simp -implicitDefEqProofs only[go_sem,aE]at ht ⊢;exact ht) ?_;refine ez hx bw aE ?_
   first|exact True.intro|rfl|exact⟨rfl,rfl⟩
   all_goals first|done|rfl|exact⟨rfl,rfl⟩
  simp -implicitDefEqProofs only[go_sem,hx,y1,y3,y4,y5,y6,dN,dF,aE,bc,ab,bw];refine aD.intro dT ?_;simp -implicitDefEqProofs only[go_sem,hx,y1,y3,y4,y5,y6,dN,dF,aE,bc,ab,bw];all_goals first|done|rfl|exact⟨rfl,rfl⟩
 ·have y1:((6:Int)==1)=false:=rfl;have y3:((6:Int)==3)=false:=rfl;have y4:((6:Int)==4)=false:=rfl;have y5:((6:Int)==5)=false:=rfl;have y6:((6:Int)==6)=true:=rfl;have dN:((6:Int)==12)=false:=rfl;have dF:((6:Int)==13)=false:=rfl;rw[if_neg (by decide),if_neg (by decide),if_neg (by decide),if_neg (by decide),if_pos rfl]at hr bw ⊢;have pA:=VM w h;rcases Nat.eq_zero_or_pos (gS w).length with hl|hl
  ·have t0:=List.eq_nil_of_length_eq_zero hl;rw[t0]at hr bw pA ⊢;have hz:¬(((0:Nat):Int)>0):=by decide
   by_cases ab:nd<(w.up.length:Int)
   ·have ht:=wC (v:=w) (x:=⟨6,nd,ar,tx⟩) h aF (by show nd.toNat<w.ak.length;omega) (by omega) ⟨by show(6:Int)≠2;decide,by show(6:Int)≠7;decide,by show(6:Int)≠8;decide,by show(6:Int)≠9;decide,by show(6:Int)≠10;decide,by show(6:Int)≠11;decide⟩;refine uC hx y1 y3 y4 y5 y6 dN dF aE ab ?_;refine aD.intro (res:=.ro 1 (([]:List Nat).map oq)) (σout:=gm w) (by simp -implicitDefEqProofs only[go_sem,aE]at pA ⊢;exact pA) ?_;simp -implicitDefEqProofs only[go_sem,hx,y1,y3,y4,y5,y6,dN,dF,aE,bc,ab,hz];refine aD.intro (res:=vA w 0) (σout:=eJ w) (by simp -implicitDefEqProofs only[go_sem,aE]at ht ⊢;exact ht) ?_;refine ez hx bw aE ?_
    first|exact True.intro|rfl|exact⟨rfl,rfl⟩
    all_goals first|done|rfl|exact⟨rfl,rfl⟩
   simp -implicitDefEqProofs only[go_sem,hx,y1,y3,y4,y5,y6,dN,dF,aE,bc,ab,bw];refine aD.intro (res:=.ro 1 (([]:List Nat).map oq)) (σout:=gm w) (by simp -implicitDefEqProofs only[go_sem,aE]at pA ⊢;exact pA) ?_;simp -implicitDefEqProofs only[go_sem,hx,y1,y3,y4,y5,y6,dN,dF,aE,bc,ab,bw,hz];all_goals first|done|rfl|exact⟨rfl,rfl⟩
  obtain⟨n,hn,oG⟩:=PK ar hl;obtain⟨ab,-,y,b,KJ⟩:=EZ oG;have hle:(gS w).length≤1000:=by rw[←E6];have:=E5 w w.up.length;omega
  have K4:=Ni ar (gS w).length hl hle;have sA:=tH ar hl;rw[hn]at hr bw ⊢;simp only at hr bw ⊢;have dT:=VL w n y b h KJ (by omega);generalize kh w n=Z at *;generalize gS w=L at *;generalize eE ar L.length=j at *;have hz:(L.length:Int)>0:=by omega
  have hj:(j:Int)<(L.length:Int):=by omega
  simp -implicitDefEqProofs only[go_sem,hx,y1,y3,y4,y5,y6,dN,dF,aE,bc];refine aD.intro (res:=.ro 1 (L.map oq)) (σout:=gm w) (by simp -implicitDefEqProofs only[go_sem,aE]at pA ⊢;exact pA) ?_;refine cg hx hz ?_;refine aq.intro K4 ?_;refine AX hx hj hn ?_;refine aD.intro (res:=vA Z 0) (σout:=eJ Z) (by simp -implicitDefEqProofs only[go_sem,aE]at dT ⊢;exact dT) ?_;exact dk hx bw
 ·have y1:((12:Int)==1)=false:=rfl;have y3:((12:Int)==3)=false:=rfl;have y4:((12:Int)==4)=false:=rfl;have y5:((12:Int)==5)=false:=rfl;have y6:((12:Int)==6)=false:=rfl;have dN:((12:Int)==12)=true:=rfl;have dF:((12:Int)==13)=false:=rfl;rw[if_neg (by decide),if_neg (by decide),if_neg (by decide),if_neg (by decide),if_neg (by decide),if_pos rfl]at hr bw ⊢;have Gv:(min ar 16)≤16:=by omega
  have pv:=agJ ar;simp -implicitDefEqProofs only[go_sem,hx,y1,y3,y4,y5,y6,dN,dF,aE,bc];refine jm pv hx ?_;refine iN (fun m s=>∃(i:Nat),i≤(min ar 16).toNat∧m=(min ar 16).toNat - i∧s=⟨141,[(2,.ptr 2 0 [] 35 0 0),(3,.ptr 3 0 [] 4 0 0),(4,.ptr 4 0 [] 35 0 0),(13,vI (((min ar 16).toNat - i:Nat):Int))],(2,0,one ⟨35,[(ke i w).cells 10002 10000],0,false⟩)::(ke i w).rows 10002 10000++[(3,0,one ⟨4,[aJ.aO ⟨12,nd,ar,tx⟩],0,false⟩),(4,0,one ⟨35,[jL],0,false⟩)],1⟩) (min ar 16).toNat (cO.intro (aI.dm [] [2,3,4,13] _) ?_) ?_
  ·refine aC hx ?_;refine⟨0,aQ _,rfl,?_⟩;have e0:ke 0 w=w:=rfl;rw[e0,Nat.sub_zero];simp -implicitDefEqProofs only[go_sem,aE];try rfl
  generalize hA:(min ar 16).toNat=A at *;rintro m s ⟨i,hi,rfl,rfl⟩;have hv:=h.zh i;have gq:=(h.HS i).len;have po:=OY i w;rw[aE]at po;have Gj:=hv.nu;have lY:=hv.nb;have hvw:=hv.nw;have Sl:=hv.nc;have aiq:(ke i w).set=w.set:=Pz i w;rcases bm i A with ab|bH
  ·have ae:((A - i:Nat):Int)>0:=by omega
   have hw:IntKind.i64.wrap (((A - i:Nat):Int) - 1)=((A - (i+1):Nat):Int):=by rw[aV (by omega)];omega
   have hd:=agI (ke i w) hv (by omega);rw[←Jd]at hd;have dQ:=h.zh (i+1);generalize hU:ke (i+1) w=u at *;generalize ke i w=v at *;have aX:=hv.hx;have cr:=dQ.hx;refine cg ae aX ?_;refine mb hd hw aX cr ?_;refine fh.intro (A - (i+1)) (by omega) (aI.dm [] [2,3,4,13] _) ?_;refine aC cr ?_;refine⟨i+1,ab,rfl,?_⟩;subst hU;rfl
  have hi:i=A:=by omega
  subst hi;have ae:¬(((i - i:Nat):Int)>0):=by omega
  have aX:=hv.hx;generalize ke i w=v at *;have dF:((12:Int)==13)=false:=rfl;by_cases jZ:nd<(v.up.length:Int)
  ·have ht:=wC (v:=v) (x:=⟨12,nd,ar,tx⟩) hv aF (by show nd.toNat<v.ak.length;omega) (by omega) ⟨by show(12:Int)≠2;decide,by show(12:Int)≠7;decide,by show(12:Int)≠8;decide,by show(12:Int)≠9;decide,by show(12:Int)≠10;decide,by show(12:Int)≠11;decide⟩;simp -implicitDefEqProofs only[go_sem,ae,aX,dF,po,jZ,bc];refine aD.intro (res:=vA v 0) (σout:=eJ v) (by simp -implicitDefEqProofs only[go_sem,po]at ht ⊢;exact ht) ?_;refine cg aX po ?_
   first|exact True.intro|rfl|exact⟨rfl,rfl⟩
  simp -implicitDefEqProofs only[go_sem,ae,aX,dF,po,jZ,bc]
 ·have y1:((13:Int)==1)=false:=rfl;have y3:((13:Int)==3)=false:=rfl;have y4:((13:Int)==4)=false:=rfl;have y5:((13:Int)==5)=false:=rfl;have y6:((13:Int)==6)=false:=rfl;have dN:((13:Int)==12)=false:=rfl;have dF:((13:Int)==13)=true:=rfl;rw[if_neg (by decide),if_neg (by decide),if_neg (by decide),if_neg (by decide),if_neg (by decide),if_neg (by decide),if_pos rfl]at hr bw ⊢;have hm:w.up.length≤maxLen:=by unfold maxLen;omega
  simp -implicitDefEqProofs only[go_sem,hx,y1,y3,y4,y5,y6,dN,dF,aE,bc]
  refine iN (fun m s=>∃(i:Nat),i≤w.up.length∧m=w.up.length - i∧s=⟨141,[(2,.ptr 2 0 [] 35 0 0),(3,.ptr 3 0 [] 4 0 0),(4,.ptr 4 0 [] 35 0 0),(14,vI i)],(2,0,one ⟨35,[(kJ w i).cells 10002 10000],0,false⟩)::(kJ w i).rows 10002 10000++[(3,0,one ⟨4,[aJ.aO ⟨13,nd,ar,tx⟩],0,false⟩),(4,0,one ⟨35,[jL],0,false⟩)],1⟩) w.up.length (cO.step (aI.tr (r:=2) [ai.cells (kJ w 0) 1000000 1] (by decide) rfl (.cons (by
    unfold kJ;simp -implicitDefEqProofs only[go_sem]
    repeat' first
     | exact .nil
     | refine .cons mU ?_
     | refine .cons mV ?_) .nil)) (cO.intro (aI.dm [] [2,3,4,14] _) ?_)) ?_
  ·have kS:=(I1 h (aQ _)).hx;refine cg hx kS ?_;exact⟨0,aQ _,rfl,rfl⟩
  rintro m s ⟨i,hi,rfl,rfl⟩;have hv:=I1 h hi;have qk:(kJ w i).ak.length=w.ak.length:=ru (by omega);have Sv:(kJ w i).stop=true:=rfl;rcases bm i w.up.length with ab|bH
  ·have hw:=df ab hm;have nR:(kJ w i).up.length=w.up.length:=ru hi;have dR:(kJ w i).bx.length=w.ak.length:=by rw[de];exact qk
   have nT:i<w.ak.length:=by omega
   have zW:(i:Int)<(w.ak.length:Int):=by omega
   have ae:(i:Int)<(w.up.length:Int):=by omega
   have hg:(kJ w i).up[i]?=some w.up[i]:=by
    show(iT false w.up i)[i]?=_
    rw[Hb];exact bz ab
   have gp:(kJ w i).bx[i]?=some ((w.ak[i]).map aB.cs):=by
    show((iT [] w.ak i).map fun b=>b.map aB.cs)[i]?=_
    rw[List.getElem?_map,Hb,bz nT];rfl
   have kt:=Yw ab;have Cm:=Yy nT;have dQ:=I1 h (i:=i+1) ab;have K8:(kJ w (i+1)).up.length=w.up.length:=ru ab;have xW:(kJ w (i+1)).ak.length=w.ak.length:=ru (by omega);have aX:=hv.hx;have cr:=dQ.hx;simp -implicitDefEqProofs only[go_sem,ae,hw,nR,qk,hg,gp,dR,nT,zW,aX,dq,kt];refine fh.step (aI.tA _ 40002) ?_;refine aC aX ?_;refine fh.step (aI.yo (B:=900100) (i:=i) (L:=[]) (by decide) rfl (by rw[dR];exact nT) (.nil) rfl (by repeat' first|exact trivial|refine And.intro (.inl rfl) ?_|refine And.intro (.inr ⟨_,rfl,rfl⟩) ?_)) ?_;refine aC Cm ?_;refine fh.intro (w.up.length - (i+1)) (by omega) (aI.dm [] [2,3,4,14] _) ?_;refine cg cr Cm ?_;refine⟨i+1,ab,rfl,?_⟩;rw[K8,xW];rfl
  have hi:i=w.up.length:=by omega
  subst hi;have ae:¬((w.up.length:Int)<(w.ak.length:Int)):=by omega
  rw[Yx h]at hr bw ⊢;generalize kJ w w.up.length=v at *;have aX:=hv.hx;by_cases jZ:nd<(v.up.length:Int)
  ·simp -implicitDefEqProofs only[go_sem,ae,qk,aX,Sv,jZ,bc]
  simp -implicitDefEqProofs only[go_sem,ae,qk,aX,Sv,jZ,bc]
 obtain⟨n1,n3,n4,n5,n6,BX,BW⟩:=bO;have y1:(kd==1)=false:=beq_eq_false_iff_ne.2 n1;have y3:(kd==3)=false:=beq_eq_false_iff_ne.2 n3;have y4:(kd==4)=false:=beq_eq_false_iff_ne.2 n4;have y5:(kd==5)=false:=beq_eq_false_iff_ne.2 n5;have y6:(kd==6)=false:=beq_eq_false_iff_ne.2 n6;have dN:(kd==12)=false:=beq_eq_false_iff_ne.2 BX;have dF:(kd==13)=false:=beq_eq_false_iff_ne.2 BW;rw[if_neg n1,if_neg n3,if_neg n4,if_neg n5,if_neg n6,if_neg BX,if_neg BW]at hr bw ⊢;by_cases hle:nd≤((w.ah.length+w.cls.length+1:Nat):Int)
 ·rw[if_pos hle]at hr bw ⊢;have jZ:nd<(w.up.length:Int):=by omega
  have dT:=VK w ⟨kd,nd,ar,tx⟩ nd.toNat h (by show nd=_;omega) (by omega) aF (by omega);generalize oA w ⟨kd,nd,ar,tx⟩ nd.toNat=Z at *;refine uC hx y1 y3 y4 y5 y6 dN dF aE jZ ?_;refine aD.intro (res:=vA Z 0) (σout:=eJ Z) (by simp -implicitDefEqProofs only[go_sem,aE]at dT ⊢;exact dT) ?_;exact dk hx bw
 rw[if_neg hle]at hr bw ⊢;have jZ:¬(nd<(w.up.length:Int)):=by omega
 simp -implicitDefEqProofs only[go_sem,hx,y1,y3,y4,y5,y6,dN,dF,aE,bc,jZ]
end Go.Proofs.YtobpfkgabdeefaaGreat.E
