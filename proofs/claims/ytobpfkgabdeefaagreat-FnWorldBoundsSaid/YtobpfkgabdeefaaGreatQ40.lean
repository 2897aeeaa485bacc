/- Contracts: a step, in the reference. -/
import Derived.Test.YtobpfkgabdeefaaGreatQ39
namespace Go.Proofs.YtobpfkgabdeefaaGreat.E
open Go Go.RowKit
set_option maxHeartbeats 4000000
set_option maxRecDepth 10000
set_option linter.unusedSimpArgs false
set_option linter.unusedVariables false
set_option linter.unusedSectionVars false
def Ui:cc:=⟨[(130,.cm [false,false]),(131,.cm [true,false]),(132,.cm [false,false]),(133,.cm [false,false]),(134,.cm [true]),(135,.cm [true,false]),(138,.cm [true]),(139,.cm [true,false])],cw,cz,false⟩
attribute [-go_sem] ei
theorem ahi (w:ae) (L:List ByteArray):ae.bx {w with log:=L}=w.bx:=rfl
theorem ahh (w:ae) (L:List ByteArray) (b:Bool):ae.bx {w with log:=L,stop:=b}=w.bx:=rfl
theorem ahj (w:ae) (B:List aC) (b:Bool):ae.bx {w with aO:=B,stop:=b}=w.bx:=rfl
theorem ahf (w:ae) (b:Bool):ae.bx {w with stop:=b}=w.bx:=rfl
attribute [go_sem] ahi ahh ahj ahf
theorem YE (w:ae) (n:Nat) (x:aC):(fA w n x).stop=w.stop:=by
 unfold fA;split
 ·split
  ·exact(ta w _).stop
  rfl
 split
 ·exact(gG _ _ _).stop.trans ((lq _ _).stop.trans ((qK _ _ _).stop.trans (kK _ _ _).stop))
 split
 ·exact(gG _ _ _).stop.trans ((fV _ _ _ _).stop.trans (lq _ _).stop)
 exact(gG _ _ _).stop.trans ((fV _ _ _ _).stop.trans ((fV _ _ _ _).stop.trans (lq _ _).stop))
theorem YF (w:ae) (n:Nat):(js w n).stop=w.stop:=by
 unfold js;rw[YE];unfold jI;split<;>rfl
theorem OQ:∀(n:Nat) (w:ae),(jt n w).stop=w.stop
 | 0,w=>rfl
 | n+1,w=>by
  unfold jt;split
  ·rfl
  rw[OQ n,YF]
theorem YH (w:ae) (k:Int):(ju w k).stop=w.stop:=by
 unfold ju;split
 ·simp only;split<;>rfl
 rfl
theorem OR:∀(n:Nat) (w:ae),(iS n w).stop=w.stop
 | 0,w=>rfl
 | n+1,w=>(OR n _).trans (YH w 0)
theorem YD (w:ae):(pD w).stop=w.stop:=by
 unfold pD;rw[OQ,OR]
theorem OP:∀(n:Nat) (w:ae),(jP n w).stop=w.stop
 | 0,w=>rfl
 | n+1,w=>(OP n _).trans (YD w)
theorem aa0 {w:ae}{x:bQ}{n:Nat}(h:x.kind≠2/\x.kind≠7/\x.kind≠8/\x.kind≠9/\x.kind≠10/\x.kind≠11):mg w x n=w:=by
 obtain⟨a,b,c,d,e,f⟩:=h;unfold mg;rw[if_neg (fun h=>a h.1),if_neg (fun h=>b h.1),if_neg (fun h=>c h.1),if_neg (fun h=>d h.1),if_neg (fun h=>e h.1),if_neg f]
theorem agW (n:Int):ba Tryz.prog 137 [vI n] (vI ((min n 16).toNat:Int)) []:=by
 refine aF Ui false Tryz.f137 ?_;conv=>enter[1];reduce
 refine bu Tryz.f137 8 [.tmp 2] (by kernel_rfl) (by decide +kernel) rfl ?_;by_cases h1:n<0
 ·rw[show((min n 16).toNat:Int)=0 by omega];exact eE h1
 by_cases h2:n>16
 ·rw[show((min n 16).toNat:Int)=16 by omega];exact dp h1 h2
 rw[show((min n 16).toNat:Int)=n by omega];exact dp h1 h2
def kW (w:ae) (i:Nat):ae:={w with stop:=true,room:=w.set.room,aO:=[],up:=jf false w.up i,ai:=jf [] w.ai i}
theorem YK {w:ae}{i:Nat}(h:i<w.ai.length):(kW w i).bx.set i []=(kW w (i+1)).bx:=OT h
theorem YI {w:ae}{i:Nat}(h:i<w.up.length):((kW w i).up.map dw).set i [vB false]=(kW w (i+1)).up.map dw:=OS h
theorem IU {w:ae}(h:w.wf) {i:Nat}(hi:i<=w.up.length):(kW w i).wl:=by
 have k:=IT h hi;exact⟨k.so,k.nw,k.nc,k.nu,k.nb⟩
theorem YJ {w:ae}(h:w.wf):u9 w=kW w w.up.length:=by
 have hl:w.ai.length=w.up.length:=by rw[h.nb,h.nu]
 unfold u9 kW;rw[Df,<-hl,Df,<-h.rm]
theorem ady (w:ae) (n:Nat) (x:aC):(fA w n x).set=w.set:=by
 unfold fA;split
 ·split
  ·exact(ta w _).set
  rfl
 split
 ·exact(gG _ _ _).set.trans ((lq _ _).set.trans ((qK _ _ _).set.trans (kK _ _ _).set))
 split
 ·exact(gG _ _ _).set.trans ((fV _ _ _ _).set.trans (lq _ _).set)
 exact(gG _ _ _).set.trans ((fV _ _ _ _).set.trans ((fV _ _ _ _).set.trans (lq _ _).set))
theorem SU:∀(n:Nat) (w:ae),(jt n w).set=w.set
 | 0,w=>rfl
 | n+1,w=>by
  unfold jt;split
  ·rfl
  rw[SU n];unfold js;rw[ady,(vM w _).1]
theorem aeD (w:ae) (k:Int):(ju w k).set=w.set:=by
 unfold ju;split
 ·simp only;split<;>rfl
 rfl
theorem T8:∀(n:Nat) (w:ae),(iS n w).set=w.set
 | 0,w=>rfl
 | n+1,w=>(T8 n _).trans (aeD w 0)
theorem PD:∀(n:Nat) (w:ae),(jP n w).set=w.set
 | 0,w=>rfl
 | n+1,w=>(PD n _).trans (by unfold pD;rw[SU,T8])
theorem wP {v:ae}{x:bQ}(h:v.wf) (aI:e9 x=true) (ab:x.node.toNat<v.ai.length) (hb:v.book.length<=3700000000) (hk:x.kind≠2/\x.kind≠7/\x.kind≠8/\x.kind≠9/\x.kind≠10/\x.kind≠11):aY Tryz.prog 139 (gJ v) [vA v 1000000,.agg x.bH] (vA v 0) (eX v):=by
 have Cw:0<=x.node/\x.node<=20:=by
  simp only[e9,Bool.and_eq_true,cr]at aI;omega
 have e:=VN v x x.node.toNat h (by omega) ab aI hb;rw[aa0 hk]at e;exact e
theorem afJ (w:ae) (x:bQ) (h:w.wf) (aI:e9 x=true) (aD:w.stop=false) (hb:w.book.length<=3500000000):aY Tryz.prog 80 (gJ w) [vA w 1000000,.agg x.bH] (vA (eZ w x) 0) (eX (eZ w x)):=by
 refine aF Ui false Tryz.f80 ?_;conv=>enter[1];reduce
 refine bI Tryz.f80 141 [.cell 4 64] (by kernel_rfl) (by decide +kernel) rfl ?_;have hx:=h.hx;have hs:=ea h.so;have fR:=h.nw;have jV:=h.nc;have jW:=h.nb;have om:=h.nu;have hr:=h.step aI;have br:=hr.hx;unfold eZ at hr br ⊢;rw[if_neg (by rw[aD];decide)]at hr br ⊢;obtain⟨kd,nd,ar,tx⟩:=x;have Cw:0<=nd/\nd<=20:=by
  have Cu:=aI;simp only[e9,Bool.and_eq_true,cr]at Cu;omega
 have xU:kd=1\/kd=3\/kd=4\/kd=5\/kd=6\/kd=12\/kd=13\/(kd≠1/\kd≠3/\kd≠4/\kd≠5/\kd≠6/\kd≠12/\kd≠13):=by omega
 simp only at hr br ⊢;rcases xU with rfl|rfl|rfl|rfl|rfl|rfl|rfl|bJ
 ·have y1:((1:Int)==1)=true:=rfl;have y3:((1:Int)==3)=false:=rfl;have y4:((1:Int)==4)=false:=rfl;have y5:((1:Int)==5)=false:=rfl;have y6:((1:Int)==6)=false:=rfl;have dU:((1:Int)==12)=false:=rfl;have dL:((1:Int)==13)=false:=rfl;rw[if_pos rfl]at hr br ⊢;have hu:0<w.up.length:=by omega
  have cU:(0:Int)<(w.up.length:Int):=by omega
  have bY:w.up[0]?=some (w.up.getD 0 false):=by rw[List.getD_eq_getElem?_getD,bm hu];rfl
  rcases Bool.eq_false_or_eq_true (w.up.getD 0 false) with bG|bG
  ·rw[if_pos bG]at hr br ⊢;rw[bG]at bY;obtain⟨b,gZ⟩:=agY w.log tx h.lg;rw[RT h]at hr br ⊢;generalize vf w.log tx=L at *;by_cases ab:nd<(w.up.length:Int)
   ·have ht:=wP (v:={w with log:=L}) (x:=⟨1,nd,ar,tx⟩) hr aI (by show nd.toNat<w.ai.length;omega) (by show w.book.length<=3700000000;omega) ⟨by show(1:Int)≠2;decide,by show(1:Int)≠7;decide,by show(1:Int)≠8;decide,by show(1:Int)≠9;decide,by show(1:Int)≠10;decide,by show(1:Int)≠11;decide⟩;simp -implicitDefEqProofs only[go_sem,hx,y1,y3,y4,y5,y6,dU,dL,aD,bb,ab,hu,cU,bY,dw];refine aE.intro gZ ?_;refine uI hx y1 y3 y4 y5 y6 dU dL aD ab ?_;refine aE.intro (res:=vA ({w with log:=L}:ae) 0) (σout:=eX ({w with log:=L}:ae)) (by simp -implicitDefEqProofs only[go_sem,aD]at ht ⊢;exact ht) ?_;refine eV hx br aD ?_
    first|exact True.intro|rfl|exact⟨rfl,rfl⟩
    all_goals first|done|rfl|exact⟨rfl,rfl⟩
   simp -implicitDefEqProofs only[go_sem,hx,y1,y3,y4,y5,y6,dU,dL,aD,bb,ab,br,hu,cU,bY,dw];refine aE.intro gZ ?_;simp -implicitDefEqProofs only[go_sem,hx,y1,y3,y4,y5,y6,dU,dL,aD,bb,ab,br];all_goals first|done|rfl|exact⟨rfl,rfl⟩
  rw[if_neg (by rw[bG];decide)]at hr br ⊢;rw[bG]at bY;by_cases ab:nd<(w.up.length:Int)
  ·have ht:=wP (v:=w) (x:=⟨1,nd,ar,tx⟩) h aI (by show nd.toNat<w.ai.length;omega) (by omega) ⟨by show(1:Int)≠2;decide,by show(1:Int)≠7;decide,by show(1:Int)≠8;decide,by show(1:Int)≠9;decide,by show(1:Int)≠10;decide,by show(1:Int)≠11;decide⟩;simp -implicitDefEqProofs only[go_sem,hx,y1,y3,y4,y5,y6,dU,dL,aD,bb,ab,hu,cU,bY,dw];refine aE.intro (res:=vA w 0) (σout:=eX w) (by simp -implicitDefEqProofs only[go_sem,aD]at ht ⊢;exact ht) ?_;refine eV hx br aD ?_
   first|exact True.intro|rfl|exact⟨rfl,rfl⟩
   all_goals first|done|rfl|exact⟨rfl,rfl⟩
  simp -implicitDefEqProofs only[go_sem,hx,y1,y3,y4,y5,y6,dU,dL,aD,bb,ab,br,hu,cU,bY,dw];all_goals first|done|rfl|exact⟨rfl,rfl⟩
 ·have y1:((3:Int)==1)=false:=rfl;have y3:((3:Int)==3)=true:=rfl;have y4:((3:Int)==4)=false:=rfl;have y5:((3:Int)==5)=false:=rfl;have y6:((3:Int)==6)=false:=rfl;have dU:((3:Int)==12)=false:=rfl;have dL:((3:Int)==13)=false:=rfl;rw[if_neg (by decide),if_pos rfl]at hr br ⊢;have eo:=VR w ar h;generalize ju w ar=Z at *;simp -implicitDefEqProofs only[go_sem,hx,y1,y3,y4,y5,y6,dU,dL,aD,bb];refine aE.intro (res:=vA Z 0) (σout:=eX Z) (by simp -implicitDefEqProofs only[go_sem,aD]at eo ⊢;exact eo) ?_;exact dp hx br
 ·have y1:((4:Int)==1)=false:=rfl;have y3:((4:Int)==3)=false:=rfl;have y4:((4:Int)==4)=true:=rfl;have y5:((4:Int)==5)=false:=rfl;have y6:((4:Int)==6)=false:=rfl;have dU:((4:Int)==12)=false:=rfl;have dL:((4:Int)==13)=false:=rfl;rw[if_neg (by decide),if_neg (by decide),if_pos rfl]at hr br ⊢;rw[drop_eq]at hr br ⊢;by_cases lk:w.aO=[]
  ·have eo:=NU (lk▸h.oD) ar;rw[lk,List.eraseIdx_nil]at hr br ⊢;by_cases ab:nd<(w.up.length:Int)
   ·have ht:=wP (v:={w with aO:=[]}) (x:=⟨4,nd,ar,tx⟩) hr aI (by show nd.toNat<w.ai.length;omega) (by show w.book.length<=3700000000;omega) ⟨by show(4:Int)≠2;decide,by show(4:Int)≠7;decide,by show(4:Int)≠8;decide,by show(4:Int)≠9;decide,by show(4:Int)≠10;decide,by show(4:Int)≠11;decide⟩;simp -implicitDefEqProofs only[go_sem,hx,y1,y3,y4,y5,y6,dU,dL,aD,bb,ab,lk];refine aE.intro eo ?_;refine uI hx y1 y3 y4 y5 y6 dU dL aD ab ?_;refine aE.intro (res:=vA ({w with aO:=[]}:ae) 0) (σout:=eX ({w with aO:=[]}:ae)) (by simp -implicitDefEqProofs only[go_sem,aD]at ht ⊢;exact ht) ?_;refine eV hx br aD ?_
    first|exact True.intro|rfl|exact⟨rfl,rfl⟩
    all_goals first|done|rfl|exact⟨rfl,rfl⟩
   simp -implicitDefEqProofs only[go_sem,hx,y1,y3,y4,y5,y6,dU,dL,aD,bb,ab,br,lk];refine aE.intro eo ?_;simp -implicitDefEqProofs only[go_sem,hx,y1,y3,y4,y5,y6,dU,dL,aD,bb,ab,br];all_goals first|done|rfl|exact⟨rfl,rfl⟩
  have jU:0<w.aO.length:=List.length_pos_iff.2 lk;have eo:=VQ h.oD ar (bm (tV ar jU));generalize w.aO.eraseIdx (eP ar w.aO.length)=b at *;by_cases ab:nd<(w.up.length:Int)
  ·have ht:=wP (v:={w with aO:=b}) (x:=⟨4,nd,ar,tx⟩) hr aI (by show nd.toNat<w.ai.length;omega) (by show w.book.length<=3700000000;omega) ⟨by show(4:Int)≠2;decide,by show(4:Int)≠7;decide,by show(4:Int)≠8;decide,by show(4:Int)≠9;decide,by show(4:Int)≠10;decide,by show(4:Int)≠11;decide⟩;refine uI hx y1 y3 y4 y5 y6 dU dL aD ab ?_;refine aE.intro eo ?_;refine uI hx y1 y3 y4 y5 y6 dU dL aD ab ?_;refine aE.intro (res:=vA ({w with aO:=b}:ae) 0) (σout:=eX ({w with aO:=b}:ae)) (by simp -implicitDefEqProofs only[go_sem,aD]at ht ⊢;exact ht) ?_;refine eV hx br aD ?_
   first|exact True.intro|rfl|exact⟨rfl,rfl⟩
   all_goals first|done|rfl|exact⟨rfl,rfl⟩
  simp -implicitDefEqProofs only[go_sem,hx,y1,y3,y4,y5,y6,dU,dL,aD,bb,ab,br];refine aE.intro eo ?_;simp -implicitDefEqProofs only[go_sem,hx,y1,y3,y4,y5,y6,dU,dL,aD,bb,ab,br];all_goals first|done|rfl|exact⟨rfl,rfl⟩
 ·have y1:((5:Int)==1)=false:=rfl;have y3:((5:Int)==3)=false:=rfl;have y4:((5:Int)==4)=false:=rfl;have y5:((5:Int)==5)=true:=rfl;have y6:((5:Int)==6)=false:=rfl;have dU:((5:Int)==12)=false:=rfl;have dL:((5:Int)==13)=false:=rfl;rw[if_neg (by decide),if_neg (by decide),if_neg (by decide),if_pos rfl]at hr br ⊢;obtain⟨b,eo⟩:=agX h.oD ar;rw[T3]at hr br ⊢;generalize sH w.room w.aO ar=B at *;by_cases ab:nd<(w.up.length:Int)
  ·have ht:=wP (v:={w with aO:=B}) (x:=⟨5,nd,ar,tx⟩) hr aI (by show nd.toNat<w.ai.length;omega) (by show w.book.length<=3700000000;omega) ⟨by show(5:Int)≠2;decide,by show(5:Int)≠7;decide,by show(5:Int)≠8;decide,by show(5:Int)≠9;decide,by show(5:Int)≠10;decide,by show(5:Int)≠11;decide⟩;refine uI hx y1 y3 y4 y5 y6 dU dL aD ab ?_;refine aE.intro eo ?_;refine uI hx y1 y3 y4 y5 y6 dU dL aD ab ?_;refine aE.intro (res:=vA ({w with aO:=B}:ae) 0) (σout:=eX ({w with aO:=B}:ae)) (by simp -implicitDefEqProofs only[go_sem,aD]at ht ⊢;exact ht) ?_;refine eV hx br aD ?_
   first|exact True.intro|rfl|exact⟨rfl,rfl⟩
   all_goals first|done|rfl|exact⟨rfl,rfl⟩
  simp -implicitDefEqProofs only[go_sem,hx,y1,y3,y4,y5,y6,dU,dL,aD,bb,ab,br];refine aE.intro eo ?_;simp -implicitDefEqProofs only[go_sem,hx,y1,y3,y4,y5,y6,dU,dL,aD,bb,ab,br];all_goals first|done|rfl|exact⟨rfl,rfl⟩
 ·have y1:((6:Int)==1)=false:=rfl;have y3:((6:Int)==3)=false:=rfl;have y4:((6:Int)==4)=false:=rfl;have y5:((6:Int)==5)=false:=rfl;have y6:((6:Int)==6)=true:=rfl;have dU:((6:Int)==12)=false:=rfl;have dL:((6:Int)==13)=false:=rfl;rw[if_neg (by decide),if_neg (by decide),if_neg (by decide),if_neg (by decide),if_pos rfl]at hr br ⊢;have pN:=VP w h;rcases Nat.eq_zero_or_pos (gP w).length with hl|hl
  ·have sS:=List.eq_nil_of_length_eq_zero hl;rw[sS]at hr br pN ⊢;have hz:¬(((0:Nat):Int)>0):=by decide
   by_cases ab:nd<(w.up.length:Int)
   ·have ht:=wP (v:=w) (x:=⟨6,nd,ar,tx⟩) h aI (by show nd.toNat<w.ai.length;omega) (by omega) ⟨by show(6:Int)≠2;decide,by show(6:Int)≠7;decide,by show(6:Int)≠8;decide,by show(6:Int)≠9;decide,by show(6:Int)≠10;decide,by show(6:Int)≠11;decide⟩;refine uI hx y1 y3 y4 y5 y6 dU dL aD ab ?_;refine aE.intro (res:=.ro 1 (([]:List Nat).map jN)) (σout:=gJ w) (by simp -implicitDefEqProofs only[go_sem,aD]at pN ⊢;exact pN) ?_;simp -implicitDefEqProofs only[go_sem,hx,y1,y3,y4,y5,y6,dU,dL,aD,bb,ab,hz];refine aE.intro (res:=vA w 0) (σout:=eX w) (by simp -implicitDefEqProofs only[go_sem,aD]at ht ⊢;exact ht) ?_;refine eV hx br aD ?_
    first|exact True.intro|rfl|exact⟨rfl,rfl⟩
    all_goals first|done|rfl|exact⟨rfl,rfl⟩
   simp -implicitDefEqProofs only[go_sem,hx,y1,y3,y4,y5,y6,dU,dL,aD,bb,ab,br];refine aE.intro (res:=.ro 1 (([]:List Nat).map jN)) (σout:=gJ w) (by simp -implicitDefEqProofs only[go_sem,aD]at pN ⊢;exact pN) ?_;simp -implicitDefEqProofs only[go_sem,hx,y1,y3,y4,y5,y6,dU,dL,aD,bb,ab,br,hz];all_goals first|done|rfl|exact⟨rfl,rfl⟩
  obtain⟨n,hn,oY⟩:=PS ar hl;obtain⟨ab,-,y,b,Kz⟩:=E4 oY;have hle:(gP w).length<=1000:=by rw[<-E9];have:=E8 w w.up.length;omega
  have KR:=M1 ar (gP w).length hl hle;have rB:=tV ar hl;rw[hn]at hr br ⊢;simp only at hr br ⊢;have eo:=VO w n y b h Kz (by omega);generalize js w n=Z at *;generalize gP w=L at *;generalize eP ar L.length=j at *;have hz:(L.length:Int)>0:=by omega
  have hj:(j:Int)<(L.length:Int):=by omega
  simp -implicitDefEqProofs only[go_sem,hx,y1,y3,y4,y5,y6,dU,dL,aD,bb];refine aE.intro (res:=.ro 1 (L.map jN)) (σout:=gJ w) (by simp -implicitDefEqProofs only[go_sem,aD]at pN ⊢;exact pN) ?_;refine b8 hx hz ?_;refine aq.intro KR ?_;refine AQ hx hj hn ?_;refine aE.intro (res:=vA Z 0) (σout:=eX Z) (by simp -implicitDefEqProofs only[go_sem,aD]at eo ⊢;exact eo) ?_;exact dp hx br
 ·have y1:((12:Int)==1)=false:=rfl;have y3:((12:Int)==3)=false:=rfl;have y4:((12:Int)==4)=false:=rfl;have y5:((12:Int)==5)=false:=rfl;have y6:((12:Int)==6)=false:=rfl;have dU:((12:Int)==12)=true:=rfl;have dL:((12:Int)==13)=false:=rfl;rw[if_neg (by decide),if_neg (by decide),if_neg (by decide),if_neg (by decide),if_neg (by decide),if_pos rfl]at hr br ⊢;have Gx:(min ar 16)<=16:=by omega
  have pH:=agW ar;simp -implicitDefEqProofs only[go_sem,hx,y1,y3,y4,y5,y6,dU,dL,aD,bb];refine jj pH hx ?_;refine im (fun m s=>∃(i:Nat),i<=(min ar 16).toNat/\m=(min ar 16).toNat - i/\s=⟨141,[(2,.ptr 2 0 [] 35 0 0),(3,.ptr 3 0 [] 4 0 0),(4,.ptr 4 0 [] 35 0 0),(13,vI (((min ar 16).toNat - i:Nat):Int))],(2,0,one ⟨35,[(jP i w).cells 10002 10000],0,false⟩)::(jP i w).rows 10002 10000++[(3,0,one ⟨4,[bQ.bH ⟨12,nd,ar,tx⟩],0,false⟩),(4,0,one ⟨35,[jL],0,false⟩)],1⟩) (min ar 16).toNat (bO.intro (aB.b9 [] [2,3,4,13] _) ?_) ?_
  ·refine aA hx ?_;refine⟨0,aR _,rfl,?_⟩;have e0:jP 0 w=w:=rfl;rw[e0,Nat.sub_zero];simp -implicitDefEqProofs only[go_sem,aD];try rfl
  generalize hA:(min ar 16).toNat=A at *;rintro m s ⟨i,hi,rfl,rfl⟩;have hv:=h.tN i;have fU:=(h.HS i).len;have nB:=OP i w;rw[aD]at nB;have Gj:=hv.nu;have lf:=hv.nb;have xI:=hv.nw;have Sn:=hv.nc;have aiO:(jP i w).set=w.set:=PD i w;rcases bp i A with ab|bM
  ·have ah:((A - i:Nat):Int)>0:=by omega
   have hw:IntKind.i64.wrap (((A - i:Nat):Int) - 1)=((A - (i+1):Nat):Int):=by rw[aN (by omega)];omega
   have hd:=agV (jP i w) hv (by omega);rw[<-I9]at hd;have dH:=h.tN (i+1);generalize hU:jP (i+1) w=u at *;generalize jP i w=v at *;have aW:=hv.hx;have cD:=dH.hx;refine b8 ah aW ?_;refine ji hd hw aW cD ?_;refine fh.intro (A - (i+1)) (by omega) (aB.b9 [] [2,3,4,13] _) ?_;refine aA cD ?_;refine⟨i+1,ab,rfl,?_⟩;subst hU;rfl
  have hi:i=A:=by omega
  subst hi;have ah:¬(((i - i:Nat):Int)>0):=by omega
  have aW:=hv.hx;generalize jP i w=v at *;have dL:((12:Int)==13)=false:=rfl;by_cases nG:nd<(v.up.length:Int)
  ·have ht:=wP (v:=v) (x:=⟨12,nd,ar,tx⟩) hv aI (by show nd.toNat<v.ai.length;omega) (by omega) ⟨by show(12:Int)≠2;decide,by show(12:Int)≠7;decide,by show(12:Int)≠8;decide,by show(12:Int)≠9;decide,by show(12:Int)≠10;decide,by show(12:Int)≠11;decide⟩;simp -implicitDefEqProofs only[go_sem,ah,aW,dL,nB,nG,bb];refine aE.intro (res:=vA v 0) (σout:=eX v) (by simp -implicitDefEqProofs only[go_sem,nB]at ht ⊢;exact ht) ?_;refine b8 aW nB ?_
   first|exact True.intro|rfl|exact⟨rfl,rfl⟩
  simp -implicitDefEqProofs only[go_sem,ah,aW,dL,nB,nG,bb]
 ·have y1:((13:Int)==1)=false:=rfl;have y3:((13:Int)==3)=false:=rfl;have y4:((13:Int)==4)=false:=rfl;have y5:((13:Int)==5)=false:=rfl;have y6:((13:Int)==6)=false:=rfl;have dU:((13:Int)==12)=false:=rfl;have dL:((13:Int)==13)=true:=rfl;rw[if_neg (by decide),if_neg (by decide),if_neg (by decide),if_neg (by decide),if_neg (by decide),if_neg (by decide),if_pos rfl]at hr br ⊢;have hm:w.up.length<=maxLen:=by unfold maxLen;omega
  simp -implicitDefEqProofs only[go_sem,hx,y1,y3,y4,y5,y6,dU,dL,aD,bb]
  refine im (fun m s=>∃(i:Nat),i<=w.up.length/\m=w.up.length - i/\s=⟨141,[(2,.ptr 2 0 [] 35 0 0),(3,.ptr 3 0 [] 4 0 0),(4,.ptr 4 0 [] 35 0 0),(14,vI i)],(2,0,one ⟨35,[(kW w i).cells 10002 10000],0,false⟩)::(kW w i).rows 10002 10000++[(3,0,one ⟨4,[bQ.bH ⟨13,nd,ar,tx⟩],0,false⟩),(4,0,one ⟨35,[jL],0,false⟩)],1⟩) w.up.length (bO.step (aB.tG (r:=2) [ae.cells (kW w 0) 1000000 1] (by decide) rfl (.cons (by
    unfold kW;simp -implicitDefEqProofs only[go_sem]
    repeat' first
     | exact .nil
     | refine .cons nn ?_
     | refine .cons np ?_) .nil)) (bO.intro (aB.b9 [] [2,3,4,14] _) ?_)) ?_
  ·have lb:=(IU h (aR _)).hx;refine b8 hx lb ?_;exact⟨0,aR _,rfl,rfl⟩
  rintro m s ⟨i,hi,rfl,rfl⟩;have hv:=IU h hi;have qA:(kW w i).ai.length=w.ai.length:=rO (by omega);have Sy:(kW w i).stop=true:=rfl;rcases bp i w.up.length with ab|bM
  ·have hw:=dx ab hm;have ot:(kW w i).up.length=w.up.length:=rO hi;have dX:(kW w i).bx.length=w.ai.length:=by rw[dh];exact qA
   have lT:i<w.ai.length:=by omega
   have xV:(i:Int)<(w.ai.length:Int):=by omega
   have ah:(i:Int)<(w.up.length:Int):=by omega
   have hg:(kW w i).up[i]?=some w.up[i]:=by
    show(jf false w.up i)[i]?=_
    rw[Hi];exact bm ab
   have ga:(kW w i).bx[i]?=some ((w.ai[i]).map aC.cs):=by
    show((jf [] w.ai i).map fun b=>b.map aC.cs)[i]?=_
    rw[List.getElem?_map,Hi,bm lT];rfl
   have kF:=YI ab;have Cm:=YK lT;have dH:=IU h (i:=i+1) ab;have KW:(kW w (i+1)).up.length=w.up.length:=rO ab;have xT:(kW w (i+1)).ai.length=w.ai.length:=rO (by omega);have aW:=hv.hx;have cD:=dH.hx;simp -implicitDefEqProofs only[go_sem,ah,hw,ot,qA,hg,ga,dX,lT,xV,aW,dw,kF];refine fh.step (aB.tO _ 40002) ?_;refine aA aW ?_;refine fh.step (aB.yj (B:=900100) (i:=i) (L:=[]) (by decide) rfl (by rw[dX];exact lT) (.nil) rfl (by repeat' first|exact trivial|refine And.intro (.inl rfl) ?_|refine And.intro (.inr ⟨_,rfl,rfl⟩) ?_)) ?_;refine aA Cm ?_;refine fh.intro (w.up.length - (i+1)) (by omega) (aB.b9 [] [2,3,4,14] _) ?_;refine b8 cD Cm ?_;refine⟨i+1,ab,rfl,?_⟩;rw[KW,xT];rfl
  have hi:i=w.up.length:=by omega
  subst hi;have ah:¬((w.up.length:Int)<(w.ai.length:Int)):=by omega
  rw[YJ h]at hr br ⊢;generalize kW w w.up.length=v at *;have aW:=hv.hx;by_cases nG:nd<(v.up.length:Int)
  ·simp -implicitDefEqProofs only[go_sem,ah,qA,aW,Sy,nG,bb]
  simp -implicitDefEqProofs only[go_sem,ah,qA,aW,Sy,nG,bb]
 obtain⟨n1,n3,n4,n5,n6,BQ,BP⟩:=bJ;have y1:(kd==1)=false:=beq_eq_false_iff_ne.2 n1;have y3:(kd==3)=false:=beq_eq_false_iff_ne.2 n3;have y4:(kd==4)=false:=beq_eq_false_iff_ne.2 n4;have y5:(kd==5)=false:=beq_eq_false_iff_ne.2 n5;have y6:(kd==6)=false:=beq_eq_false_iff_ne.2 n6;have dU:(kd==12)=false:=beq_eq_false_iff_ne.2 BQ;have dL:(kd==13)=false:=beq_eq_false_iff_ne.2 BP;rw[if_neg n1,if_neg n3,if_neg n4,if_neg n5,if_neg n6,if_neg BQ,if_neg BP]at hr br ⊢;by_cases hle:nd<=((w.aj.length+w.cls.length+1:Nat):Int)
 ·rw[if_pos hle]at hr br ⊢;have nG:nd<(w.up.length:Int):=by omega
  have eo:=VN w ⟨kd,nd,ar,tx⟩ nd.toNat h (by show nd=_;omega) (by omega) aI (by omega);generalize mg w ⟨kd,nd,ar,tx⟩ nd.toNat=Z at *;refine uI hx y1 y3 y4 y5 y6 dU dL aD nG ?_;refine aE.intro (res:=vA Z 0) (σout:=eX Z) (by simp -implicitDefEqProofs only[go_sem,aD]at eo ⊢;exact eo) ?_;exact dp hx br
 rw[if_neg hle]at hr br ⊢;have nG:¬(nd<(w.up.length:Int)):=by omega
 simp -implicitDefEqProofs only[go_sem,hx,y1,y3,y4,y5,y6,dU,dL,aD,bb,nG]
end Go.Proofs.YtobpfkgabdeefaaGreat.E
