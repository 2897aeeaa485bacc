/- Contracts by value: clients, monitors, witnesses that hear and tick; Contracts: what comes of something to a client; Contracts: what comes of something to a client, in the reference; to the monitor; Contracts: the reference notes acknowledgements; What comes of hearing and ticking is little: plain facts -/
import Derived.Test.YtobpfkgabdeefaaGreatQ31
import Derived.Test.YtobpfkgabdeefaaGreatQ32
namespace Go.Proofs.YtobpfkgabdeefaaGreat.E
open Go Go.RowKit
set_option linter.unusedSimpArgs false
set_option linter.unusedVariables false
section
set_option maxHeartbeats 4000000
set_option maxRecDepth 10000
set_option linter.unusedSectionVars false
def Md:cc:=⟨[(165,.cm [false]),(214,.cm [true,false,false,false,false]),(215,.cm [true,false,false,false]),(244,.cm [false]),(246,.cn [false,true]),(247,.cm [false,false]),(279,.cn [false])],cw,cz,false⟩
theorem X5 (c:bw) (me:Int) (l:aC) (hl:c.bj.length<=maxLen):aY Tryz.prog 171 [] [c.ro,vI me,.agg l.cs] (jH c me l).rv []:=by
 obtain⟨σ,h⟩:=EI (jH c me l);exact(VG c me l hl).val [] h
theorem X4 (c:bw) (me:Int) (l:aC) (hl:c.bj.length<=maxLen):aY Tryz.prog 189 [] [c.ro,vI me,.agg l.cs] (jH c me l).rv []:=by
 obtain⟨σ,h⟩:=EI (jH c me l);exact(VA c me l hl).val [] h
theorem Vg (c:bw) (me:Int) (hl:c.bj.length<=maxLen):aY Tryz.prog 247 [] [c.ro,vI me] (fY c me).tt (fY c me).sA:=by
 refine aF Md false Tryz.f247 ?_;conv=>enter[1];reduce
 refine bI Tryz.f247 47 [.cell 4 206] (by kernel_rfl) (by decide +kernel) rfl ?_;unfold fY;cases aI:dG c&&aS me 1 20 with
 | false=>
  rw[if_neg (by simp)];simp -implicitDefEqProofs only[go_sem]
  repeat' first|(refine aq.intro (by first|exact we c hl|exact wg me) ?_;try simp -implicitDefEqProofs only[go_sem,aT,aV])|(refine aE.intro (by first|exact we c hl|exact wg me) ?_;try simp -implicitDefEqProofs only[go_sem,aT,aV])|(refine fv (fun h=>?_) (fun h=>?_)<;>try simp -implicitDefEqProofs only[go_sem,aT,aV,h])|(refine bX (fun h=>?_) (fun h=>?_)<;>try simp -implicitDefEqProofs only[go_sem,aT,aV,h])
  all_goals first
   | exact⟨rfl,rfl⟩
   | (exfalso;simp_all;done)
 | true=>
  rw[if_pos rfl];simp only[Bool.and_eq_true]at aI;obtain⟨o1,o2⟩:=aI;obtain⟨pJ,lV⟩:=rT o1;have hs:0<=c.bU/\c.bU<=1000000:=by
   simp only[dG,Bool.and_eq_true]at o1;exact cr.1 o1.2.2.2.1
  have w1:IntKind.i64.wrap (c.bU+1)=c.bU+1:=aN (by omega);refine au ?_;refine aq.intro (we c hl) ?_;refine uM o1 ?_;refine aq.intro (wg me) ?_;refine uM o2 ?_;refine aE.intro (Ao c lV) ?_;by_cases fE:c.bU=1000000
  ·have k:c.bU>=1000000:=by omega
   rw[if_pos fE];refine Ey k ?_
   first|exact True.intro|exact⟨rfl,rfl⟩
  have k:¬(c.bU>=1000000):=by omega
  rw[if_neg fE];refine Ew k w1 ?_;refine cT (wL (Kf (c.bU+1)) rfl rfl pX) ?_
  first|exact True.intro|rfl|exact⟨rfl,rfl⟩
theorem X0 (c:bw) (me:Int) (hl:c.bj.length<=maxLen):aY Tryz.prog 247 [] [c.ro,vI me] (fY c me).rv []:=by
 obtain⟨σ,h⟩:=EI (fY c me);exact(Vg c me hl).val [] h
theorem agl (m:c9) (me:Int) (h1:m.cl.bj.length<=maxLen) (h2:m.az.length<=maxLen):aY Tryz.prog 248 [] [m.ro,vI me] (jq m me).av (jq m me).out:=by
 refine aF Md false Tryz.f248 ?_;conv=>enter[1];reduce
 refine bI Tryz.f248 47 [.cell 4 202] (by kernel_rfl) (by decide +kernel) rfl ?_;unfold jq;refine au ?_;refine aq.intro (Mv m h1 h2) ?_;cases a1:i6 m with
 | false=>
  refine Eu a1 ?_;exact⟨rfl,rfl⟩
 | true=>
  obtain⟨hr,gU⟩:=ra a1;have hp:=hr.p;have ha:=hr.a;have nG:=(gB hr.l).1;refine sd a1 ?_;refine aq.intro (wg me) ?_;cases a2:aS me 1 20 with
  | false=>
   simp -implicitDefEqProofs only[go_sem,Bool.not_false,aT,aV];exact⟨rfl,rfl⟩
  | true=>
   have w1:IntKind.i64.wrap (m.cl.aP.size - (m.az.length:Int))=m.cl.aP.size - (m.az.length:Int):=aN (by omega);refine Im w1 ?_;by_cases d:(m.az.length:Int)<m.cl.aP.size
   ·have d':(m.cl.aP.size - (m.az.length:Int)==0)=false:=by rw[beq_eq_false_iff_ne];omega
    by_cases d8:m.cl.aP.size - (m.az.length:Int)>8
    ·have ab:=wL (F0 m.az.length 8) rfl rfl pX;have e8:min (m.cl.aP.size - (m.az.length:Int)) 8=8:=by omega
     rw[if_pos d,e8];simp -implicitDefEqProofs only[go_sem,d,d',d8]
     repeat' first
      | (with_reducible refine And.intro ?_ ?_)
      | (refine aE.intro (HB m ha (by omega)) ?_;simp -implicitDefEqProofs only[go_sem])
      | (refine aq.intro ab ?_;simp -implicitDefEqProofs only[go_sem])
    have ab:=wL (F0 m.az.length (m.cl.aP.size - m.az.length)) rfl rfl pX;have e8:min (m.cl.aP.size - (m.az.length:Int)) 8=m.cl.aP.size - (m.az.length:Int):=by omega
    rw[if_pos d,e8];simp -implicitDefEqProofs only[go_sem,d,d',d8]
    repeat' first
     | (with_reducible refine And.intro ?_ ?_)
     | (refine aE.intro (HB m ha (by omega)) ?_;simp -implicitDefEqProofs only[go_sem])
     | (refine aq.intro ab ?_;simp -implicitDefEqProofs only[go_sem])
   have d':(m.cl.aP.size - (m.az.length:Int)==0)=true:=by rw[beq_iff_eq];omega
   refine b8 d d' ?_;refine aE.intro (Vg m.cl me h1) ?_;generalize hT:fY m.cl me=T;refine au ?_;refine aE.intro (Vh m T ha (by omega)) ?_;exact dy
def gx.rv (w:gx):AV:=.agg (w.cs (.ro 1 (w.cS.cl.bj.map dz)) (.ro 1 (w.cS.az.map cF)) (.ro 3 (w.bR.map aC.cs)) (.ro 13 (w.dN.map ez.cs)) (.ro 5 (w.acc.map cg.cs)) (.ro 5 (w.kx.map cg.cs)))
theorem EA (t:gx):∃σ,((kU t.out []).bind fun σ=>jZ σ t.av)=some (σ,t.rv):=by
 have h:(((kU t.out []).bind fun σ=>jZ σ t.av).map fun x=>x.2)=some t.rv:=by
  simp -implicitDefEqProofs only[go_sem,kU,jZ,gx.rv,sub]
 obtain⟨⟨σ,v⟩,h1,h2⟩:=cP h;cases h2;exact⟨σ,h1⟩
theorem X2 (m:c9) (me:Int) (h1:m.cl.bj.length<=maxLen) (h2:m.az.length<=maxLen):aY Tryz.prog 227 [] [m.ro,vI me] (jq m me).rv []:=by
 obtain⟨σ,h⟩:=EA (jq m me);exact(agr m me h1 h2).val [] h
theorem XZ (m:c9) (me:Int) (h1:m.cl.bj.length<=maxLen) (h2:m.az.length<=maxLen):aY Tryz.prog 248 [] [m.ro,vI me] (jq m me).rv []:=by
 obtain⟨σ,h⟩:=EA (jq m me);exact(agl m me h1 h2).val [] h
theorem X6 (m:c9) (me:Int) (l:aC) (h1:m.cl.bj.length<=maxLen) (h2:m.az.length<=maxLen):aY Tryz.prog 169 [] [m.ro,vI me,.agg l.cs] (jr m me l).rv []:=by
 obtain⟨σ,h⟩:=EA (jr m me l);exact(agM m me l h1 h2).val [] h
theorem X3 (m:c9) (me:Int) (l:aC) (h1:m.cl.bj.length<=maxLen) (h2:m.az.length<=maxLen):aY Tryz.prog 191 [] [m.ro,vI me,.agg l.cs] (jr m me l).rv []:=by
 obtain⟨σ,h⟩:=EA (jr m me l);exact(agF m me l h1 h2).val [] h
def fm.rv (h:fm):AV:=.agg (h.aH.cs++[.ro 7 (h.aQ.map bD.cs),.ro 3 (h.eG.map cR.cs),.ro 11 (h.kept.toList.map iZ.rc),.ro 3 (h.bR.map aC.cs),.ro 13 (h.dN.map ez.cs)])
def Gb:Option iZ->List (Nat × Nat × Nat)
 | none=>[]
 | some _=>[(2,0,10)]
theorem SS (t:fm):∃σ,((kU t.out (Gb t.kept)).bind fun σ=>jZ σ t.av)=some (σ,t.rv):=by
 obtain⟨d,w,r,k,l,a⟩:=t;have h:(((kU (fm.out ⟨d,w,r,k,l,a⟩) (Gb k)).bind fun σ=>jZ σ (fm.av ⟨d,w,r,k,l,a⟩)).map fun x=>x.2)=some (fm.rv ⟨d,w,r,k,l,a⟩):=by
  cases k with
  | none=>simp -implicitDefEqProofs only[go_sem,kU,jZ,C8,tc,Gb,fm.rv,sub]
  | some k=>simp -implicitDefEqProofs only[go_sem,kU,jZ,C8,tc,Gb,fm.rv,sub]
 obtain⟨⟨σ,v⟩,h1,h2⟩:=cP h;cases h2;exact⟨σ,h1⟩
theorem Ox (w:bz) (me:Int) (l:aC) (hd:w.aH.ok) (hl:w.aQ.length<=maxLen) (ml:∀x∈w.aQ,x.pt.root.ok):aY Tryz.prog 184 [] [w.ro,vI me,.agg l.cs] (fX w me l).rv []:=by
 obtain⟨σ,h⟩:=SS (fX w me l);exact(agH w me l hd hl ml).val _ h
theorem afk (w:bz) (me:Int) (l:aC) (hd:w.aH.ok) (hl:w.aQ.length<=maxLen):aY Tryz.prog 163 [] [w.ro,vI me,.agg l.cs] (fX w me l).av (fX w me l).out:=by
 refine aF Md false Tryz.f163 ?_;conv=>enter[1];reduce
 refine bI Tryz.f163 87 [.cell 6 189] (by kernel_rfl) (by decide +kernel) rfl ?_;unfold fX;refine au ?_;refine aq.intro (agv w hd hl) ?_;cases a1:iQ w with
 | false=>
  simp -implicitDefEqProofs only[go_sem,a1,Bool.not_false,Bool.false_and,Bool.false_eq_true,bb]
  first|done|rfl|exact⟨rfl,rfl⟩
 | true=>
  have zI:=tH a1;refine sd a1 ?_;refine aq.intro (wh l) ?_;cases a2:df l with
  | false=>
   refine Il ?_
   first|exact True.intro|rfl|exact⟨rfl,rfl⟩
  | true=>
   have dv:l.text.size<=600:=by
    simp only[df,Bool.and_eq_true,decide_eq_true_eq]at a2;omega
   cases a3:aS me 1 20 with
   | false=>
    by_cases n1:me<1
    ·simp -implicitDefEqProofs only[go_sem,n1,Bool.not_true,Bool.and_self,Bool.and_true,Bool.and_false,Bool.false_eq_true,bb]
     first|done|rfl|exact⟨rfl,rfl⟩
    have n2:me>20:=by
     have:¬(1<=me/\me<=20):=fun h=>by rw[cr.2 h]at a3;cases a3
     omega
    simp -implicitDefEqProofs only[go_sem,n1,n2,Bool.not_true,Bool.and_self,Bool.and_true,Bool.and_false,Bool.false_eq_true,bb]
    first|done|rfl|exact⟨rfl,rfl⟩
   | true=>
    have k3:=cr.1 a3;have n1:¬(me<1):=by omega
    have n2:¬(me>20):=by omega
    have Lo:=DF w.aQ (by omega);have xG:=DB l.text (by omega);have hwh:=Mu w.aH hd;have ir:=xv l.text;have iT:=wI l.text;generalize hW:cf l.text=W at *;obtain⟨x,code,at_⟩:=W;simp only at ir iT;have xJ:=agu w (cO w.aH) me l.from_ x zI;have nB:=XF w (cO w.aH) me l.from_ x.bU ⟨x.size,x.root⟩;have rF:=adL w (cO w.aH) me x zI;have zR:=fun(hc:code=0)=>agt w (cO w.aH) me x zI hd (iT hc).2.2.1 ir.1
    generalize cO w.aH=held at *;simp -implicitDefEqProofs only[go_sem,n1,n2,Bool.not_true,Bool.and_self,if_true,bb]
    with_reducible refine And.intro ?_ ?_
    all_goals
     refine cT Lo ?_;refine ep xG ?_;refine aq.intro hwh ?_;cases b1:(code==0)<;>cases b2:(x.kind==3)<;>cases b4:(x.kind==5)<;>cases b3:(l.from_==0)<;>by_cases b5:l.from_>0;all_goals first
      | (exfalso;simp only[beq_iff_eq]at b3;omega)
      | (exfalso;simp only[beq_iff_eq]at b2 b4;omega)
      | skip
     all_goals simp -implicitDefEqProofs only[go_sem,b1,b2,b3,b4,b5,bne,Bool.not_true,Bool.not_false,Bool.and_true,Bool.and_false,Bool.true_and,Bool.false_and,Bool.false_eq_true,if_false,if_true,bb]
     all_goals first
      | (refine aE.intro xJ ?_
         generalize jR w held me l.from_ x.bU ⟨x.size,x.root⟩=T at *;obtain⟨dd,ww,rr,kk,ll,aa⟩:=T;simp only at nB;cases kk with
         | none=>
          refine au ?_;refine cT (pe ll (by omega)) ?_;refine aq.intro (Dx aa (by omega)) ?_;exact dy
         | some k=>
          refine au ?_;refine cT (pe ll (by omega)) ?_;refine aq.intro (Dx aa (by omega)) ?_;simp -implicitDefEqProofs only[go_sem])
      | (have o4:code=0:=by simpa using b1
         refine aE.intro (zR o4) ?_;generalize k9 w held me x=T at *;obtain⟨dd,ww,rr,kk,ll,aa⟩:=T;simp only at rF;cases kk with
         | none=>
          refine au ?_;refine cT (pe ll (by omega)) ?_;refine aq.intro (Dx aa (by omega)) ?_;exact dy
         | some k=>
          refine au ?_;refine cT (pe ll (by omega)) ?_;refine aq.intro (Dx aa (by omega)) ?_;simp -implicitDefEqProofs only[go_sem])
      | (refine aq.intro Mn ?_
         refine au ?_;refine aq.intro afo ?_;simp -implicitDefEqProofs only[go_sem])
theorem Oy (w:bz) (me:Int) (l:aC) (hd:w.aH.ok) (hl:w.aQ.length<=maxLen):aY Tryz.prog 163 [] [w.ro,vI me,.agg l.cs] (fX w me l).rv []:=by
 obtain⟨σ,h⟩:=SS (fX w me l);exact(afk w me l hd hl).val _ h
end
section
set_option maxHeartbeats 4000000
set_option maxRecDepth 10000
set_option linter.unusedSectionVars false
def ae7:cc:=⟨[(107,.cm [true,false]),(162,.cm [true,false]),(167,.cm [true,false,false]),(183,.cm [true,false]),(187,.cm [true,false,false]),(221,.cm [true,false,false,false]),(240,.cm [true,false,false,false])],cw,cz,false⟩
attribute [-go_sem] ei
structure cW.uv (t:cW):Prop where
 l:t.bR.length<=1000
 a:t.acc.length<=1000
 x:t.dN.length<=1000
theorem ae.wf.UH {w:ae}(h:w.wf) (i:Nat) {c:bw}(hc:dG c=true):ae.wf {w with cls:=w.cls.set i c}:=
 ⟨h.so,h.nw,by show((w.cls.set _ _).length:Int)=_;rw[List.length_set];exact h.nc,by show w.up.length=w.aj.length+(w.cls.set _ _).length+2;rw[List.length_set];exact h.nu,by show w.ai.length=w.aj.length+(w.cls.set _ _).length+2;rw[List.length_set];exact h.nb,h.rm,h.lg,h.bl,h.bg,h.bx,h.wt,mem_set h.cl hc,h.mn⟩
theorem ae.wf.dM {w:ae}(h:w.wf):0<w.ai.length:=by have:=h.nb;omega
theorem ae.wf.hx {w:ae}(h:w.wf):∀r g sz,ei (gi r g sz w.bx)=[(r,g)]:=dR (by rw[dh];exact h.dM)
theorem Hv (l:List bw) (i:Nat) (c:bw):(l.map bw.rc).set i (c.cs (.ro 1 (c.bj.map dz)))=(l.set i c).map bw.rc:=by rw[List.map_set];rfl
attribute [go_sem] cW.rv cW.cs
theorem Bk.len {w v:ae}{c:Nat}(h:Bk w v c):v.book.length<=w.book.length+c:=by
 obtain⟨L,e1,e2,-⟩:=h;rw[e1,List.length_append];omega
theorem iN.hx {w v:ae}(h:iN w v) (hb:0<w.ai.length):∀r g sz,ei (gi r g sz v.bx)=[(r,g)]:=dR (by rw[dh,h.ai];exact hb)
theorem VH (w:ae) (n:Nat) (t:cW) (h:w.wf) (hn:w.aj.length<n/\n<=w.aj.length+w.cls.length) (ht:dG t.cl=true) (hl:∀x∈t.bR,df x=true) (hf:t.uv) (hb:w.book.length<=3800000000):
  aY Tryz.prog 170 (eL w) [eI,vI n,t.rv] (.aZ []) (iA (oQ w n t)):=by
 refine aF ae7 false Tryz.f170 ?_;conv=>enter[1];reduce
 refine bI Tryz.f170 30 [] (by kernel_rfl) (by decide +kernel) rfl ?_;have hx:=h.hx;have hs:=ea h.so;have h1:=h.nw;have h2:=h.nc;have hk:n - w.aj.length - 1<w.cls.length:=by omega
 have mY:=HO w n h.so (by omega) h.dM;rw[cr.2 (by omega),if_pos rfl,show(n:Int) - w.set.many - 1=((n - w.aj.length - 1:Nat):Int) by omega]at mY;have aD:=Hv w.cls (n - w.aj.length - 1) t.cl;unfold oQ;have hv:=h.UH (n - w.aj.length - 1) ht;generalize n - w.aj.length - 1=k at *;have bV:(k:Int)<(w.cls.length:Int):=by omega
 have hg:w.cls[k]?=some w.cls[k]:=bm hk;simp only[bw.cs]at aD;have c1:=DC _ t.bR hv hl hf.l;have b1:=(rY {w with cls:=w.cls.set k t.cl} t.bR).len;have w1:=hv.send hl;generalize fP {w with cls:=w.cls.set k t.cl} t.bR=u at *;have b1:u.book.length<=w.book.length+0:=b1;have c2:=MT u 1 n t.acc (by omega) w1.dM hf.a;have b2:=(rZ u 1 n t.acc).len;have f2:=fV u 1 n t.acc;have a1:=hf.a;generalize iD u 1 n t.acc=v at *;have c3:=MY v n t.dN (by omega) (by rw[f2.ai];exact w1.dM) hf.x;have f3:=gG v n t.dN;generalize il v n t.dN=z at *;have fQ:=w1.hx;have aW:=f2.hx w1.dM;have cD:=(f2.trans f3).hx w1.dM;refine aA hx ?_;refine aE.intro mY ?_;simp -implicitDefEqProofs only[go_sem,hx,hk,bV,hg,bw.rc,aD];refine aE.intro (res:=.aZ []) (σout:=eL u) (by simp -implicitDefEqProofs only[go_sem,List.length_set]at c1 ⊢;exact c1) ?_;refine b8 hx fQ ?_;refine eK c2 fQ aW ?_;refine aE.intro c3 ?_;exact dp aW cD
end
section
set_option maxHeartbeats 4000000
set_option maxRecDepth 10000
set_option linter.unusedSectionVars false
def Mi:cc:=⟨[(106,.cm [true]),(162,.cm [true,false]),(167,.cm [true,false,false]),(183,.cm [true,false]),(187,.cm [true,false,false]),(221,.cm [true,false,false,false]),(240,.cm [true,false,false,false])],cw,cz,false⟩
attribute [-go_sem] ei
attribute [go_sem] gx.rv
theorem VB (w:ae) (n:Nat) (t:cW) (h:w.wf) (hn:w.aj.length<n/\n<=w.aj.length+w.cls.length) (ht:dG t.cl=true) (hl:∀x∈t.bR,df x=true) (hf:t.uv) (hb:w.book.length<=3800000000):
  aY Tryz.prog 188 (gJ w) [vA w 1000000,vI n,t.rv] (vA (oQ w n t) 0) (eX (oQ w n t)):=by
 refine aF Mi false Tryz.f188 ?_;conv=>enter[1];reduce
 refine bI Tryz.f188 32 [.cell 6 64] (by kernel_rfl) (by decide +kernel) rfl ?_;have hx:=h.hx;have hs:=ea h.so;have h1:=h.nw;have h2:=h.nc;have hk:n - w.aj.length - 1<w.cls.length:=by omega
 have z1:IntKind.i64.wrap ((n:Int) - w.set.many)=(n:Int) - w.set.many:=aN (by omega);have z2:IntKind.i64.wrap ((n:Int) - w.set.many - 1)=((n - w.aj.length - 1:Nat):Int):=by rw[aN (by omega)];omega
 have aD:=Hv w.cls (n - w.aj.length - 1) t.cl;unfold oQ;have hv:=h.UH (n - w.aj.length - 1) ht;generalize n - w.aj.length - 1=k at *;have bV:(k:Int)<(w.cls.length:Int):=by omega
 have hg:w.cls[k]?=some w.cls[k]:=bm hk;simp only[bw.cs]at aD;have c1:=Dz _ t.bR hv hl hf.l;have b1:=(rY {w with cls:=w.cls.set k t.cl} t.bR).len;have w1:=hv.send hl;generalize fP {w with cls:=w.cls.set k t.cl} t.bR=u at *;have b1:u.book.length<=w.book.length+0:=b1;have c2:=MO u 1 n t.acc (by omega) w1.dM hf.a;have b2:=(rZ u 1 n t.acc).len;have f2:=fV u 1 n t.acc;have a1:=hf.a;generalize iD u 1 n t.acc=v at *;have c3:=MV v n t.dN (by omega) (by rw[f2.ai];exact w1.dM) hf.x;have f3:=gG v n t.dN;generalize il v n t.dN=z at *;have fQ:=w1.hx;have aW:=f2.hx w1.dM;have cD:=(f2.trans f3).hx w1.dM;simp -implicitDefEqProofs only[go_sem,hx,z1,z2,hk,bV,hg,bw.rc,aD];refine aE.intro (res:=vA u 0) (σout:=eX u) (by simp -implicitDefEqProofs only[go_sem,List.length_set]at c1 ⊢;exact c1) ?_;refine b8 hx fQ ?_;refine eK c2 fQ aW ?_;refine aE.intro c3 ?_;exact dp aW cD
structure gx.uv (t:gx):Prop where
 l:t.bR.length<=1000
 a:t.acc.length<=1000
 c:t.kx.length<=1000
 x:t.dN.length<=1000
theorem ae.wf.Rd {w:ae}(h:w.wf) {m:c9}(hm:i6 m=true):ae.wf {w with cS:=m}:=⟨h.so,h.nw,h.nc,h.nu,h.nb,h.rm,h.lg,h.bl,h.bg,h.bx,h.wt,h.cl,hm⟩
theorem ae.wf.last {w:ae}(h:w.wf):w.set.many+w.set.bB+1=((w.aj.length+w.cls.length+1:Nat):Int):=by
 have h1:=h.nw;have h2:=h.nc;omega
theorem t6 {w:ae}(h:ij w.set=true) (hb:0<w.ai.length) {n:Nat}(e:w.set.many+w.set.bB+1=(n:Int)):aY Tryz.prog 106 (eL w) [eI] (vI n) (eL w):=by
 rw[<-e];exact ag9 w h hb
theorem VI (w:ae) (n:Nat) (t:gx) (h:w.wf) (hn:n=w.aj.length+w.cls.length+1) (ht:i6 t.cS=true) (hl:∀x∈t.bR,df x=true) (hf:t.uv) (hb:w.book.length<=3800000000):
  aY Tryz.prog 168 (eL w) [eI,t.rv] (.aZ []) (iA (oP w n t)):=by
 refine aF Mi false Tryz.f168 ?_;conv=>enter[1];reduce
 refine bI Tryz.f168 31 [] (by kernel_rfl) (by decide +kernel) rfl ?_;have hx:=h.hx;have gZ:=h.last;rw[<-hn]at gZ;unfold oP;have hv:=h.Rd ht;have c1:=DC _ t.bR hv hl hf.l;have b1:=(rY {w with cS:=t.cS} t.bR).len;have e1:=(lq {w with cS:=t.cS} t.bR).set;have w1:=hv.send hl;generalize fP {w with cS:=t.cS} t.bR=u at *;have b1:u.book.length<=w.book.length+0:=b1;have e1:u.set=w.set:=e1;have c2:=MT u 1 n t.acc (by omega) w1.dM hf.a;have l1:=t6 (n:=n) w1.so w1.dM (by rw[e1];exact gZ);have b2:=(rZ u 1 n t.acc).len;have f2:=fV u 1 n t.acc;have a1:=hf.a;generalize iD u 1 n t.acc=v at *;have c3:=MT v 5 n t.kx (by omega) (by rw[f2.ai];exact w1.dM) hf.c;have l2:=t6 (w:=v) (n:=n) (by rw[f2.set];exact w1.so) (by rw[f2.ai];exact w1.dM) (by rw[f2.set,e1];exact gZ);have b3:=(rZ v 5 n t.kx).len;have f3:=f2.trans (fV v 5 n t.kx);have a2:=hf.c;generalize iD v 5 n t.kx=y at *;have c4:=MY y n t.dN (by omega) (by rw[f3.ai];exact w1.dM) hf.x;have l3:=t6 (w:=y) (n:=n) (by rw[f3.set];exact w1.so) (by rw[f3.ai];exact w1.dM) (by rw[f3.set,e1];exact gZ);have f4:=f3.trans (gG y n t.dN);generalize il y n t.dN=z at *;have fQ:=w1.hx;have aW:=f2.hx w1.dM;have cD:=f3.hx w1.dM;have lb:=f4.hx w1.dM;refine aA hx ?_;refine eK c1 hx fQ ?_;refine eW l1 fQ ?_;refine eK c2 fQ aW ?_;refine eW l2 aW ?_;refine eK c3 aW cD ?_;refine eW l3 cD ?_;refine aE.intro c4 ?_;exact dp cD lb
theorem Vz (w:ae) (n:Nat) (t:gx) (h:w.wf) (hn:n=w.aj.length+w.cls.length+1) (ht:i6 t.cS=true) (hl:∀x∈t.bR,df x=true) (hf:t.uv) (hb:w.book.length<=3800000000):
  aY Tryz.prog 190 (gJ w) [vA w 1000000,vI n,t.rv] (vA (oP w n t) 0) (eX (oP w n t)):=by
 refine aF Mi false Tryz.f190 ?_;conv=>enter[1];reduce
 refine bI Tryz.f190 29 [.cell 6 64] (by kernel_rfl) (by decide +kernel) rfl ?_;have hx:=h.hx;unfold oP;have hv:=h.Rd ht;have c1:=Dz _ t.bR hv hl hf.l;have b1:=(rY {w with cS:=t.cS} t.bR).len;have w1:=hv.send hl;generalize fP {w with cS:=t.cS} t.bR=u at *;have b1:u.book.length<=w.book.length+0:=b1;have c2:=MO u 1 n t.acc (by omega) w1.dM hf.a;have b2:=(rZ u 1 n t.acc).len;have f2:=fV u 1 n t.acc;have a1:=hf.a;generalize iD u 1 n t.acc=v at *;have c3:=MO v 5 n t.kx (by omega) (by rw[f2.ai];exact w1.dM) hf.c;have b3:=(rZ v 5 n t.kx).len;have f3:=f2.trans (fV v 5 n t.kx);have a2:=hf.c;generalize iD v 5 n t.kx=y at *;have c4:=MV y n t.dN (by omega) (by rw[f3.ai];exact w1.dM) hf.x;have f4:=f3.trans (gG y n t.dN);generalize il y n t.dN=z at *;have fQ:=w1.hx;have aW:=f2.hx w1.dM;have cD:=f3.hx w1.dM;have lb:=f4.hx w1.dM;refine aA hx ?_;refine eK c1 hx fQ ?_;refine eK c2 fQ aW ?_;refine eK c3 aW cD ?_;refine aE.intro c4 ?_;exact dp cD lb
end
section
set_option maxHeartbeats 4000000
set_option maxRecDepth 10000
set_option linter.unusedSectionVars false
def ae4:cc:=⟨[(239,.cm [true,false])],cw,cz,false⟩
attribute [-go_sem] ei
theorem acM (x:aC):xC x=((cf x.text).1.kind==6):=by
 unfold xC;cases h:((cf x.text).2.1==0) with
 | true=>rw[Bool.true_and]
 | false=>
  have h:¬(cf x.text).2.1=0:=by simpa using h
  rw[Bool.false_and,Od (s:=x.text) (m:=(cf x.text).1) (c:=(cf x.text).2.1) (a:=(cf x.text).2.2) rfl h];rfl
def Ny (n:Int) (x:aC):dK:=⟨3,n,x.iB,0,0,.zero,⟨(cf x.text).1.size,(cf x.text).1.root⟩,[]⟩
theorem WG (w:ae) (n:Int) (l:List aC) {i:Nat}(h:i<l.length):iE w n (l.take (i+1))=if xC l[i] then ik (iE w n (l.take i)) (Ny n l[i]) else iE w n (l.take i):=by
 unfold iE;rw[List.take_succ_eq_append_getElem h,List.foldl_append];rfl
theorem agG (w:ae) (n:Int) (l:List aC) (h:w.book.length<=3900000000) (hb:0<w.ai.length) (hn:l.length<=1000) (hl:∀x∈l,df x=true):aY Tryz.prog 186 (gJ w) [vA w 1000000,vI n,.ro 3 (l.map aC.cs)] (vA (iE w n l) 0) (eX (iE w n l)):=by
 refine aF ae4 false Tryz.f186 ?_;conv=>enter[1];reduce
 refine bI Tryz.f186 43 [.cell 6 64] (by kernel_rfl) (by decide +kernel) rfl ?_;have hm:l.length<=maxLen:=by unfold maxLen;omega
 have hx:=dR (bs:=w.bx) (by rw[dh];exact hb);refine aA hx ?_;refine im (fun m s=>∃(i:Nat),i<=l.length/\m=l.length - i/\s=⟨43,[(1,vI n),(2,.ro 3 (l.map aC.cs)),(3,.ptr 3 0 [] 35 0 0),(6,.ptr 6 0 [] 35 0 0),(7,vI i)],(3,0,one ⟨35,[(iE w n (l.take i)).cells 10003 10000],0,false⟩)::(iE w n (l.take i)).rows 10003 10000++[(6,0,one ⟨35,[jL],0,false⟩)],1⟩) l.length (bO.intro (aB.b9 [] [1,2,3,6,7] _) ?_) ?_
 ·refine aA hx ?_;exact⟨0,aR _,rfl,rfl⟩
 rintro m s ⟨i,hi,rfl,rfl⟩;rcases bp i l.length with ab|bM
 ·have ah:(i:Int)<(l.length:Int):=by omega
  have hg:l[i]?=some l[i]:=bm ab;have hw:=dx ab hm;have hv:=qK w n (l.take i);have hk:=DI w n (l.take i);have ht:=WG w n l ab;generalize iE w n (l.take i)=v at *;have lf:v.book.length<=4000000000:=by
   obtain⟨L,e1,e2,-⟩:=hk;rw[e1,List.length_append];rw[List.length_take]at e2;omega
  have aW:=dR (bs:=v.bx) (by rw[dh,hv.ai];exact hb);have dv:=(xy (hl _ (List.getElem_mem ab))).2.2;have xG:=Dw l[i].text (by omega);rw[acM]at ht;unfold Ny at ht;have hc:=Ca v ⟨3,n,l[i].iB,0,0,.zero,⟨(cf l[i].text).1.size,(cf l[i].text).1.root⟩,[]⟩ lf (by rw[hv.ai];exact hb) rfl;have dH:=qK w n (l.take (i+1));generalize hu:iE w n (l.take (i+1))=u at *;have cD:=dR (bs:=u.bx) (by rw[dh,dH.ai];exact hb);generalize cf l[i].text=W at *;refine dP ah hg hw aW ?_;refine aq.intro xG ?_;cases ug:(W.1.kind==6) with
  | true=>
   rw[if_pos ug]at ht;rw[<-ht]at hc;refine qc ug ah hg hw aW ?_;refine ji hc hw aW cD ?_;refine fh.intro (l.length - (i+1)) (by omega) (aB.b9 [] [1,2,3,6,7] _) ?_;refine aA cD ?_;refine⟨i+1,ab,rfl,?_⟩;subst hu;rfl
  | false=>
   rw[if_neg (by rw[ug];decide)]at ht;refine qc ug ah hg hw aW ?_;refine fh.intro (l.length - (i+1)) (by omega) (aB.b9 [] [1,2,3,6,7] _) ?_;refine aA aW ?_;refine⟨i+1,ab,rfl,?_⟩;subst hu;rw[ht]
 have hi:i=l.length:=by omega
 subst hi;have ah:¬((l.length:Int)<(l.length:Int)):=by omega
 have aW:=dR (bs:=(iE w n l).bx) (by rw[dh,(qK w n l).ai];exact hb);exact sg ah aW
end
theorem Lg {c:bw}{me:Int}{x:aC}(ho:jc c me x=true):(jH c me x).uv:=by
 have k:=xA ho;have hc:dG c=true:=by
  unfold jc at ho;simp only[Bool.and_eq_true]at ho;exact ho.1
 have hp:=(Am hc).m;refine⟨?_,by have:=Nz k;omega,by have:=Nt (c:=c) (me:=me) (l:=x);omega⟩;rcases k.RZ with e|⟨e,-⟩
 ·rw[e];exact aR _
 rw[e,List.length_map,List.length_range];omega
theorem IP (c:bw) (me:Int):(fY c me).uv:=by
 refine⟨?_,by rw[yZ.1];exact aR _,by rw[yZ.2];exact aR _⟩;unfold fY
 repeat' split
 all_goals first|exact aR _|(show 1<=1000;omega)
theorem Rc (m:c9) (me:Int):(jq m me).uv:=by
 refine⟨?_,by rw[zw.1];exact aR _,by rw[zw.2.2];exact aR _,by rw[zw.2.1];exact aR _⟩;unfold jq
 repeat' split
 ·show 1<=1000;omega
 ·exact(IP m.cl me).l
 exact aR _
theorem Rf {m:c9}{me:Int}{x:aC}(h1:i6 m=true) (h2:df x=true) (h3:aS me 1 20=true):(jr m me x).uv:=by
 have hc:dG m.cl=true:=(j7.of h1).c;have ho:jc m.cl me x=true:=by unfold jc;rw[hc,h2,h3];rfl
 have hf:=Lg ho;have GN:=Uz (BT h1 h2 h3).1;have ha:=(J5 (m:=m) (me:=me) (l:=x)).1;refine⟨?_,?_,by omega,by omega⟩
 ·unfold jr;split
  ·split
   ·unfold oT
    repeat' split
    all_goals exact aR _
   exact hf.l
  exact aR _
 rcases(J5 (m:=m) (me:=me) (l:=x)).2 with e|e
 ·omega
 rw[e];exact hf.a
theorem WE {w:ae}(h:w.wf) (n:Int) (l:List aC):(iE w n l).wf:=h.note (qK _ _ _) (Wm _ _ _)
theorem Sf {w:ae}(h:w.wf) (n:Int) (l:List iZ):(fC w n l).wf:=h.note (kK _ _ _) (Nj _ _ _)
theorem Wy {w:ae}(h:w.wf) (n:Int) (l:List ez):(il w n l).wf:=h.note (gG _ _ _) (HU _ _ _)
theorem vl {w:bz}{H:fm}(hm:uF w H):∀k∈H.kept.toList,k.proof.length<=1000:=by
 intro k hk;refine(hm.k k ?_).2;cases bV:H.kept with
 | none=>rw[bV]at hk;cases hk
 | some y=>rw[bV]at hk;rw[List.mem_singleton.1 hk]
theorem sh (l:List bz) (i:Nat) (d:cX) (ws:List bD):(l.map bz.rc).set i (d.cs++[.ro 7 (ws.map bD.cs)])=(l.set i ⟨d,ws⟩).map bz.rc:=by rw[List.map_set];rfl
end Go.Proofs.YtobpfkgabdeefaaGreat.E
