/- Contracts by value: clients, monitors, witnesses that hear and tick; Contracts: what comes of something to a client; Contracts: what comes of something to a client, in the reference; to the monitor; Contracts: the reference notes acknowledgements; What comes of hearing and ticking is little: plain facts -/
import Derived.Test.YtobpfkgabdeefaaGreatP22
import Derived.Test.YtobpfkgabdeefaaGreatP31
import Derived.Test.YtobpfkgabdeefaaGreatP20
import Derived.Test.YtobpfkgabdeefaaGreatP27
import Derived.Test.YtobpfkgabdeefaaGreatP32
import Derived.Test.YtobpfkgabdeefaaGreatP13
import Derived.Test.YtobpfkgabdeefaaGreatP18
namespace Go.Proofs.YtobpfkgabdeefaaGreat.E
open Go Go.RowKit
set_option linter.unusedSimpArgs false
set_option linter.unusedVariables false
section
set_option maxHeartbeats 4000000
set_option maxRecDepth 10000
set_option linter.unusedSectionVars false
def Mm:bX:=⟨[(165,.cm [false]),(214,.cm [true,false,false,false,false]),(215,.cm [true,false,false,false]),(244,.cm [false]),(246,.cn [false,true]),(247,.cm [false,false]),(279,.cn [false])],[9,10,11],[24,26,30,44,47,50,51,52,57,58,59,62,76,88,138,185,186,187,253,254,297,311],false⟩
theorem XW (c:bu) (me:Int) (l:aB) (hl:c.bt.length≤maxLen):bb Tryz.prog 171 [] [c.ro,vI me,.agg l.cs] (jo c me l).rv []:=by
 obtain⟨σ,h⟩:=EF (jo c me l);exact(VD c me l hl).val [] h
theorem XV (c:bu) (me:Int) (l:aB) (hl:c.bt.length≤maxLen):bb Tryz.prog 189 [] [c.ro,vI me,.agg l.cs] (jo c me l).rv []:=by
 obtain⟨σ,h⟩:=EF (jo c me l);exact(Vy c me l hl).val [] h
theorem Vf (c:bu) (me:Int) (hl:c.bt.length≤maxLen):bb Tryz.prog 247 [] [c.ro,vI me] (fP c me).ta (fP c me).rZ:=by
 refine aA Mm false Tryz.f247 ?_;conv=>enter[1];reduce
 refine bT Tryz.f247 47 [.cell 4 206] (by kernel_rfl) (by decide +kernel) rfl ?_;unfold fP;cases aF:dC c&&aT me 1 20 with
 | false=>
  rw[if_neg (by simp)];simp -implicitDefEqProofs only[go_sem]
  repeat' first|(refine aq.intro (by first|exact yC c hl|exact vR me) ?_;try simp -implicitDefEqProofs only[go_sem,aZ,aY])|(refine aD.intro (by first|exact yC c hl|exact vR me) ?_;try simp -implicitDefEqProofs only[go_sem,aZ,aY])|(refine ew (fun h=>?_) (fun h=>?_)<;>try simp -implicitDefEqProofs only[go_sem,aZ,aY,h])|(refine b8 (fun h=>?_) (fun h=>?_)<;>try simp -implicitDefEqProofs only[go_sem,aZ,aY,h])
  all_goals first
   | exact⟨rfl,rfl⟩
   | (exfalso;simp_all;done)
   | trace_state
 | true=>
  rw[if_pos rfl];simp only[Bool.and_eq_true]at aF;obtain⟨o1,o2⟩:=aF;obtain⟨qj,lL⟩:=sX o1;have hs:0≤c.bR∧c.bR≤1000000:=by
   simp only[dC,Bool.and_eq_true]at o1;exact cf.1 o1.2.2.2.1
  have w1:IntKind.i64.wrap (c.bR+1)=c.bR+1:=aV (by omega);refine aw ?_;refine aq.intro (yC c hl) ?_;refine uG o1 ?_;refine aq.intro (vR me) ?_;refine uG o2 ?_;refine aD.intro (Au c lL) ?_;by_cases fm:c.bR=1000000
  ·have k:c.bR≥1000000:=by omega
   rw[if_pos fm];refine Ew k ?_
   first|exact True.intro|exact⟨rfl,rfl⟩|trace_state
  have k:¬(c.bR≥1000000):=by omega
  rw[if_neg fm];refine Eu k w1 ?_;refine cz (yT (Kl (c.bR+1)) rfl rfl sO) ?_
  first|exact True.intro|rfl|exact⟨rfl,rfl⟩|trace_state
theorem XR (c:bu) (me:Int) (hl:c.bt.length≤maxLen):bb Tryz.prog 247 [] [c.ro,vI me] (fP c me).rv []:=by
 obtain⟨σ,h⟩:=EF (fP c me);exact(Vf c me hl).val [] h
theorem aga (m:cQ) (me:Int) (h1:m.cl.bt.length≤maxLen) (h2:m.az.length≤maxLen):bb Tryz.prog 248 [] [m.ro,vI me] (i7 m me).av (i7 m me).out:=by
 refine aA Mm false Tryz.f248 ?_;conv=>enter[1];reduce
 refine bT Tryz.f248 47 [.cell 4 202] (by kernel_rfl) (by decide +kernel) rfl ?_;unfold i7;refine aw ?_;refine aq.intro (UU m h1 h2) ?_;cases a1:iM m with
 | false=>
  refine Er a1 ?_;exact⟨rfl,rfl⟩
 | true=>
  obtain⟨hr,g9⟩:=r8 a1;have hp:=hr.p;have ha:=hr.a;have jZ:=(gI hr.l).1;refine uF a1 ?_;refine aq.intro (vR me) ?_;cases a2:aT me 1 20 with
  | false=>
   simp -implicitDefEqProofs only[go_sem,Bool.not_false,aZ,aY];exact⟨rfl,rfl⟩
  | true=>
   have w1:IntKind.i64.wrap (m.cl.aP.size - (m.az.length:Int))=m.cl.aP.size - (m.az.length:Int):=aV (by omega);refine Iq w1 ?_;by_cases d:(m.az.length:Int)<m.cl.aP.size
   ·have d':(m.cl.aP.size - (m.az.length:Int)==0)=false:=by rw[beq_eq_false_iff_ne];omega
    by_cases d8:m.cl.aP.size - (m.az.length:Int)>8
    ·have ab:=yT (F0 m.az.length 8) rfl rfl sO;have e8:min (m.cl.aP.size - (m.az.length:Int)) 8=8:=by omega
     rw[if_pos d,e8];simp -implicitDefEqProofs only[go_sem,d,d',d8]
     repeat' first
      | (with_reducible refine And.intro ?_ ?_)
      | (refine aD.intro (HA m ha (by omega)) ?_;simp -implicitDefEqProofs only[go_sem])
      | (refine aq.intro ab ?_;simp -implicitDefEqProofs only[go_sem])
     all_goals trace_state
    have ab:=yT (F0 m.az.length (m.cl.aP.size - m.az.length)) rfl rfl sO;have e8:min (m.cl.aP.size - (m.az.length:Int)) 8=m.cl.aP.size - (m.az.length:Int):=by omega
    rw[if_pos d,e8];simp -implicitDefEqProofs only[go_sem,d,d',d8]
    repeat' first
     | (with_reducible refine And.intro ?_ ?_)
     | (refine aD.intro (HA m ha (by omega)) ?_;simp -implicitDefEqProofs only[go_sem])
     | (refine aq.intro ab ?_;simp -implicitDefEqProofs only[go_sem])
    all_goals trace_state
   have d':(m.cl.aP.size - (m.az.length:Int)==0)=true:=by rw[beq_iff_eq];omega
   refine cg d d' ?_;refine aD.intro (Vf m.cl me h1) ?_;generalize hT:fP m.cl me=T;refine aw ?_;refine aD.intro (Vg m T ha (by omega)) ?_;exact dt
def gl.rv (w:gl):AV:=.agg (w.cs (.ro 1 (w.cD.cl.bt.map dv)) (.ro 1 (w.cD.az.map cY)) (.ro 3 (w.bM.map aB.cs)) (.ro 13 (w.dI.map ec.cs)) (.ro 5 (w.acc.map bh.cs)) (.ro 5 (w.j7.map bh.cs)))
theorem Ex (t:gl):∃σ,((kH t.out []).bind fun σ=>jg σ t.av)=some (σ,t.rv):=by
 have h:(((kH t.out []).bind fun σ=>jg σ t.av).map fun x=>x.2)=some t.rv:=by
  simp -implicitDefEqProofs only[go_sem,kH,jg,gl.rv,sub]
 obtain⟨⟨σ,v⟩,h1,h2⟩:=cJ h;cases h2;exact⟨σ,h1⟩
theorem XT (m:cQ) (me:Int) (h1:m.cl.bt.length≤maxLen) (h2:m.az.length≤maxLen):bb Tryz.prog 227 [] [m.ro,vI me] (i7 m me).rv []:=by
 obtain⟨σ,h⟩:=Ex (i7 m me);exact(agh m me h1 h2).val [] h
theorem XQ (m:cQ) (me:Int) (h1:m.cl.bt.length≤maxLen) (h2:m.az.length≤maxLen):bb Tryz.prog 248 [] [m.ro,vI me] (i7 m me).rv []:=by
 obtain⟨σ,h⟩:=Ex (i7 m me);exact(aga m me h1 h2).val [] h
theorem XX (m:cQ) (me:Int) (l:aB) (h1:m.cl.bt.length≤maxLen) (h2:m.az.length≤maxLen):bb Tryz.prog 169 [] [m.ro,vI me,.agg l.cs] (i9 m me l).rv []:=by
 obtain⟨σ,h⟩:=Ex (i9 m me l);exact(agC m me l h1 h2).val [] h
theorem XU (m:cQ) (me:Int) (l:aB) (h1:m.cl.bt.length≤maxLen) (h2:m.az.length≤maxLen):bb Tryz.prog 191 [] [m.ro,vI me,.agg l.cs] (i9 m me l).rv []:=by
 obtain⟨σ,h⟩:=Ex (i9 m me l);exact(agu m me l h1 h2).val [] h
def eS.rv (h:eS):AV:=.agg (h.aH.cs++[.ro 7 (h.aS.map bG.cs),.ro 3 (h.eu.map cL.cs),.ro 11 (h.kept.toList.map iK.rc),.ro 3 (h.bM.map aB.cs),.ro 13 (h.dI.map ec.cs)])
def F9:Option iK→List (Nat × Nat × Nat)
 | none=>[]
 | some _=>[(2,0,10)]
theorem SQ (t:eS):∃σ,((kH t.out (F9 t.kept)).bind fun σ=>jg σ t.av)=some (σ,t.rv):=by
 obtain⟨d,w,r,k,l,a⟩:=t;have h:(((kH (eS.out ⟨d,w,r,k,l,a⟩) (F9 k)).bind fun σ=>jg σ (eS.av ⟨d,w,r,k,l,a⟩)).map fun x=>x.2)=some (eS.rv ⟨d,w,r,k,l,a⟩):=by
  cases k with
  | none=>simp -implicitDefEqProofs only[go_sem,kH,jg,C7,sM,F9,eS.rv,sub]
  | some k=>simp -implicitDefEqProofs only[go_sem,kH,jg,C7,sM,F9,eS.rv,sub]
 obtain⟨⟨σ,v⟩,h1,h2⟩:=cJ h;cases h2;exact⟨σ,h1⟩
theorem OJ (w:bE) (me:Int) (l:aB) (hd:w.aH.ok) (hl:w.aS.length≤maxLen) (nL:∀x∈w.aS,x.pt.root.ok):bb Tryz.prog 184 [] [w.ro,vI me,.agg l.cs] (fO w me l).rv []:=by
 obtain⟨σ,h⟩:=SQ (fO w me l);exact(agw w me l hd hl nL).val _ h
theorem ae2 (w:bE) (me:Int) (l:aB) (hd:w.aH.ok) (hl:w.aS.length≤maxLen):bb Tryz.prog 163 [] [w.ro,vI me,.agg l.cs] (fO w me l).av (fO w me l).out:=by
 refine aA Mm false Tryz.f163 ?_;conv=>enter[1];reduce
 refine bT Tryz.f163 87 [.cell 6 189] (by kernel_rfl) (by decide +kernel) rfl ?_;unfold fO;refine aw ?_;refine aq.intro (agl w hd hl) ?_;cases a1:iE w with
 | false=>
  simp -implicitDefEqProofs only[go_sem,a1,Bool.not_false,Bool.false_and,Bool.false_eq_true,bc]
  first|done|rfl|exact⟨rfl,rfl⟩
 | true=>
  have zR:=uI a1;refine uF a1 ?_;refine aq.intro (vT l) ?_;cases a2:c8 l with
  | false=>
   refine Ip ?_
   first|exact True.intro|rfl|exact⟨rfl,rfl⟩
  | true=>
   have dg:l.text.size≤600:=by
    simp only[c8,Bool.and_eq_true,decide_eq_true_eq]at a2;omega
   cases a3:aT me 1 20 with
   | false=>
    by_cases n1:me<1
    ·simp -implicitDefEqProofs only[go_sem,n1,Bool.not_true,Bool.and_self,Bool.and_true,Bool.and_false,Bool.false_eq_true,bc]
     first|done|rfl|exact⟨rfl,rfl⟩
    have n2:me>20:=by
     have:¬(1≤me∧me≤20):=fun h=>by rw[cf.2 h]at a3;cases a3
     omega
    simp -implicitDefEqProofs only[go_sem,n1,n2,Bool.not_true,Bool.and_self,Bool.and_true,Bool.and_false,Bool.false_eq_true,bc]
    first|done|rfl|exact⟨rfl,rfl⟩
   | true=>
    have k3:=cf.1 a3;have n1:¬(me<1):=by omega
    have n2:¬(me>20):=by omega
    have Lx:=DJ w.aS (by omega);have tS:=DF l.text (by omega);have hwh:=Hw w.aH hd;have gX:=xi l.text;have iG:=wq l.text;generalize hW:bV l.text=W at *;obtain⟨x,code,at_⟩:=W;simp only at gX iG;have xM:=agk w (cH w.aH) me l.from_ x zR;have po:=Xu w (cH w.aH) me l.from_ x.bR ⟨x.size,x.root⟩;have ra:=adt w (cH w.aH) me x zR;have Ld:=fun(hc:code=0)=>agj w (cH w.aH) me x zR hd (iG hc).2.2.1 gX.1
    generalize cH w.aH=held at *;simp -implicitDefEqProofs only[go_sem,n1,n2,Bool.not_true,Bool.and_self,if_true,bc]
    with_reducible refine And.intro ?_ ?_
    all_goals
     refine cz Lx ?_;refine eP tS ?_;refine aq.intro hwh ?_;cases b1:(code==0)<;>cases b2:(x.kind==3)<;>cases b4:(x.kind==5)<;>cases b3:(l.from_==0)<;>by_cases b5:l.from_>0;all_goals first
      | (exfalso;simp only[beq_iff_eq]at b3;omega)
      | (exfalso;simp only[beq_iff_eq]at b2 b4;omega)
      | skip
     all_goals simp -implicitDefEqProofs only[go_sem,b1,b2,b3,b4,b5,bne,Bool.not_true,Bool.not_false,Bool.and_true,Bool.and_false,Bool.true_and,Bool.false_and,Bool.false_eq_true,if_false,if_true,bc]
     all_goals first
      | (refine aD.intro xM ?_
         generalize jB w held me l.from_ x.bR ⟨x.size,x.root⟩=T at *;obtain⟨dd,ww,rr,kk,ll,aa⟩:=T;simp only at po;cases kk with
         | none=>
          refine aw ?_;refine cz (oW ll (by omega)) ?_;refine aq.intro (DB aa (by omega)) ?_;exact dt
         | some k=>
          refine aw ?_;refine cz (oW ll (by omega)) ?_;refine aq.intro (DB aa (by omega)) ?_;simp -implicitDefEqProofs only[go_sem])
      | (have oJ:code=0:=by simpa using b1
         refine aD.intro (Ld oJ) ?_;generalize kO w held me x=T at *;obtain⟨dd,ww,rr,kk,ll,aa⟩:=T;simp only at ra;cases kk with
         | none=>
          refine aw ?_;refine cz (oW ll (by omega)) ?_;refine aq.intro (DB aa (by omega)) ?_;exact dt
         | some k=>
          refine aw ?_;refine cz (oW ll (by omega)) ?_;refine aq.intro (DB aa (by omega)) ?_;simp -implicitDefEqProofs only[go_sem])
      | (refine aq.intro Mz ?_
         refine aw ?_;refine aq.intro ae5 ?_;simp -implicitDefEqProofs only[go_sem])
theorem OK (w:bE) (me:Int) (l:aB) (hd:w.aH.ok) (hl:w.aS.length≤maxLen):bb Tryz.prog 163 [] [w.ro,vI me,.agg l.cs] (fO w me l).rv []:=by
 obtain⟨σ,h⟩:=SQ (fO w me l);exact(ae2 w me l hd hl).val _ h
end
section
set_option maxHeartbeats 4000000
set_option maxRecDepth 10000
set_option linter.unusedSectionVars false
def aeS:bX:=⟨[(107,.cm [true,false]),(162,.cm [true,false]),(167,.cm [true,false,false]),(183,.cm [true,false]),(187,.cm [true,false,false]),(221,.cm [true,false,false,false]),(240,.cm [true,false,false,false])],[9,10,11],[24,26,30,44,47,50,51,52,57,58,59,62,76,88,138,185,186,187,253,254,297,311],false⟩
attribute [-go_sem] ei
structure cU.ui (t:cU):Prop where
 l:t.bM.length≤1000
 a:t.acc.length≤1000
 x:t.dI.length≤1000
theorem ai.wf.UA {w:ai}(h:w.wf) (i:Nat) {c:bu}(hc:dC c=true):ai.wf {w with cls:=w.cls.set i c}:=
 ⟨h.so,h.nw,by show((w.cls.set _ _).length:Int)=_;rw[List.length_set];exact h.nc,by show w.up.length=w.ah.length+(w.cls.set _ _).length+2;rw[List.length_set];exact h.nu,by show w.ak.length=w.ah.length+(w.cls.set _ _).length+2;rw[List.length_set];exact h.nb,h.rm,h.lg,h.bl,h.bg,h.bx,h.wt,mem_set h.cl hc,h.mn⟩
theorem ai.wf.dH {w:ai}(h:w.wf):0<w.ak.length:=by have:=h.nb;omega
theorem ai.wf.hx {w:ai}(h:w.wf):∀r g sz,ei (fS r g sz w.bx)=[(r,g)]:=dL (by rw[de];exact h.dH)
theorem Hr (l:List bu) (i:Nat) (c:bu):(l.map bu.rc).set i (c.cs (.ro 1 (c.bt.map dv)))=(l.set i c).map bu.rc:=by rw[List.map_set];rfl
attribute [go_sem] cU.rv cU.cs
theorem Bk.len {w v:ai}{c:Nat}(h:Bk w v c):v.book.length≤w.book.length+c:=by
 obtain⟨L,e1,e2,-⟩:=h;rw[e1,List.length_append];omega
theorem iC.hx {w v:ai}(h:iC w v) (hb:0<w.ak.length):∀r g sz,ei (fS r g sz v.bx)=[(r,g)]:=dL (by rw[de,h.ak];exact hb)
theorem VE (w:ai) (n:Nat) (t:cU) (h:w.wf) (hn:w.ah.length<n∧n≤w.ah.length+w.cls.length) (ht:dC t.cl=true) (hl:∀x∈t.bM,c8 x=true) (hf:t.ui) (hb:w.book.length≤3800000000):
  bb Tryz.prog 170 (eB w) [eA,vI n,t.rv] (.ba []) (im (pe w n t)):=by
 refine aA aeS false Tryz.f170 ?_;conv=>enter[1];reduce
 refine bT Tryz.f170 30 [] (by kernel_rfl) (by decide +kernel) rfl ?_;have hx:=h.hx;have hs:=d7 h.so;have h1:=h.nw;have h2:=h.nc;have hk:n - w.ah.length - 1<w.cls.length:=by omega
 have mL:=HP w n h.so (by omega) h.dH;rw[cf.2 (by omega),if_pos rfl,show(n:Int) - w.set.many - 1=((n - w.ah.length - 1:Nat):Int) by omega]at mL;have aE:=Hr w.cls (n - w.ah.length - 1) t.cl;unfold pe;have hv:=h.UA (n - w.ah.length - 1) ht;generalize n - w.ah.length - 1=k at *;have bW:(k:Int)<(w.cls.length:Int):=by omega
 have hg:w.cls[k]?=some w.cls[k]:=bz hk;simp only[bu.cs]at aE;have c1:=DG _ t.bM hv hl hf.l;have b1:=(rF {w with cls:=w.cls.set k t.cl} t.bM).len;have w1:=hv.send hl;generalize fG {w with cls:=w.cls.set k t.cl} t.bM=u at *;have b1:u.book.length≤w.book.length+0:=b1;have c2:=M8 u 1 n t.acc (by omega) w1.dH hf.a;have b2:=(rG u 1 n t.acc).len;have f2:=ju u 1 n t.acc;have a1:=hf.a;generalize iv u 1 n t.acc=v at *;have c3:=Nf v n t.dI (by omega) (by rw[f2.ak];exact w1.dH) hf.x;have f3:=jG v n t.dI;generalize gV v n t.dI=z at *;have fJ:=w1.hx;have aX:=f2.hx w1.dH;have cr:=(f2.trans f3).hx w1.dH;refine aC hx ?_;refine aD.intro mL ?_;simp -implicitDefEqProofs only[go_sem,hx,hk,bW,hg,bu.rc,aE];refine aD.intro (res:=.ba []) (σout:=eB u) (by simp -implicitDefEqProofs only[go_sem,List.length_set]at c1 ⊢;exact c1) ?_;refine cg hx fJ ?_;refine ff c2 fJ aX ?_;refine aD.intro c3 ?_;exact dk aX cr
end
section
set_option maxHeartbeats 4000000
set_option maxRecDepth 10000
set_option linter.unusedSectionVars false
def Mr:bX:=⟨[(106,.cm [true]),(162,.cm [true,false]),(167,.cm [true,false,false]),(183,.cm [true,false]),(187,.cm [true,false,false]),(221,.cm [true,false,false,false]),(240,.cm [true,false,false,false])],[9,10,11],[24,26,30,44,47,50,51,52,57,58,59,62,76,88,138,185,186,187,253,254,297,311],false⟩
attribute [-go_sem] ei
attribute [go_sem] gl.rv
theorem Vz (w:ai) (n:Nat) (t:cU) (h:w.wf) (hn:w.ah.length<n∧n≤w.ah.length+w.cls.length) (ht:dC t.cl=true) (hl:∀x∈t.bM,c8 x=true) (hf:t.ui) (hb:w.book.length≤3800000000):
  bb Tryz.prog 188 (gm w) [vA w 1000000,vI n,t.rv] (vA (pe w n t) 0) (eJ (pe w n t)):=by
 refine aA Mr false Tryz.f188 ?_;conv=>enter[1];reduce
 refine bT Tryz.f188 32 [.cell 6 64] (by kernel_rfl) (by decide +kernel) rfl ?_;have hx:=h.hx;have hs:=d7 h.so;have h1:=h.nw;have h2:=h.nc;have hk:n - w.ah.length - 1<w.cls.length:=by omega
 have z1:IntKind.i64.wrap ((n:Int) - w.set.many)=(n:Int) - w.set.many:=aV (by omega);have z2:IntKind.i64.wrap ((n:Int) - w.set.many - 1)=((n - w.ah.length - 1:Nat):Int):=by rw[aV (by omega)];omega
 have aE:=Hr w.cls (n - w.ah.length - 1) t.cl;unfold pe;have hv:=h.UA (n - w.ah.length - 1) ht;generalize n - w.ah.length - 1=k at *;have bW:(k:Int)<(w.cls.length:Int):=by omega
 have hg:w.cls[k]?=some w.cls[k]:=bz hk;simp only[bu.cs]at aE;have c1:=DD _ t.bM hv hl hf.l;have b1:=(rF {w with cls:=w.cls.set k t.cl} t.bM).len;have w1:=hv.send hl;generalize fG {w with cls:=w.cls.set k t.cl} t.bM=u at *;have b1:u.book.length≤w.book.length+0:=b1;have c2:=M1 u 1 n t.acc (by omega) w1.dH hf.a;have b2:=(rG u 1 n t.acc).len;have f2:=ju u 1 n t.acc;have a1:=hf.a;generalize iv u 1 n t.acc=v at *;have c3:=Na v n t.dI (by omega) (by rw[f2.ak];exact w1.dH) hf.x;have f3:=jG v n t.dI;generalize gV v n t.dI=z at *;have fJ:=w1.hx;have aX:=f2.hx w1.dH;have cr:=(f2.trans f3).hx w1.dH;simp -implicitDefEqProofs only[go_sem,hx,z1,z2,hk,bW,hg,bu.rc,aE];refine aD.intro (res:=vA u 0) (σout:=eJ u) (by simp -implicitDefEqProofs only[go_sem,List.length_set]at c1 ⊢;exact c1) ?_;refine cg hx fJ ?_;refine ff c2 fJ aX ?_;refine aD.intro c3 ?_;exact dk aX cr
structure gl.ui (t:gl):Prop where
 l:t.bM.length≤1000
 a:t.acc.length≤1000
 c:t.j7.length≤1000
 x:t.dI.length≤1000
theorem ai.wf.Q7 {w:ai}(h:w.wf) {m:cQ}(hm:iM m=true):ai.wf {w with cD:=m}:=⟨h.so,h.nw,h.nc,h.nu,h.nb,h.rm,h.lg,h.bl,h.bg,h.bx,h.wt,h.cl,hm⟩
theorem ai.wf.last {w:ai}(h:w.wf):w.set.many+w.set.bB+1=((w.ah.length+w.cls.length+1:Nat):Int):=by
 have h1:=h.nw;have h2:=h.nc;omega
theorem tQ {w:ai}(h:fv w.set=true) (hb:0<w.ak.length) {n:Nat}(e:w.set.many+w.set.bB+1=(n:Int)):bb Tryz.prog 106 (eB w) [eA] (vI n) (eB w):=by
 rw[←e];exact agW w h hb
theorem VF (w:ai) (n:Nat) (t:gl) (h:w.wf) (hn:n=w.ah.length+w.cls.length+1) (ht:iM t.cD=true) (hl:∀x∈t.bM,c8 x=true) (hf:t.ui) (hb:w.book.length≤3800000000):
  bb Tryz.prog 168 (eB w) [eA,t.rv] (.ba []) (im (pd w n t)):=by
 refine aA Mr false Tryz.f168 ?_;conv=>enter[1];reduce
 refine bT Tryz.f168 31 [] (by kernel_rfl) (by decide +kernel) rfl ?_;have hx:=h.hx;have gK:=h.last;rw[←hn]at gK;unfold pd;have hv:=h.Q7 ht;have c1:=DG _ t.bM hv hl hf.l;have b1:=(rF {w with cD:=t.cD} t.bM).len;have e1:=(sK {w with cD:=t.cD} t.bM).set;have w1:=hv.send hl;generalize fG {w with cD:=t.cD} t.bM=u at *;have b1:u.book.length≤w.book.length+0:=b1;have e1:u.set=w.set:=e1;have c2:=M8 u 1 n t.acc (by omega) w1.dH hf.a;have l1:=tQ (n:=n) w1.so w1.dH (by rw[e1];exact gK);have b2:=(rG u 1 n t.acc).len;have f2:=ju u 1 n t.acc;have a1:=hf.a;generalize iv u 1 n t.acc=v at *;have c3:=M8 v 5 n t.j7 (by omega) (by rw[f2.ak];exact w1.dH) hf.c;have l2:=tQ (w:=v) (n:=n) (by rw[f2.set];exact w1.so) (by rw[f2.ak];exact w1.dH) (by rw[f2.set,e1];exact gK);have b3:=(rG v 5 n t.j7).len;have f3:=f2.trans (ju v 5 n t.j7);have a2:=hf.c;generalize iv v 5 n t.j7=y at *;have c4:=Nf y n t.dI (by omega) (by rw[f3.ak];exact w1.dH) hf.x;have l3:=tQ (w:=y) (n:=n) (by rw[f3.set];exact w1.so) (by rw[f3.ak];exact w1.dH) (by rw[f3.set,e1];exact gK);have f4:=f3.trans (jG y n t.dI);generalize gV y n t.dI=z at *;have fJ:=w1.hx;have aX:=f2.hx w1.dH;have cr:=f3.hx w1.dH;have kS:=f4.hx w1.dH;refine aC hx ?_;refine ff c1 hx fJ ?_;refine il l1 fJ ?_;refine ff c2 fJ aX ?_;refine il l2 aX ?_;refine ff c3 aX cr ?_;refine il l3 cr ?_;refine aD.intro c4 ?_;exact dk cr kS
theorem Vx (w:ai) (n:Nat) (t:gl) (h:w.wf) (hn:n=w.ah.length+w.cls.length+1) (ht:iM t.cD=true) (hl:∀x∈t.bM,c8 x=true) (hf:t.ui) (hb:w.book.length≤3800000000):
  bb Tryz.prog 190 (gm w) [vA w 1000000,vI n,t.rv] (vA (pd w n t) 0) (eJ (pd w n t)):=by
 refine aA Mr false Tryz.f190 ?_;conv=>enter[1];reduce
 refine bT Tryz.f190 29 [.cell 6 64] (by kernel_rfl) (by decide +kernel) rfl ?_;have hx:=h.hx;unfold pd;have hv:=h.Q7 ht;have c1:=DD _ t.bM hv hl hf.l;have b1:=(rF {w with cD:=t.cD} t.bM).len;have w1:=hv.send hl;generalize fG {w with cD:=t.cD} t.bM=u at *;have b1:u.book.length≤w.book.length+0:=b1;have c2:=M1 u 1 n t.acc (by omega) w1.dH hf.a;have b2:=(rG u 1 n t.acc).len;have f2:=ju u 1 n t.acc;have a1:=hf.a;generalize iv u 1 n t.acc=v at *;have c3:=M1 v 5 n t.j7 (by omega) (by rw[f2.ak];exact w1.dH) hf.c;have b3:=(rG v 5 n t.j7).len;have f3:=f2.trans (ju v 5 n t.j7);have a2:=hf.c;generalize iv v 5 n t.j7=y at *;have c4:=Na y n t.dI (by omega) (by rw[f3.ak];exact w1.dH) hf.x;have f4:=f3.trans (jG y n t.dI);generalize gV y n t.dI=z at *;have fJ:=w1.hx;have aX:=f2.hx w1.dH;have cr:=f3.hx w1.dH;have kS:=f4.hx w1.dH;refine aC hx ?_;refine ff c1 hx fJ ?_;refine ff c2 fJ aX ?_;refine ff c3 aX cr ?_;refine aD.intro c4 ?_;exact dk cr kS
end
section
set_option maxHeartbeats 4000000
set_option maxRecDepth 10000
set_option linter.unusedSectionVars false
def aeP:bX:=⟨[(239,.cm [true,false])],[9,10,11],[24,26,30,44,47,50,51,52,57,58,59,62,76,88,138,185,186,187,253,254,297,311],false⟩
attribute [-go_sem] ei
theorem acq (x:aB):xH x=((bV x.text).1.kind==6):=by
 unfold xH;cases h:((bV x.text).2.1==0) with
 | true=>rw[Bool.true_and]
 | false=>
  have h:¬(bV x.text).2.1=0:=by simpa using h
  rw[Bool.false_and,Ou (s:=x.text) (m:=(bV x.text).1) (c:=(bV x.text).2.1) (a:=(bV x.text).2.2) rfl h];rfl
def NS (n:Int) (x:aB):dy:=⟨3,n,x.jx,0,0,.zero,⟨(bV x.text).1.size,(bV x.text).1.root⟩,[]⟩
theorem Wy (w:ai) (n:Int) (l:List aB) {i:Nat}(h:i<l.length):iw w n (l.take (i+1))=if xH l[i] then gT (iw w n (l.take i)) (NS n l[i]) else iw w n (l.take i):=by
 unfold iw;rw[List.take_succ_eq_append_getElem h,List.foldl_append];rfl
theorem agv (w:ai) (n:Int) (l:List aB) (h:w.book.length≤3900000000) (hb:0<w.ak.length) (hn:l.length≤1000) (hl:∀x∈l,c8 x=true):bb Tryz.prog 186 (gm w) [vA w 1000000,vI n,.ro 3 (l.map aB.cs)] (vA (iw w n l) 0) (eJ (iw w n l)):=by
 refine aA aeP false Tryz.f186 ?_;conv=>enter[1];reduce
 refine bT Tryz.f186 43 [.cell 6 64] (by kernel_rfl) (by decide +kernel) rfl ?_;have hm:l.length≤maxLen:=by unfold maxLen;omega
 have hx:=dL (bs:=w.bx) (by rw[de];exact hb);refine aC hx ?_;refine iN (fun m s=>∃(i:Nat),i≤l.length∧m=l.length - i∧s=⟨43,[(1,vI n),(2,.ro 3 (l.map aB.cs)),(3,.ptr 3 0 [] 35 0 0),(6,.ptr 6 0 [] 35 0 0),(7,vI i)],(3,0,one ⟨35,[(iw w n (l.take i)).cells 10003 10000],0,false⟩)::(iw w n (l.take i)).rows 10003 10000++[(6,0,one ⟨35,[jL],0,false⟩)],1⟩) l.length (cO.intro (aI.dm [] [1,2,3,6,7] _) ?_) ?_
 ·refine aC hx ?_;exact⟨0,aQ _,rfl,rfl⟩
 rintro m s ⟨i,hi,rfl,rfl⟩;rcases bm i l.length with ab|bH
 ·have ae:(i:Int)<(l.length:Int):=by omega
  have hg:l[i]?=some l[i]:=bz ab;have hw:=df ab hm;have hv:=sL w n (l.take i);have hk:=DM w n (l.take i);have ht:=Wy w n l ab;generalize iw w n (l.take i)=v at *;have lY:v.book.length≤4000000000:=by
   obtain⟨L,e1,e2,-⟩:=hk;rw[e1,List.length_append];rw[List.length_take]at e2;omega
  have aX:=dL (bs:=v.bx) (by rw[de,hv.ak];exact hb);have dg:=(zL (hl _ (List.getElem_mem ab))).2.2;have tS:=DA l[i].text (by omega);rw[acq]at ht;unfold NS at ht;have hc:=Ce v ⟨3,n,l[i].jx,0,0,.zero,⟨(bV l[i].text).1.size,(bV l[i].text).1.root⟩,[]⟩ lY (by rw[hv.ak];exact hb) rfl;have dQ:=sL w n (l.take (i+1));generalize hu:iw w n (l.take (i+1))=u at *;have cr:=dL (bs:=u.bx) (by rw[de,dQ.ak];exact hb);generalize bV l[i].text=W at *;refine eI ae hg hw aX ?_;refine aq.intro tS ?_;cases t6:(W.1.kind==6) with
  | true=>
   rw[if_pos t6]at ht;rw[←ht]at hc;refine oe t6 ae hg hw aX ?_;refine mb hc hw aX cr ?_;refine fh.intro (l.length - (i+1)) (by omega) (aI.dm [] [1,2,3,6,7] _) ?_;refine aC cr ?_;refine⟨i+1,ab,rfl,?_⟩;subst hu;rfl
  | false=>
   rw[if_neg (by rw[t6];decide)]at ht;refine oe t6 ae hg hw aX ?_;refine fh.intro (l.length - (i+1)) (by omega) (aI.dm [] [1,2,3,6,7] _) ?_;refine aC aX ?_;refine⟨i+1,ab,rfl,?_⟩;subst hu;rw[ht]
 have hi:i=l.length:=by omega
 subst hi;have ae:¬((l.length:Int)<(l.length:Int)):=by omega
 have aX:=dL (bs:=(iw w n l).bx) (by rw[de,(sL w n l).ak];exact hb);exact rM ae aX
end
theorem Lp {c:bu}{me:Int}{x:aB}(ho:iQ c me x=true):(jo c me x).ui:=by
 have k:=xu ho;have hc:dC c=true:=by
  unfold iQ at ho;simp only[Bool.and_eq_true]at ho;exact ho.1
 have hp:=(Ar hc).m;refine⟨?_,by have:=NT k;omega,by have:=NM (c:=c) (me:=me) (l:=x);omega⟩;rcases k.RW with e|⟨e,-⟩
 ·rw[e];exact aQ _
 rw[e,List.length_map,List.length_range];omega
theorem IX (c:bu) (me:Int):(fP c me).ui:=by
 refine⟨?_,by rw[y0.1];exact aQ _,by rw[y0.2];exact aQ _⟩;unfold fP
 repeat' split
 all_goals first|exact aQ _|(show 1≤1000;omega)
theorem Q6 (m:cQ) (me:Int):(i7 m me).ui:=by
 refine⟨?_,by rw[zC.1];exact aQ _,by rw[zC.2.2];exact aQ _,by rw[zC.2.1];exact aQ _⟩;unfold i7
 repeat' split
 ·show 1≤1000;omega
 ·exact(IX m.cl me).l
 exact aQ _
theorem Ra {m:cQ}{me:Int}{x:aB}(h1:iM m=true) (h2:c8 x=true) (h3:aT me 1 20=true):(i9 m me x).ui:=by
 have hc:dC m.cl=true:=(jK.of h1).c;have ho:iQ m.cl me x=true:=by unfold iQ;rw[hc,h2,h3];rfl
 have hf:=Lp ho;have GM:=Ur (B1 h1 h2 h3).1;have ha:=(Ka (m:=m) (me:=me) (l:=x)).1;refine⟨?_,?_,by omega,by omega⟩
 ·unfold i9;split
  ·split
   ·unfold ow
    repeat' split
    all_goals exact aQ _
   exact hf.l
  exact aQ _
 rcases(Ka (m:=m) (me:=me) (l:=x)).2 with e|e
 ·omega
 rw[e];exact hf.a
theorem Wx {w:ai}(h:w.wf) (n:Int) (l:List aB):(iw w n l).wf:=h.note (sL _ _ _) (Wd _ _ _)
theorem Sb {w:ai}(h:w.wf) (n:Int) (l:List iK):(fi w n l).wf:=h.note (nh _ _ _) (Nz _ _ _)
theorem Ws {w:ai}(h:w.wf) (n:Int) (l:List ec):(gV w n l).wf:=h.note (jG _ _ _) (HU _ _ _)
theorem vd {w:bE}{H:eS}(hm:uB w H):∀k∈H.kept.toList,k.proof.length≤1000:=by
 intro k hk;refine(hm.k k ?_).2;cases bW:H.kept with
 | none=>rw[bW]at hk;cases hk
 | some y=>rw[bW]at hk;rw[List.mem_singleton.1 hk]
theorem rO (l:List bE) (i:Nat) (d:cS) (ws:List bG):(l.map bE.rc).set i (d.cs++[.ro 7 (ws.map bG.cs)])=(l.set i ⟨d,ws⟩).map bE.rc:=by rw[List.map_set];rfl
end Go.Proofs.YtobpfkgabdeefaaGreat.E
