/- Contracts: what the log answers; The world in plain data: what its steps do -/
import Derived.Test.YtobpfkgabdeefaaGreatP24
import Derived.Test.YtobpfkgabdeefaaGreatP20
import Derived.Test.YtobpfkgabdeefaaGreatP27
import Derived.Test.YtobpfkgabdeefaaGreatP22
namespace Go.Proofs.YtobpfkgabdeefaaGreat.E
open Go Go.RowKit
set_option linter.unusedSimpArgs false
set_option linter.unusedVariables false
section
set_option maxHeartbeats 4000000
set_option maxRecDepth 10000
set_option linter.unusedSectionVars false
def Hk:bX:=⟨[(165,.cm [false]),(210,.cm [false,false]),(233,.cm [false,false]),(256,.cm [false,false]),(271,.cm [false,false])],[9,10,11],[24,26,30,44,47,50,51,52,57,58,59,62,76,88,138,185,186,187,253,254,297,311],false⟩
def qS (l:List ByteArray) (m:aM):List ByteArray:=(l.drop m.from_.toNat).take ((min (l.length:Int) (m.from_+m.count)).toNat - m.from_.toNat)
def nH (l:List ByteArray) (m:aM):aM × Bool:=
 if eF l&&eQ m then
  (if m.kind==1 then(⟨2,m.bR,0,l.length,(fC l).c9,0,[],[]⟩,true)
   else if m.kind==4&&(decide (m.from_≤m.size)&&decide (m.size≤(l.length:Int))) then(⟨5,0,m.from_,m.size,gr,0,sd (l.take m.size.toNat) m.from_,[]⟩,true)
   else if m.kind==7&&decide (m.from_<(l.length:Int)) then(⟨8,0,m.from_,0,gr,0,[],qS l m⟩,true)
   else(.zero,false))
 else(.zero,false)
def NK (x:aM × Bool):AV:=.ba [x.1.NC,vB x.2]
attribute [go_sem] NK
theorem agn (l:List ByteArray) (m:aM) (hl:l.length≤maxLen) (hm:m.az.length≤maxLen):bb Tryz.prog 210 [] [.agg [.ro 1 (l.map cY)],m.ro] (NK (nH l m)) (nH l m).1.out:=by
 refine aA Hk false Tryz.f210 ?_;conv=>enter[1];reduce
 refine bT Tryz.f210 94 [.cell 4 193,.tmp 5] (by kernel_rfl) (by decide +kernel) rfl ?_;unfold nH;refine aw ?_;refine aq.intro (Aw l hl) ?_;cases h1:eF l with
 | false=>
  simp -implicitDefEqProofs only[go_sem,Bool.not_false,Bool.false_and,bc,Bool.false_eq_true]
  first|done|rfl|exact⟨rfl,rfl⟩
 | true=>
  refine Eo ?_;refine aq.intro (Vc m hm) ?_;cases h2:eQ m with
  | false=>
   simp -implicitDefEqProofs only[go_sem,Bool.not_false,bc,Bool.false_eq_true]
   first|done|rfl|exact⟨rfl,rfl⟩
  | true=>
   have hw:=nr.of h2;have CU:=(gI h1).1;cases a1:(m.kind==1) with
   | true=>
    refine uF a1 ?_;refine aq.intro (HD l h1) ?_;generalize fC l=R;refine aw ?_
    first|exact True.intro|rfl|exact⟨rfl,rfl⟩
   | false=>
    have hf:=hw.f;have hz:=hw.z;have hc:=hw.c;by_cases b1:m.kind=4∧(m.from_≤m.size∧m.size≤(l.length:Int))
    ·obtain⟨b1,b2,b3⟩:=b1;have ob:(m.kind==4)=true:=by rw[beq_iff_eq];exact b1
     have k1:(0:Int)≤m.size∧m.size≤(l.length:Int):=by omega
     have hg:=af9 (l.take m.size.toNat) m.from_ (by rw[List.length_take];unfold maxLen;omega);unfold yl ym at hg;generalize sd (l.take m.size.toNat) m.from_=Y at *;generalize xm (l.take m.size.toNat) m.from_=ok at *;simp -implicitDefEqProofs only[go_sem,a1,ob,b2,b3,k1,Nat.sub_zero,List.drop_zero,Int.toNat_zero,Bool.not_true,Bool.and_self,bc,Bool.false_eq_true];refine eP hg ?_
     first|exact True.intro|rfl|exact⟨rfl,rfl⟩
    have b0:(m.kind==4&&(decide (m.from_≤m.size)&&decide (m.size≤(l.length:Int))))=false:=by
     rw[Bool.eq_false_iff];intro h;simp only[Bool.and_eq_true,beq_iff_eq,decide_eq_true_eq]at h;exact b1 h
    by_cases c1:m.kind=7∧m.from_<(l.length:Int)
    ·obtain⟨c1,c2⟩:=c1;have dU:(m.kind==7)=true:=by rw[beq_iff_eq];exact c1
     have ob:(m.kind==4)=false:=by rw[c1];rfl
     have w1:IntKind.i64.wrap (m.from_+m.count)=m.from_+m.count:=aV (by omega);have k1:m.from_≤min (l.length:Int) (m.from_+m.count)∧min (l.length:Int) (m.from_+m.count)≤(l.length:Int):=by omega
     have hfe:(qS l m).length≤300:=by unfold qS;rw[List.length_take,List.length_drop];omega
     have l4:=uu (qS l m) (by omega);have jE:List.take ((min (l.length:Int) (m.from_+m.count)).toNat - m.from_.toNat) (List.drop m.from_.toNat l)=qS l m:=rfl;have k0:=hf.1;simp -implicitDefEqProofs only[go_sem,a1,b0,ob,dU,c2,k0,k1,w1,jE,Bool.not_true,Bool.and_self,bc,Bool.false_eq_true]
     first
      | (refine aq.intro l4 ?_
         refine aw ?_
         first|exact True.intro|rfl|exact⟨rfl,rfl⟩)
      | (by_cases d:m.from_+m.count>(l.length:Int)
         ·have e1:min (l.length:Int) (m.from_+m.count)=(l.length:Int):=by omega
          rw[e1]at jE k1;rw[Int.toNat_natCast]at jE;simp -implicitDefEqProofs only[go_sem,d,k0,k1,jE,aZ];refine cz l4 ?_
          first|exact True.intro|rfl|exact⟨rfl,rfl⟩
         have e1:min (l.length:Int) (m.from_+m.count)=m.from_+m.count:=by omega
         rw[e1]at jE k1;simp -implicitDefEqProofs only[go_sem,d,k0,k1,jE,aY];refine cz l4 ?_
         first|exact True.intro|rfl|exact⟨rfl,rfl⟩)
    have c0:(m.kind==7&&decide (m.from_<(l.length:Int)))=false:=by
     rw[Bool.eq_false_iff];intro h;simp only[Bool.and_eq_true,beq_iff_eq,decide_eq_true_eq]at h;exact c1 h
    rw[b0,c0];cases d1:(m.kind==4)<;>cases d2:(m.kind==7)<;>cases d3:decide (m.from_≤m.size)<;>cases d4:decide (m.size≤(l.length:Int))<;>cases d5:decide (m.from_<(l.length:Int))<;>rw[d1,d3,d4]at b0<;>rw[d2,d5]at c0;all_goals first
     | (exfalso;revert b0;decide)
     | (exfalso;revert c0;decide)
     | (simp -implicitDefEqProofs only [go_sem,a1,d1,d2,d3,d4,d5,Bool.not_true,bc,Bool.false_eq_true]
        first|done|rfl|exact⟨rfl,rfl⟩)
theorem agf (l:List ByteArray) (m:aM) (hl:l.length≤maxLen) (hm:m.az.length≤maxLen):bb Tryz.prog 233 [] [.agg [.ro 1 (l.map cY)],m.ro] (NK (nH l m)) (nH l m).1.out:=by
 refine aA Hk false Tryz.f233 ?_;conv=>enter[1];reduce
 refine bT Tryz.f233 97 [.cell 4 193,.tmp 5] (by kernel_rfl) (by decide +kernel) rfl ?_;unfold nH;refine aw ?_;refine aq.intro (yD l hl) ?_;cases h1:eF l with
 | false=>
  simp -implicitDefEqProofs only[go_sem,Bool.not_false,Bool.false_and,bc,Bool.false_eq_true]
  first|done|rfl|exact⟨rfl,rfl⟩
 | true=>
  refine Eo ?_;refine aq.intro (U8 m hm) ?_;cases h2:eQ m with
  | false=>
   simp -implicitDefEqProofs only[go_sem,Bool.not_false,bc,Bool.false_eq_true]
   first|done|rfl|exact⟨rfl,rfl⟩
  | true=>
   have hw:=nr.of h2;have CU:=(gI h1).1;cases a1:(m.kind==1) with
   | true=>
    refine uF a1 ?_;refine aq.intro (Dv l h1) ?_;generalize fC l=R;refine aw ?_
    first|exact True.intro|rfl|exact⟨rfl,rfl⟩
   | false=>
    have hf:=hw.f;have hz:=hw.z;have hc:=hw.c;by_cases b1:m.kind=4∧(m.from_≤m.size∧m.size≤(l.length:Int))
    ·obtain⟨b1,b2,b3⟩:=b1;have ob:(m.kind==4)=true:=by rw[beq_iff_eq];exact b1
     have k1:(0:Int)≤m.size∧m.size≤(l.length:Int):=by omega
     have hg:=af2 (l.take m.size.toNat) m.from_ (by rw[List.length_take];unfold maxLen;omega);unfold yl ym at hg;generalize sd (l.take m.size.toNat) m.from_=Y at *;generalize xm (l.take m.size.toNat) m.from_=ok at *;simp -implicitDefEqProofs only[go_sem,a1,ob,b2,b3,k1,Nat.sub_zero,List.drop_zero,Int.toNat_zero,Bool.not_true,Bool.and_self,bc,Bool.false_eq_true];refine eP hg ?_
     first|exact True.intro|rfl|exact⟨rfl,rfl⟩
    have b0:(m.kind==4&&(decide (m.from_≤m.size)&&decide (m.size≤(l.length:Int))))=false:=by
     rw[Bool.eq_false_iff];intro h;simp only[Bool.and_eq_true,beq_iff_eq,decide_eq_true_eq]at h;exact b1 h
    by_cases c1:m.kind=7∧m.from_<(l.length:Int)
    ·obtain⟨c1,c2⟩:=c1;have dU:(m.kind==7)=true:=by rw[beq_iff_eq];exact c1
     have ob:(m.kind==4)=false:=by rw[c1];rfl
     have w1:IntKind.i64.wrap (m.from_+m.count)=m.from_+m.count:=aV (by omega);have k1:m.from_≤min (l.length:Int) (m.from_+m.count)∧min (l.length:Int) (m.from_+m.count)≤(l.length:Int):=by omega
     have hfe:(qS l m).length≤300:=by unfold qS;rw[List.length_take,List.length_drop];omega
     have l4:=Av (qS l m) (by omega);have jE:List.take ((min (l.length:Int) (m.from_+m.count)).toNat - m.from_.toNat) (List.drop m.from_.toNat l)=qS l m:=rfl;have k0:=hf.1;simp -implicitDefEqProofs only[go_sem,a1,b0,ob,dU,c2,k0,k1,w1,jE,Bool.not_true,Bool.and_self,bc,Bool.false_eq_true]
     first
      | (refine aq.intro l4 ?_
         refine aw ?_
         first|exact True.intro|rfl|exact⟨rfl,rfl⟩)
      | (by_cases d:m.from_+m.count>(l.length:Int)
         ·have e1:min (l.length:Int) (m.from_+m.count)=(l.length:Int):=by omega
          rw[e1]at jE k1;rw[Int.toNat_natCast]at jE;simp -implicitDefEqProofs only[go_sem,d,k0,k1,jE,aZ];refine cz l4 ?_
          first|exact True.intro|rfl|exact⟨rfl,rfl⟩
         have e1:min (l.length:Int) (m.from_+m.count)=m.from_+m.count:=by omega
         rw[e1]at jE k1;simp -implicitDefEqProofs only[go_sem,d,k0,k1,jE,aY];refine cz l4 ?_
         first|exact True.intro|rfl|exact⟨rfl,rfl⟩)
    have c0:(m.kind==7&&decide (m.from_<(l.length:Int)))=false:=by
     rw[Bool.eq_false_iff];intro h;simp only[Bool.and_eq_true,beq_iff_eq,decide_eq_true_eq]at h;exact c1 h
    rw[b0,c0];cases d1:(m.kind==4)<;>cases d2:(m.kind==7)<;>cases d3:decide (m.from_≤m.size)<;>cases d4:decide (m.size≤(l.length:Int))<;>cases d5:decide (m.from_<(l.length:Int))<;>rw[d1,d3,d4]at b0<;>rw[d2,d5]at c0;all_goals first
     | (exfalso;revert b0;decide)
     | (exfalso;revert c0;decide)
     | (simp -implicitDefEqProofs only [go_sem,a1,d1,d2,d3,d4,d5,Bool.not_true,bc,Bool.false_eq_true]
        first|done|rfl|exact⟨rfl,rfl⟩)
def kg (l:List ByteArray) (x:aB):aB × Bool:=
 if c8 x then(if (bV x.text).2.1==0 then(if (nH l (bV x.text).1).2 then(⟨0,x.from_,i6 (nH l (bV x.text).1).1⟩,true) else(⟨0,0,⟨#[]⟩⟩,false)) else(⟨0,0,⟨#[]⟩⟩,false)) else(⟨0,0,⟨#[]⟩⟩,false)
def Kq (x:aB × Bool):AV:=.ba [.agg x.1.cs,vB x.2]
attribute [go_sem] Kq
theorem RF {l:List ByteArray}{m:aM}:(nH l m).1.root.ok∧(∀d∈(nH l m).1.proof,d.ok)∧(nH l m).1.proof.length≤1000∧(nH l m).1.az.length≤1000:=by
 have hz:gr.ok:=sO;unfold nH;split
 ·rename_i h0;simp only[Bool.and_eq_true]at h0;have CU:=(gI h0.1).1;split
  ·exact⟨BD.Mi _,by simp,by simp,by simp⟩
  split
  ·refine⟨hz,?_,?_,by simp⟩
   ·intro d hd;simp only[sd]at hd;split at hd
    ·unfold tL at hd;split at hd
     ·simp at hd
     obtain⟨x,_,rfl⟩:=List.mem_map.1 hd;exact BD.Mi _
    simp at hd
   show(sd _ _).length≤1000
   unfold sd;split
   ·rename_i h1;unfold tL;split
    ·simp
    rename_i h2;simp only[xm,Bool.and_eq_true]at h1;obtain⟨hn,hm⟩:=xl h1.2;have hl:(l.take m.size.toNat).length≤l.length:=by rw[List.length_take];omega
    have:=pE (m:=m.from_.toNat) (l.take m.size.toNat).length 0 (l.take m.size.toNat).length (by omega) (by omega);simp only[List.length_map,List.length_append];omega
   simp
  split
  ·refine⟨hz,by simp,by simp,?_⟩;show(qS l m).length≤1000
   unfold qS;rw[List.length_take,List.length_drop];omega
  exact⟨hz,by simp[aM.zero],by simp[aM.zero],by simp[aM.zero]⟩
 exact⟨hz,by simp[aM.zero],by simp[aM.zero],by simp[aM.zero]⟩
theorem agD (l:List ByteArray) (x:aB) (hl:l.length≤maxLen):aR Tryz.prog 161 [.agg [.ro 1 (l.map cY)],.agg x.cs] (Kq (kg l x)) []:=by
 refine aA Hk false Tryz.f161 ?_;conv=>enter[1];reduce
 refine bf Tryz.f161 38 [.cell 4 116,.tmp 5] (by kernel_rfl) (by decide +kernel) rfl ?_;unfold kg;refine aw ?_;refine aq.intro (vT x) ?_;cases a1:c8 x with
 | false=>simp -implicitDefEqProofs only[go_sem,Bool.not_false,aZ,aY,Bool.false_eq_true]
 | true=>
  have dg:x.text.size≤600:=by
   simp only[c8,Bool.and_eq_true,decide_eq_true_eq]at a1;omega
  refine Em ?_;refine aD.intro (DF x.text (by omega)) ?_;have gX:=xi x.text;generalize hW:bV x.text=W at *;obtain⟨m,code,at_⟩:=W;simp only at gX;cases b1:(code==0) with
  | false=>
   have ob:(code != 0)=true:=by simpa using b1
   simp -implicitDefEqProofs only[go_sem,ob,b1,aZ,aY,Bool.false_eq_true]
  | true=>
   have ob:(code != 0)=false:=by simpa using b1
   refine yQ ob b1 ?_;have LO:=agn l m hl (by unfold maxLen;omega);have hA:=RF (l:=l) (m:=m);generalize nH l m=A0 at *;obtain⟨A,ok⟩:=A0;simp only at hA;obtain⟨LQ,LP,hA3,hA4⟩:=hA;have hA:A.root.ok∧(∀d∈A.proof,d.ok):=⟨LQ,LP⟩;refine aD.intro LO ?_;cases ok with
   | false=>simp -implicitDefEqProofs only[go_sem,Bool.not_false,aZ,aY,Bool.false_eq_true]
   | true=>
    refine Em ?_;refine aq.intro (Vs A (by unfold maxLen;omega)) ?_;exact dt
theorem agx (l:List ByteArray) (x:aB) (hl:l.length≤maxLen):aR Tryz.prog 182 [.agg [.ro 1 (l.map cY)],.agg x.cs] (Kq (kg l x)) []:=by
 refine aA Hk false Tryz.f182 ?_;conv=>enter[1];reduce
 refine bf Tryz.f182 38 [.cell 4 116,.tmp 5] (by kernel_rfl) (by decide +kernel) rfl ?_;unfold kg;refine aw ?_;refine aq.intro (vQ x) ?_;cases a1:c8 x with
 | false=>simp -implicitDefEqProofs only[go_sem,Bool.not_false,aZ,aY,Bool.false_eq_true]
 | true=>
  have dg:x.text.size≤600:=by
   simp only[c8,Bool.and_eq_true,decide_eq_true_eq]at a1;omega
  refine Em ?_;refine aq.intro (DA x.text (by omega)) ?_;have gX:=xi x.text;generalize hW:bV x.text=W at *;obtain⟨m,code,at_⟩:=W;simp only at gX;cases b1:(code==0) with
  | false=>
   have ob:(code != 0)=true:=by simpa using b1
   simp -implicitDefEqProofs only[go_sem,ob,b1,aZ,aY,Bool.false_eq_true]
  | true=>
   have ob:(code != 0)=false:=by simpa using b1
   refine yQ ob b1 ?_;have LO:=agf l m hl (by unfold maxLen;omega);have hA:=RF (l:=l) (m:=m);generalize nH l m=A0 at *;obtain⟨A,ok⟩:=A0;simp only at hA;obtain⟨LQ,LP,hA3,hA4⟩:=hA;have hA:A.root.ok∧(∀d∈A.proof,d.ok):=⟨LQ,LP⟩;refine aD.intro LO ?_;cases ok with
   | false=>simp -implicitDefEqProofs only[go_sem,Bool.not_false,aZ,aY,Bool.false_eq_true]
   | true=>
    refine Em ?_;refine aq.intro (Vk A (by unfold maxLen;omega) (by unfold maxLen;omega) hA.1 hA.2) ?_;exact dt
end
def fi (w:ai) (node:Int) (l:List iK):ai:=l.foldl (fun w k=>gT w ⟨2,node,0,0,0,k.i4,k.new,k.proof⟩) w
def xH (x:aB):Bool:=((bV x.text).2.1==0)&&((bV x.text).1.kind==6)
def iw (w:ai) (node:Int) (l:List aB):ai:=l.foldl (fun w x=>if xH x then gT w ⟨3,node,x.jx,0,0,.zero,⟨(bV x.text).1.size,(bV x.text).1.root⟩,[]⟩ else w) w
def cF:bE:=⟨pN,[]⟩
def dP (s:cK):bu:=⟨s.eK,s.many,0,0,.zero,[],.zero⟩
def p6 (s:cK):cQ:=⟨dP s,[],.zero⟩
def jW (w:ai) (n:Nat):ai × aB:=match w.ak[n]? with
 | some (x::l)=>({w with ak:=w.ak.set n l},x)
 | _=>(w,⟨0,0,⟨#[]⟩⟩)
def pe (w:ai) (n:Nat) (t:cU):ai:=gV (iv (fG {w with cls:=w.cls.set (n - w.ah.length - 1) t.cl} t.bM) 1 n t.acc) n t.dI
def pd (w:ai) (n:Nat) (t:gl):ai:=gV (iv (iv (fG {w with cD:=t.cD} t.bM) 1 n t.acc) 5 n t.j7) n t.dI
def B7 (w:ai) (n:Nat) (h:eS):ai:=gV (fG (iw (fi {w with ah:=w.ah.set (n - 1) ⟨h.aH,h.aS⟩} n h.kept.toList) n h.bM) h.bM) n h.dI
def fI (w:ai) (n:Nat) (x:aB):ai:=
 if n=0 then(if (kg w.log x).2 then lq w (kg w.log x).1 else w)
 else if n≤w.ah.length then B7 w n (fO (w.ah.getD (n - 1) cF) n x)
 else if n≤w.ah.length+w.cls.length then pe w n (jo (w.cls.getD (n - w.ah.length - 1) (dP w.set)) n x)
 else pd w n (i9 w.cD n x)
def kh (w:ai) (n:Nat):ai:=fI (jW w n).1 n (jW w n).2
def gS (w:ai):List Nat:=(List.range w.up.length).filter fun i=>w.up.getD i false&&decide (0<(w.ak.getD i []).length)
def kq (w:ai) (k:Int):ai:=match w.bj[eE k w.bj.length]? with
 | some x=>(let w1:ai:={w with bj:=w.bj.eraseIdx (eE k w.bj.length)}
  if x.jx.toNat<w.ak.length∧w.up.getD x.jx.toNat false=true∧((w.ak.getD x.jx.toNat []).length:Int)<w.set.inbox then {w1 with ak:=w.ak.set x.jx.toNat (w.ak.getD x.jx.toNat []++[x])} else w1)
 | none=>w
def jb:Nat→ai→ai
 | 0,w=>w
 | n+1,w=>jb n (kq w 0)
def jz (w:ai):Nat:=(w.ak.map List.length).sum
def kj:Nat→ai→ai
 | 0,w=>w
 | n+1,w=>match gS w with
  | []=>w
  | i::_=>kj n (kh w i)
def pg (w:ai):ai:=kj (jz (jb w.bj.length w)) (jb w.bj.length w)
def ke:Nat→ai→ai
 | 0,w=>w
 | n+1,w=>ke n (pg w)
def eW (w:ai) (n:Nat):ai:=
 if n=0 then {w with log:=[]}
 else if n≤w.ah.length then {w with ah:=w.ah.set (n - 1) ⟨(w.ah.getD (n - 1) cF).aH,[]⟩}
 else if n≤w.ah.length+w.cls.length then {w with cls:=w.cls.set (n - w.ah.length - 1) (dP w.set)}
 else {w with cD:=p6 w.set}
def ja (w:ai) (n:Nat):ai:=gT (eW {w with up:=w.up.set n false,ak:=w.ak.set n []} n) ⟨7,n,0,0,0,.zero,.zero,[]⟩
def ph (w:ai) (n:Nat) (cut:Int):ai:=
 let p:=jW w n
 let d:=(p.1.ah.getD (n - 1) cF)
 let h:=fO d n p.2
 let w1:ai:={p.1 with ah:=p.1.ah.set (n - 1) ⟨eX d.aH h.eu cut,d.aS⟩}
 ja (if cut≥(h.eu.length:Int) then fi w1 n h.kept.toList else w1) n
def ov (w:ai) (n:Nat):ai:=
 let w1:ai:={w with up:=w.up.set n true}
 if 1≤n∧n≤w.ah.length then
  (let d:=w.ah.getD (n - 1) cF
   let e:=ep d.aH (gw d.aH)
   gT {w1 with ah:=w.ah.set (n - 1) ⟨e,d.aS⟩} ⟨6,n,0,0,0,.zero,cH e,[]⟩)
 else w1
def jS (w:ai) (n:Nat):ai:=
 if n=w.ah.length+w.cls.length+1 then pd w n (i7 w.cD n)
 else if w.ah.length<n∧n≤w.ah.length+w.cls.length then pe w n (fP (w.cls.getD (n - w.ah.length - 1) (dP w.set)) n)
 else w
def oA (w:ai) (x:aJ) (n:Nat):ai:=
 if x.kind=2∧w.up.getD n false=true then jS w n
 else if x.kind=7∧w.up.getD n false=true∧(1≤n∧n≤w.ah.length)∧0<(w.ak.getD n []).length then ph w n x.arg
 else if x.kind=8∧w.up.getD n false=true then ja w n
 else if x.kind=9∧w.up.getD n false=false then ov w n
 else if x.kind=10∧w.up.getD n false=false∧(1≤n∧n≤w.ah.length) then
  {w with ah:=w.ah.set (n - 1) ⟨eX (w.ah.getD (n - 1) cF).aH (gw (w.ah.getD (n - 1) cF).aH) x.arg,(w.ah.getD (n - 1) cF).aS⟩}
 else if x.kind=11 then lq w ⟨0,n,x.text⟩
 else w
def B6 (l:List ByteArray) (t:ByteArray):List ByteArray:=if eF l then(if (l.length:Int)≥256∨(t.size:Int)>40 then l else l++[t]) else []
def zI (w:ai) (k:Int):ai:=match w.bj[eE k w.bj.length]? with
 | some x=>if (w.bj.length:Int)≥w.room then w else {w with bj:=w.bj++[x]}
 | none=>w
def uY (w:ai):ai:={w with stop:=true,up:=w.up.map fun _=>false,ak:=w.ak.map fun _=>[],bj:=[]}
def fF (w:ai) (x:aJ):ai:=
 if w.stop then w
 else if x.kind=1 then(if w.up.getD 0 false then {w with log:=B6 w.log x.text} else w)
 else if x.kind=3 then kq w x.arg
 else if x.kind=4 then {w with bj:=if w.bj=[] then [] else w.bj.eraseIdx (eE x.arg w.bj.length)}
 else if x.kind=5 then zI w x.arg
 else if x.kind=6 then(match (gS w)[eE x.arg (gS w).length]? with
  | some n=>kh w n
  | none=>w)
 else if x.kind=12 then ke (min x.arg 16).toNat w
 else if x.kind=13 then uY w
 else if x.node≤(w.ah.length+w.cls.length+1:Nat) then oA w x x.node.toNat
 else w
def fW (x:aJ):Bool:=aT x.kind 1 13&&(aT x.node 0 20&&decide ((x.text.size:Int)≤600))
def gU (s:cK):ai:=⟨s,[],List.replicate s.many.toNat cF,List.replicate s.bB.toNat (dP s),p6 s,List.replicate (s.many+s.bB+2).toNat true,List.replicate (s.many+s.bB+2).toNat [],s.room,[],[],false⟩
def FV (s:cK) (l:List aJ):Bool:=fv s&&(decide (l.length≤600)&&l.all fW)
def W7:cQ:=⟨⟨0,0,0,0,.zero,[],.zero⟩,[],.zero⟩
def gn (s:cK) (l:List aJ):ai:=if FV s l then l.foldl fF (gU s) else⟨⟨0,0,0,0,0⟩,[],[],[],W7,[],[],0,[],[],false⟩
end Go.Proofs.YtobpfkgabdeefaaGreat.E
