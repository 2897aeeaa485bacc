/- Contracts: what the log answers; The world in plain data: what its steps do -/
import Derived.Test.YtobpfkgabdeefaaGreatQ27
import Derived.Test.YtobpfkgabdeefaaGreatQ22
namespace Go.Proofs.YtobpfkgabdeefaaGreat.E
open Go Go.RowKit
set_option linter.unusedSimpArgs false
set_option linter.unusedVariables false
section
set_option maxHeartbeats 4000000
set_option maxRecDepth 10000
set_option linter.unusedSectionVars false
def Ho:cc:=⟨[(165,.cm [false]),(210,.cm [false,false]),(233,.cm [false,false]),(256,.cm [false,false]),(271,.cm [false,false])],cw,cz,false⟩
def rj (l:List ByteArray) (m:aJ):List ByteArray:=(l.drop m.from_.toNat).take ((min (l.length:Int) (m.from_+m.count)).toNat - m.from_.toNat)
def nY (l:List ByteArray) (m:aJ):aJ × Bool:=
 if eJ l&&fi m then
  (if m.kind==1 then(⟨2,m.bU,0,l.length,(fp l).dg,0,[],[]⟩,true)
   else if m.kind==4&&(decide (m.from_<=m.size)&&decide (m.size<=(l.length:Int))) then(⟨5,0,m.from_,m.size,gh,0,lM (l.take m.size.toNat) m.from_,[]⟩,true)
   else if m.kind==7&&decide (m.from_<(l.length:Int)) then(⟨8,0,m.from_,0,gh,0,[],rj l m⟩,true)
   else(.zero,false))
 else(.zero,false)
def Nr (x:aJ × Bool):AV:=.aZ [x.1.Nm,vB x.2]
attribute [go_sem] Nr
theorem agx (l:List ByteArray) (m:aJ) (hl:l.length<=maxLen) (hm:m.az.length<=maxLen):aY Tryz.prog 210 [] [.agg [.ro 1 (l.map cF)],m.ro] (Nr (nY l m)) (nY l m).1.out:=by
 refine aF Ho false Tryz.f210 ?_;conv=>enter[1];reduce
 refine bI Tryz.f210 94 [.cell 4 193,.tmp 5] (by kernel_rfl) (by decide +kernel) rfl ?_;unfold nY;refine au ?_;refine aq.intro (Aq l hl) ?_;cases h1:eJ l with
 | false=>
  simp -implicitDefEqProofs only[go_sem,Bool.not_false,Bool.false_and,bb,Bool.false_eq_true]
  first|done|rfl|exact⟨rfl,rfl⟩
 | true=>
  refine Es ?_;refine aq.intro (Vd m hm) ?_;cases h2:fi m with
  | false=>
   simp -implicitDefEqProofs only[go_sem,Bool.not_false,bb,Bool.false_eq_true]
   first|done|rfl|exact⟨rfl,rfl⟩
  | true=>
   have hw:=nR.of h2;have CV:=(gB h1).1;cases a1:(m.kind==1) with
   | true=>
    refine sd a1 ?_;refine aq.intro (HE l h1) ?_;generalize fp l=R;refine au ?_
    first|exact True.intro|rfl|exact⟨rfl,rfl⟩
   | false=>
    have hf:=hw.f;have hz:=hw.z;have hc:=hw.c;by_cases b1:m.kind=4/\(m.from_<=m.size/\m.size<=(l.length:Int))
    ·obtain⟨b1,b2,b3⟩:=b1;have oF:(m.kind==4)=true:=by rw[beq_iff_eq];exact b1
     have k1:(0:Int)<=m.size/\m.size<=(l.length:Int):=by omega
     have hg:=agi (l.take m.size.toNat) m.from_ (by rw[List.length_take];unfold maxLen;omega);unfold yi ur at hg;generalize lM (l.take m.size.toNat) m.from_=Y at *;generalize vh (l.take m.size.toNat) m.from_=ok at *;simp -implicitDefEqProofs only[go_sem,a1,oF,b2,b3,k1,Nat.sub_zero,List.drop_zero,Int.toNat_zero,Bool.not_true,Bool.and_self,bb,Bool.false_eq_true];refine ep hg ?_
     first|exact True.intro|rfl|exact⟨rfl,rfl⟩
    have b0:(m.kind==4&&(decide (m.from_<=m.size)&&decide (m.size<=(l.length:Int))))=false:=by
     rw[Bool.eq_false_iff];intro h;simp only[Bool.and_eq_true,beq_iff_eq,decide_eq_true_eq]at h;exact b1 h
    by_cases c1:m.kind=7/\m.from_<(l.length:Int)
    ·obtain⟨c1,c2⟩:=c1;have d6:(m.kind==7)=true:=by rw[beq_iff_eq];exact c1
     have oF:(m.kind==4)=false:=by rw[c1];rfl
     have w1:IntKind.i64.wrap (m.from_+m.count)=m.from_+m.count:=aN (by omega);have k1:m.from_<=min (l.length:Int) (m.from_+m.count)/\min (l.length:Int) (m.from_+m.count)<=(l.length:Int):=by omega
     have hfe:(rj l m).length<=300:=by unfold rj;rw[List.length_take,List.length_drop];omega
     have my:=uB (rj l m) (by omega);have jX:List.take ((min (l.length:Int) (m.from_+m.count)).toNat - m.from_.toNat) (List.drop m.from_.toNat l)=rj l m:=rfl;have k0:=hf.1;simp -implicitDefEqProofs only[go_sem,a1,b0,oF,d6,c2,k0,k1,w1,jX,Bool.not_true,Bool.and_self,bb,Bool.false_eq_true]
     first
      | (refine aq.intro my ?_
         refine au ?_
         first|exact True.intro|rfl|exact⟨rfl,rfl⟩)
      | (by_cases d:m.from_+m.count>(l.length:Int)
         ·have e1:min (l.length:Int) (m.from_+m.count)=(l.length:Int):=by omega
          rw[e1]at jX k1;rw[Int.toNat_natCast]at jX;simp -implicitDefEqProofs only[go_sem,d,k0,k1,jX,aT];refine cT my ?_
          first|exact True.intro|rfl|exact⟨rfl,rfl⟩
         have e1:min (l.length:Int) (m.from_+m.count)=m.from_+m.count:=by omega
         rw[e1]at jX k1;simp -implicitDefEqProofs only[go_sem,d,k0,k1,jX,aV];refine cT my ?_
         first|exact True.intro|rfl|exact⟨rfl,rfl⟩)
    have c0:(m.kind==7&&decide (m.from_<(l.length:Int)))=false:=by
     rw[Bool.eq_false_iff];intro h;simp only[Bool.and_eq_true,beq_iff_eq,decide_eq_true_eq]at h;exact c1 h
    rw[b0,c0];cases d1:(m.kind==4)<;>cases d2:(m.kind==7)<;>cases d3:decide (m.from_<=m.size)<;>cases d4:decide (m.size<=(l.length:Int))<;>cases d5:decide (m.from_<(l.length:Int))<;>rw[d1,d3,d4]at b0<;>rw[d2,d5]at c0;all_goals first
     | (exfalso;revert b0;decide)
     | (exfalso;revert c0;decide)
     | (simp -implicitDefEqProofs only [go_sem,a1,d1,d2,d3,d4,d5,Bool.not_true,bb,Bool.false_eq_true]
        first|done|rfl|exact⟨rfl,rfl⟩)
theorem agq (l:List ByteArray) (m:aJ) (hl:l.length<=maxLen) (hm:m.az.length<=maxLen):aY Tryz.prog 233 [] [.agg [.ro 1 (l.map cF)],m.ro] (Nr (nY l m)) (nY l m).1.out:=by
 refine aF Ho false Tryz.f233 ?_;conv=>enter[1];reduce
 refine bI Tryz.f233 97 [.cell 4 193,.tmp 5] (by kernel_rfl) (by decide +kernel) rfl ?_;unfold nY;refine au ?_;refine aq.intro (tp l hl) ?_;cases h1:eJ l with
 | false=>
  simp -implicitDefEqProofs only[go_sem,Bool.not_false,Bool.false_and,bb,Bool.false_eq_true]
  first|done|rfl|exact⟨rfl,rfl⟩
 | true=>
  refine Es ?_;refine aq.intro (Vb m hm) ?_;cases h2:fi m with
  | false=>
   simp -implicitDefEqProofs only[go_sem,Bool.not_false,bb,Bool.false_eq_true]
   first|done|rfl|exact⟨rfl,rfl⟩
  | true=>
   have hw:=nR.of h2;have CV:=(gB h1).1;cases a1:(m.kind==1) with
   | true=>
    refine sd a1 ?_;refine aq.intro (An l h1) ?_;generalize fp l=R;refine au ?_
    first|exact True.intro|rfl|exact⟨rfl,rfl⟩
   | false=>
    have hf:=hw.f;have hz:=hw.z;have hc:=hw.c;by_cases b1:m.kind=4/\(m.from_<=m.size/\m.size<=(l.length:Int))
    ·obtain⟨b1,b2,b3⟩:=b1;have oF:(m.kind==4)=true:=by rw[beq_iff_eq];exact b1
     have k1:(0:Int)<=m.size/\m.size<=(l.length:Int):=by omega
     have hg:=Va (l.take m.size.toNat) m.from_ (by rw[List.length_take];unfold maxLen;omega);unfold yi ur at hg;generalize lM (l.take m.size.toNat) m.from_=Y at *;generalize vh (l.take m.size.toNat) m.from_=ok at *;simp -implicitDefEqProofs only[go_sem,a1,oF,b2,b3,k1,Nat.sub_zero,List.drop_zero,Int.toNat_zero,Bool.not_true,Bool.and_self,bb,Bool.false_eq_true];refine ep hg ?_
     first|exact True.intro|rfl|exact⟨rfl,rfl⟩
    have b0:(m.kind==4&&(decide (m.from_<=m.size)&&decide (m.size<=(l.length:Int))))=false:=by
     rw[Bool.eq_false_iff];intro h;simp only[Bool.and_eq_true,beq_iff_eq,decide_eq_true_eq]at h;exact b1 h
    by_cases c1:m.kind=7/\m.from_<(l.length:Int)
    ·obtain⟨c1,c2⟩:=c1;have d6:(m.kind==7)=true:=by rw[beq_iff_eq];exact c1
     have oF:(m.kind==4)=false:=by rw[c1];rfl
     have w1:IntKind.i64.wrap (m.from_+m.count)=m.from_+m.count:=aN (by omega);have k1:m.from_<=min (l.length:Int) (m.from_+m.count)/\min (l.length:Int) (m.from_+m.count)<=(l.length:Int):=by omega
     have hfe:(rj l m).length<=300:=by unfold rj;rw[List.length_take,List.length_drop];omega
     have my:=Ap (rj l m) (by omega);have jX:List.take ((min (l.length:Int) (m.from_+m.count)).toNat - m.from_.toNat) (List.drop m.from_.toNat l)=rj l m:=rfl;have k0:=hf.1;simp -implicitDefEqProofs only[go_sem,a1,b0,oF,d6,c2,k0,k1,w1,jX,Bool.not_true,Bool.and_self,bb,Bool.false_eq_true]
     first
      | (refine aq.intro my ?_
         refine au ?_
         first|exact True.intro|rfl|exact⟨rfl,rfl⟩)
      | (by_cases d:m.from_+m.count>(l.length:Int)
         ·have e1:min (l.length:Int) (m.from_+m.count)=(l.length:Int):=by omega
          rw[e1]at jX k1;rw[Int.toNat_natCast]at jX;simp -implicitDefEqProofs only[go_sem,d,k0,k1,jX,aT];refine cT my ?_
          first|exact True.intro|rfl|exact⟨rfl,rfl⟩
         have e1:min (l.length:Int) (m.from_+m.count)=m.from_+m.count:=by omega
         rw[e1]at jX k1;simp -implicitDefEqProofs only[go_sem,d,k0,k1,jX,aV];refine cT my ?_
         first|exact True.intro|rfl|exact⟨rfl,rfl⟩)
    have c0:(m.kind==7&&decide (m.from_<(l.length:Int)))=false:=by
     rw[Bool.eq_false_iff];intro h;simp only[Bool.and_eq_true,beq_iff_eq,decide_eq_true_eq]at h;exact c1 h
    rw[b0,c0];cases d1:(m.kind==4)<;>cases d2:(m.kind==7)<;>cases d3:decide (m.from_<=m.size)<;>cases d4:decide (m.size<=(l.length:Int))<;>cases d5:decide (m.from_<(l.length:Int))<;>rw[d1,d3,d4]at b0<;>rw[d2,d5]at c0;all_goals first
     | (exfalso;revert b0;decide)
     | (exfalso;revert c0;decide)
     | (simp -implicitDefEqProofs only [go_sem,a1,d1,d2,d3,d4,d5,Bool.not_true,bb,Bool.false_eq_true]
        first|done|rfl|exact⟨rfl,rfl⟩)
def i7 (l:List ByteArray) (x:aC):aC × Bool:=
 if df x then(if (cf x.text).2.1==0 then(if (nY l (cf x.text).1).2 then(⟨0,x.from_,gy (nY l (cf x.text).1).1⟩,true) else(⟨0,0,⟨#[]⟩⟩,false)) else(⟨0,0,⟨#[]⟩⟩,false)) else(⟨0,0,⟨#[]⟩⟩,false)
def F6 (x:aC × Bool):AV:=.aZ [.agg x.1.cs,vB x.2]
attribute [go_sem] F6
theorem RH {l:List ByteArray}{m:aJ}:(nY l m).1.root.ok/\(∀d∈(nY l m).1.proof,d.ok)/\(nY l m).1.proof.length<=1000/\(nY l m).1.az.length<=1000:=by
 have hz:gh.ok:=pX;unfold nY;split
 ·rename_i h0;simp only[Bool.and_eq_true]at h0;have CV:=(gB h0.1).1;split
  ·exact⟨BD.Dk _,by simp,by simp,by simp⟩
  split
  ·refine⟨hz,?_,?_,by simp⟩
   ·intro d hd;simp only[lM]at hd;split at hd
    ·unfold ri at hd;split at hd
     ·simp at hd
     obtain⟨x,_,rfl⟩:=List.mem_map.1 hd;exact BD.Dk _
    simp at hd
   show(lM _ _).length<=1000
   unfold lM;split
   ·rename_i h1;unfold ri;split
    ·simp
    rename_i h2;simp only[vh,Bool.and_eq_true]at h1;obtain⟨hn,hm⟩:=vg h1.2;have hl:(l.take m.size.toNat).length<=l.length:=by rw[List.length_take];omega
    have:=o7 (m:=m.from_.toNat) (l.take m.size.toNat).length 0 (l.take m.size.toNat).length (by omega) (by omega);simp only[List.length_map,List.length_append];omega
   simp
  split
  ·refine⟨hz,by simp,by simp,?_⟩;show(rj l m).length<=1000
   unfold rj;rw[List.length_take,List.length_drop];omega
  exact⟨hz,by simp[aJ.zero],by simp[aJ.zero],by simp[aJ.zero]⟩
 exact⟨hz,by simp[aJ.zero],by simp[aJ.zero],by simp[aJ.zero]⟩
theorem agN (l:List ByteArray) (x:aC) (hl:l.length<=maxLen):ba Tryz.prog 161 [.agg [.ro 1 (l.map cF)],.agg x.cs] (F6 (i7 l x)) []:=by
 refine aF Ho false Tryz.f161 ?_;conv=>enter[1];reduce
 refine bu Tryz.f161 38 [.cell 4 116,.tmp 5] (by kernel_rfl) (by decide +kernel) rfl ?_;unfold i7;refine au ?_;refine aq.intro (wh x) ?_;cases a1:df x with
 | false=>simp -implicitDefEqProofs only[go_sem,Bool.not_false,aT,aV,Bool.false_eq_true]
 | true=>
  have dv:x.text.size<=600:=by
   simp only[df,Bool.and_eq_true,decide_eq_true_eq]at a1;omega
  refine Em ?_;refine aE.intro (DB x.text (by omega)) ?_;have ir:=xv x.text;generalize hW:cf x.text=W at *;obtain⟨m,code,at_⟩:=W;simp only at ir;cases b1:(code==0) with
  | false=>
   have oF:(code != 0)=true:=by simpa using b1
   simp -implicitDefEqProofs only[go_sem,oF,b1,aT,aV,Bool.false_eq_true]
  | true=>
   have oF:(code != 0)=false:=by simpa using b1
   refine AY oF b1 ?_;have LB:=agx l m hl (by unfold maxLen;omega);have hA:=RH (l:=l) (m:=m);generalize nY l m=A0 at *;obtain⟨A,ok⟩:=A0;simp only at hA;obtain⟨LF,LD,hA3,hA4⟩:=hA;have hA:A.root.ok/\(∀d∈A.proof,d.ok):=⟨LF,LD⟩;refine aE.intro LB ?_;cases ok with
   | false=>simp -implicitDefEqProofs only[go_sem,Bool.not_false,aT,aV,Bool.false_eq_true]
   | true=>
    refine Em ?_;refine aq.intro (Vs A (by unfold maxLen;omega)) ?_;exact dy
theorem VD (l:List ByteArray) (x:aC) (hl:l.length<=maxLen):ba Tryz.prog 182 [.agg [.ro 1 (l.map cF)],.agg x.cs] (F6 (i7 l x)) []:=by
 refine aF Ho false Tryz.f182 ?_;conv=>enter[1];reduce
 refine bu Tryz.f182 38 [.cell 4 116,.tmp 5] (by kernel_rfl) (by decide +kernel) rfl ?_;unfold i7;refine au ?_;refine aq.intro (wc x) ?_;cases a1:df x with
 | false=>simp -implicitDefEqProofs only[go_sem,Bool.not_false,aT,aV,Bool.false_eq_true]
 | true=>
  have dv:x.text.size<=600:=by
   simp only[df,Bool.and_eq_true,decide_eq_true_eq]at a1;omega
  refine Em ?_;refine aq.intro (Dw x.text (by omega)) ?_;have ir:=xv x.text;generalize hW:cf x.text=W at *;obtain⟨m,code,at_⟩:=W;simp only at ir;cases b1:(code==0) with
  | false=>
   have oF:(code != 0)=true:=by simpa using b1
   simp -implicitDefEqProofs only[go_sem,oF,b1,aT,aV,Bool.false_eq_true]
  | true=>
   have oF:(code != 0)=false:=by simpa using b1
   refine AY oF b1 ?_;have LB:=agq l m hl (by unfold maxLen;omega);have hA:=RH (l:=l) (m:=m);generalize nY l m=A0 at *;obtain⟨A,ok⟩:=A0;simp only at hA;obtain⟨LF,LD,hA3,hA4⟩:=hA;have hA:A.root.ok/\(∀d∈A.proof,d.ok):=⟨LF,LD⟩;refine aE.intro LB ?_;cases ok with
   | false=>simp -implicitDefEqProofs only[go_sem,Bool.not_false,aT,aV,Bool.false_eq_true]
   | true=>
    refine Em ?_;refine aq.intro (HF A (by unfold maxLen;omega) (by unfold maxLen;omega) hA.1 hA.2) ?_;exact dy
end
def fC (w:ae) (node:Int) (l:List iZ):ae:=l.foldl (fun w k=>ik w ⟨2,node,0,0,0,k.jn,k.new,k.proof⟩) w
def xC (x:aC):Bool:=((cf x.text).2.1==0)&&((cf x.text).1.kind==6)
def iE (w:ae) (node:Int) (l:List aC):ae:=l.foldl (fun w x=>if xC x then ik w ⟨3,node,x.iB,0,0,.zero,⟨(cf x.text).1.size,(cf x.text).1.root⟩,[]⟩ else w) w
def cJ:bz:=⟨qb,[]⟩
def dW (s:et):bw:=⟨s.eH,s.many,0,0,.zero,[],.zero⟩
def qm (s:et):c9:=⟨dW s,[],.zero⟩
def jI (w:ae) (n:Nat):ae × aC:=match w.ai[n]? with
 | some (x::l)=>({w with ai:=w.ai.set n l},x)
 | _=>(w,⟨0,0,⟨#[]⟩⟩)
def oQ (w:ae) (n:Nat) (t:cW):ae:=il (iD (fP {w with cls:=w.cls.set (n - w.aj.length - 1) t.cl} t.bR) 1 n t.acc) n t.dN
def oP (w:ae) (n:Nat) (t:gx):ae:=il (iD (iD (fP {w with cS:=t.cS} t.bR) 1 n t.acc) 5 n t.kx) n t.dN
def B3 (w:ae) (n:Nat) (h:fm):ae:=il (fP (iE (fC {w with aj:=w.aj.set (n - 1) ⟨h.aH,h.aQ⟩} n h.kept.toList) n h.bR) h.bR) n h.dN
def fA (w:ae) (n:Nat) (x:aC):ae:=
 if n=0 then(if (i7 w.log x).2 then lK w (i7 w.log x).1 else w)
 else if n<=w.aj.length then B3 w n (fX (w.aj.getD (n - 1) cJ) n x)
 else if n<=w.aj.length+w.cls.length then oQ w n (jH (w.cls.getD (n - w.aj.length - 1) (dW w.set)) n x)
 else oP w n (jr w.cS n x)
def js (w:ae) (n:Nat):ae:=fA (jI w n).1 n (jI w n).2
def gP (w:ae):List Nat:=(List.range w.up.length).filter fun i=>w.up.getD i false&&decide (0<(w.ai.getD i []).length)
def ju (w:ae) (k:Int):ae:=match w.aO[eP k w.aO.length]? with
 | some x=>(let w1:ae:={w with aO:=w.aO.eraseIdx (eP k w.aO.length)}
  if x.iB.toNat<w.ai.length/\w.up.getD x.iB.toNat false=true/\((w.ai.getD x.iB.toNat []).length:Int)<w.set.inbox then {w1 with ai:=w.ai.set x.iB.toNat (w.ai.getD x.iB.toNat []++[x])} else w1)
 | none=>w
def iS:Nat->ae->ae
 | 0,w=>w
 | n+1,w=>iS n (ju w 0)
def jO (w:ae):Nat:=(w.ai.map List.length).sum
def jt:Nat->ae->ae
 | 0,w=>w
 | n+1,w=>match gP w with
  | []=>w
  | i::_=>jt n (js w i)
def pD (w:ae):ae:=jt (jO (iS w.aO.length w)) (iS w.aO.length w)
def jP:Nat->ae->ae
 | 0,w=>w
 | n+1,w=>jP n (pD w)
def eQ (w:ae) (n:Nat):ae:=
 if n=0 then {w with log:=[]}
 else if n<=w.aj.length then {w with aj:=w.aj.set (n - 1) ⟨(w.aj.getD (n - 1) cJ).aH,[]⟩}
 else if n<=w.aj.length+w.cls.length then {w with cls:=w.cls.set (n - w.aj.length - 1) (dW w.set)}
 else {w with cS:=qm w.set}
def iR (w:ae) (n:Nat):ae:=ik (eQ {w with up:=w.up.set n false,ai:=w.ai.set n []} n) ⟨7,n,0,0,0,.zero,.zero,[]⟩
def nA (w:ae) (n:Nat) (cut:Int):ae:=
 let p:=jI w n
 let d:=(p.1.aj.getD (n - 1) cJ)
 let h:=fX d n p.2
 let w1:ae:={p.1 with aj:=p.1.aj.set (n - 1) ⟨fu d.aH h.eG cut,d.aQ⟩}
 iR (if cut>=(h.eG.length:Int) then fC w1 n h.kept.toList else w1) n
def mN (w:ae) (n:Nat):ae:=
 let w1:ae:={w with up:=w.up.set n true}
 if 1<=n/\n<=w.aj.length then
  (let d:=w.aj.getD (n - 1) cJ
   let e:=eB d.aH (gQ d.aH)
   ik {w1 with aj:=w.aj.set (n - 1) ⟨e,d.aQ⟩} ⟨6,n,0,0,0,.zero,cO e,[]⟩)
 else w1
def i5 (w:ae) (n:Nat):ae:=
 if n=w.aj.length+w.cls.length+1 then oP w n (jq w.cS n)
 else if w.aj.length<n/\n<=w.aj.length+w.cls.length then oQ w n (fY (w.cls.getD (n - w.aj.length - 1) (dW w.set)) n)
 else w
def mg (w:ae) (x:bQ) (n:Nat):ae:=
 if x.kind=2/\w.up.getD n false=true then i5 w n
 else if x.kind=7/\w.up.getD n false=true/\(1<=n/\n<=w.aj.length)/\0<(w.ai.getD n []).length then nA w n x.arg
 else if x.kind=8/\w.up.getD n false=true then iR w n
 else if x.kind=9/\w.up.getD n false=false then mN w n
 else if x.kind=10/\w.up.getD n false=false/\(1<=n/\n<=w.aj.length) then
  {w with aj:=w.aj.set (n - 1) ⟨fu (w.aj.getD (n - 1) cJ).aH (gQ (w.aj.getD (n - 1) cJ).aH) x.arg,(w.aj.getD (n - 1) cJ).aQ⟩}
 else if x.kind=11 then lK w ⟨0,n,x.text⟩
 else w
def BZ (l:List ByteArray) (t:ByteArray):List ByteArray:=if eJ l then(if (l.length:Int)>=256\/(t.size:Int)>40 then l else l++[t]) else []
def vi (w:ae) (k:Int):ae:=match w.aO[eP k w.aO.length]? with
 | some x=>if (w.aO.length:Int)>=w.room then w else {w with aO:=w.aO++[x]}
 | none=>w
def u9 (w:ae):ae:={w with stop:=true,up:=w.up.map fun _=>false,ai:=w.ai.map fun _=>[],aO:=[]}
def eZ (w:ae) (x:bQ):ae:=
 if w.stop then w
 else if x.kind=1 then(if w.up.getD 0 false then {w with log:=BZ w.log x.text} else w)
 else if x.kind=3 then ju w x.arg
 else if x.kind=4 then {w with aO:=if w.aO=[] then [] else w.aO.eraseIdx (eP x.arg w.aO.length)}
 else if x.kind=5 then vi w x.arg
 else if x.kind=6 then(match (gP w)[eP x.arg (gP w).length]? with
  | some n=>js w n
  | none=>w)
 else if x.kind=12 then jP (min x.arg 16).toNat w
 else if x.kind=13 then u9 w
 else if x.node<=(w.aj.length+w.cls.length+1:Nat) then mg w x x.node.toNat
 else w
def e9 (x:bQ):Bool:=aS x.kind 1 13&&(aS x.node 0 20&&decide ((x.text.size:Int)<=600))
def gz (s:et):ae:=⟨s,[],List.replicate s.many.toNat cJ,List.replicate s.bB.toNat (dW s),qm s,List.replicate (s.many+s.bB+2).toNat true,List.replicate (s.many+s.bB+2).toNat [],s.room,[],[],false⟩
def FU (s:et) (l:List bQ):Bool:=ij s&&(decide (l.length<=600)&&l.all e9)
def Xf:c9:=⟨⟨0,0,0,0,.zero,[],.zero⟩,[],.zero⟩
def re (s:et) (l:List bQ):ae:=if FU s l then l.foldl eZ (gz s) else⟨⟨0,0,0,0,0⟩,[],[],[],Xf,[],[],0,[],[],false⟩
end Go.Proofs.YtobpfkgabdeefaaGreat.E
