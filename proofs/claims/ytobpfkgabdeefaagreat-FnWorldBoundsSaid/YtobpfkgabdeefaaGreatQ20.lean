/- Contracts: what comes of a letter to a client, in the program; Contracts: what comes of a letter to a client, in the program, whole; Contracts: monitors that are ok; their copies; Contracts: monitors copied; what comes of what their clients are told; Contracts: a monitor hears a range; Contracts: a monitor's tick, and what it hears, in the program; A monitor keeps what it has: the plain law; Contr -/
import Derived.Test.YtobpfkgabdeefaaGreatQ18
import Derived.Test.YtobpfkgabdeefaaGreatQ19
import Derived.Test.YtobpfkgabdeefaaGreatQ16
namespace Go.Proofs.YtobpfkgabdeefaaGreat.E
open Go Go.RowKit
set_option linter.unusedSimpArgs false
set_option linter.unusedVariables false
section
set_option maxHeartbeats 4000000
set_option maxRecDepth 10000
set_option linter.unusedSectionVars false
def Hp:cc:=⟨[],cw,cz,false⟩
theorem acN (l:List Int):fN 1 (l.map dz)=true:=by
 induction l with
 | nil=>rfl
 | cons a l ih=>simp only[List.map_cons,fN,ih,dz];rfl
theorem acO (l:List Int):dJ (l.map dz)=2:=by
 induction l with
 | nil=>rfl
 | cons a l ih=>simp only[List.map_cons,dJ,ih,dz];rfl
attribute [go_sem] acN acO
theorem MW (l:List Int) (hl:l.length * 8<=140737488355328):ba Tryz.prog 178 [.ro 1 (l.map dz)] (.aw 0 0 [] 1 0 l.length) [([],⟨1,l.map dz,2,false⟩)]:=by
 refine aF Hp false Tryz.f178 ?_;conv=>enter[1];reduce
 refine bu Tryz.f178 14 [.tmp 2] (by kernel_rfl) (by decide +kernel) rfl ?_;refine au ?_;refine bX (fun h=>?_) (fun h=>?_)
 ·have:l=[]:=by simpa using h
  subst this;exact dy
 have hm:=pA hl (by omega);have jz:((8:Nat):Int) * (l.length:Int)<=281474976710656/\(l.length:Int)<=9223372036854775807:=by unfold maxLen at hm;omega
 exact uO h jz
theorem HN (c:bw) (hl:c.bj.length<=100):aY Tryz.prog 122 [] [c.ro] (c.av []) [(0,0,one c.ar)]:=by
 refine aF Hp false Tryz.f122 ?_;conv=>enter[1];reduce
 refine bI Tryz.f122 10 [.cell 2 54] (by kernel_rfl) (by decide +kernel) rfl ?_;refine au ?_;refine aq.intro (MW c.bj (by omega)) ?_;exact dy
def bw.IQ (c:bw):AV:=.agg (cW.cs ⟨c,[],[],[]⟩ (.aw 1000000 0 [] 1 0 c.bj.length) .aG .aG .aG)
def cW.Wq (t:cW):AV:=.agg (t.cs (.aw 1000000 0 [] 1 0 t.cl.bj.length) (.aw 0 0 [] 3 0 t.bR.length) (.aw 1 0 [] 13 0 t.dN.length) (.aw 2 0 [] 5 0 t.acc.length))
def cW.QA (t:cW):ak:=[(1000000,0,one t.cl.ar),(0,0,one t.lr),(1,0,one t.xr),(2,0,one t.pr)]
attribute [go_sem] bw.IQ cW.Wq cW.QA
theorem Vn (c:bw) (me:Int) (p:cg) (hm:c.many<=100):aY Tryz.prog 225 [(1000000,0,one c.ar)] [c.IQ,vI me,.agg p.cs] (qq c me p).Wq (qq c me p).QA:=by
 refine aF Hp false Tryz.f225 ?_;conv=>enter[1];reduce
 refine bI Tryz.f225 82 [.cell 6 206] (by kernel_rfl) (by decide +kernel) rfl ?_;refine au ?_;unfold qq;by_cases a:p.size=0
 ·have a':(p.size==0)=true:=by simpa using a
  rw[if_pos (.inl a)];simp -implicitDefEqProofs only[go_sem,a',eD,aT,cW.base]
 have a':(p.size==0)=false:=by simpa using a
 by_cases b:p.size<c.aP.size
 ·rw[if_pos (.inr (.inl b))];simp -implicitDefEqProofs only[go_sem,a',b,bW,eD,aT,cW.base]
 cases e:qN p c.aP with
 | true=>
  rw[if_pos (.inr (.inr rfl))];have e':(p.size==c.aP.size&&(((p.root.a:Int)==c.aP.root.a)&&(((p.root.b:Int)==c.aP.root.b)&&(((p.root.c:Int)==c.aP.root.c)&&((p.root.d:Int)==c.aP.root.d)))))=true:=e;simp -implicitDefEqProofs only[go_sem,a',b,e',bW,aT,cW.base]
 | false=>
  rw[if_neg (by simp only[not_or];exact⟨a,b,by simp⟩)];have e':(p.size==c.aP.size&&(((p.root.a:Int)==c.aP.root.a)&&(((p.root.b:Int)==c.aP.root.b)&&(((p.root.c:Int)==c.aP.root.c)&&((p.root.d:Int)==c.aP.root.d)))))=false:=e;by_cases d:p.size=c.aP.size
  ·have d':(p.size==c.aP.size)=true:=by simpa using d
   rw[if_pos d];simp only[d',Bool.true_and]at e';simp -implicitDefEqProofs only[go_sem,a',b,e',d',bW,aT,aV];try rfl
  have d':(p.size==c.aP.size)=false:=by simpa using d
  rw[if_neg d];simp -implicitDefEqProofs only[go_sem,a',b,e',d',bW,aT,aV];generalize hF:(fun i:Nat=>aC.mk me ((i:Int)+1) (gy (zy c p)))=F;have hv:=fun i:Nat=>Dv me ((i:Int)+1) (zy c p) rfl rfl
  refine mj [(16003,3)] (fun x s=>∃i:Nat,i<=c.many.toNat/\x=c.many.toNat - i/\s=⟨82,[(1,vI me),(3,.ptr 3 0 [] 18 0 0),(5,.ptr 5 0 [] 5 0 0),(6,.ptr 6 0 [] 18 0 0),(7,.ptr 3 0 [] 18 0 0),(8,vI ((i:Int)+1))],[(1000000,0,one c.ar),(3,0,one ⟨18,[cW.cs ⟨{c with phase:=2,goal:=p},[],[],[]⟩ (.aw 1000000 0 [] 1 0 c.bj.length) (.aw 10003 0 [] 3 0 ((List.range i).map F).length) .aG .aG],0,false⟩),(10003,0,one ⟨3,((List.range i).map F).map aC.cs,2,false⟩),(5,0,one ⟨5,[p.cs],0,false⟩),(6,0,one ⟨18,[Ed],0,false⟩)],1⟩) c.many.toNat ?_ ?_
  ·refine au ?_;exact⟨0,aR _,rfl,rfl⟩
  rintro x s ⟨i,hi,rfl,rfl⟩;rcases bp i c.many.toNat with ab|bM
  ·have ah:(i:Int)+1<=c.many:=by omega
   have w1:IntKind.i64.wrap ((i:Int)+1+1)=((i+1:Nat):Int)+1:=by rw[aN (by omega)];omega
   have ha:∀x,_:=fun x=>ed (E:=aC.cs) (l:=(List.range i).map F) (xs:=[x]) (b:=32) (n:=1000) (by simp;omega) (by omega) (by omega)
   refine aA ah ?_;refine aq.intro (hv i) ?_;refine b8 ha w1 ?_;refine⟨_,by omega,i+1,ab,rfl,?_⟩;rw[List.range_succ,List.map_append,List.map_cons,List.map_nil,<-hF];simp only[gj,aC.cs];try rfl
  have hi:i=c.many.toNat:=by omega
  subst hi;have ah:¬((c.many.toNat:Int)+1<=c.many):=by omega
  simp -implicitDefEqProofs only[go_sem,ah];try rfl
theorem Vm (c:bw) (w:Int) (hl:c.bj.length<=100):aY Tryz.prog 226 [(1000000,0,one c.ar)] [c.IQ,vI w] (qt c w).tt (qt c w).sA:=by
 refine aF Hp false Tryz.f226 ?_;conv=>enter[1];reduce
 refine bI Tryz.f226 81 [.cell 4 206] (by kernel_rfl) (by decide +kernel) rfl ?_;refine au ?_;have mq:c.bj.length<=maxLen:=by unfold maxLen;omega
 generalize hL:c.bj=l at *;refine mj [(6,1)] (fun m s=>∃(i:Nat) (o:List Int) (put:Bool),i<=l.length/\m=l.length - i/\o.length<=2 * i/\o++jg w (l.drop i) put=qs l w/\s=⟨81,[(1,vI w),(2,.ptr 2 0 [] 18 0 0),(4,.ptr 4 0 [] 18 0 0),(5,.ptr 2 0 [] 18 0 0),(6,.aw 6 0 [] 1 0 o.length),(7,vB put),(14,.aw 1000000 0 [] 1 0 l.length),(15,vI l.length),(16,vI i)],[(1000000,0,one ⟨1,l.map dz,2,false⟩),(2,0,one ⟨18,[cW.cs ⟨c,[],[],[]⟩ (.aw 1000000 0 [] 1 0 l.length) .aG .aG .aG],0,false⟩),(4,0,one ⟨18,[Ed],0,false⟩),(6,0,one ⟨1,o.map dz,2,false⟩)],1⟩) l.length ?_ ?_
 ·refine au ?_;exact⟨0,[],false,aR _,rfl,Nat.le_refl _,rfl,rfl⟩
 rintro m s ⟨i,o,put,hi,rfl,ho,hx,rfl⟩;rcases bp i l.length with ab|bM
 ·have ah:(i:Int)<(l.length:Int):=by omega
  have hg:l[i]?=some l[i]:=bm ab;have hw:=dx ab mq;rw[WN ab]at hx;have ha:∀x,_:=fun x=>ed (E:=dz) (l:=o) (xs:=[x]) (b:=8) (n:=1000) (by simp;omega) (by omega) (by omega)
  have cN:∀x y:List AV,(o.map dz++[x]++[y]).length<=maxLen/\(o.map dz++[x]++[y]).length * 8<=140737488355328:=fun x y=>by unfold maxLen;simp;omega
  cases hd:decide (l[i]>=w)<;>cases he:(l[i] != w)<;>cases put
  all_goals simp only[hd,he,Bool.not_true,Bool.not_false,Bool.and_true,Bool.and_false,Bool.true_and,Bool.false_and,if_true,if_false,Bool.false_eq_true,Bool.or_true,Bool.or_false,List.nil_append]at hx
  all_goals simp -implicitDefEqProofs only[go_sem,ah,hg]
  all_goals repeat' first|(refine fv (fun h=>?_) (fun h=>?_)<;>try simp -implicitDefEqProofs only[go_sem,ah,hg,hd,he,hw,ha,cN,eC,bW,eD,fg,aT,aV,h])|(refine bX (fun h=>?_) (fun h=>?_)<;>try simp -implicitDefEqProofs only[go_sem,ah,hg,hd,he,hw,ha,cN,eC,bW,eD,fg,aT,aV,h])
  all_goals first
   | (rw[hd]at h;cases h;done)
   | (rw[he]at h;cases h;done)
   | (refine⟨_,by omega,i+1,o,true,ab,rfl,?_,?_,?_⟩;all_goals first|omega|(simp;omega)|(rw[<-hx];simp;done)|(simp[dz];done))
   | (refine⟨_,by omega,i+1,o,false,ab,rfl,?_,?_,?_⟩;all_goals first|omega|(simp;omega)|(rw[<-hx];simp;done)|(simp[dz];done))
   | (refine⟨_,by omega,i+1,o++[l[i]],true,ab,rfl,?_,?_,?_⟩;all_goals first|omega|(simp;omega)|(rw[<-hx];simp;done)|(simp[dz];done))
   | (refine⟨_,by omega,i+1,o++[l[i]],false,ab,rfl,?_,?_,?_⟩;all_goals first|omega|(simp;omega)|(rw[<-hx];simp;done)|(simp[dz];done))
   | (refine⟨_,by omega,i+1,o++[w],true,ab,rfl,?_,?_,?_⟩;all_goals first|omega|(simp;omega)|(rw[<-hx];simp;done)|(simp[dz];done))
   | (refine⟨_,by omega,i+1,o++[w],false,ab,rfl,?_,?_,?_⟩;all_goals first|omega|(simp;omega)|(rw[<-hx];simp;done)|(simp[dz];done))
   | (refine⟨_,by omega,i+1,o++[w]++[l[i]],true,ab,rfl,?_,?_,?_⟩;all_goals first|omega|(simp;omega)|(rw[<-hx];simp;done)|(simp[dz];done))
   | (refine⟨_,by omega,i+1,o++[w]++[l[i]],false,ab,rfl,?_,?_,?_⟩;all_goals first|omega|(simp;omega)|(rw[<-hx];simp;done)|(simp[dz];done))
 have hi:i=l.length:=by omega
 subst hi;have ah:¬((l.length:Int)<(l.length:Int)):=by omega
 rw[List.drop_length]at hx;have ha:∀x,_:=fun x=>ed (E:=dz) (l:=o) (xs:=[x]) (b:=8) (n:=1000) (by simp;omega) (by omega) (by omega)
 have rB:=WL w l false;have fin:∀o:List Int,o=qs l w->o.length<=2 * l.length+1:=fun o h=>by rw[h];exact rB
 obtain⟨o',mT⟩:∃o',o'=qs l w:=⟨_,rfl⟩;unfold qt;rw[hL,<-mT];have fK:=fin o' mT;refine aA ah ?_;cases put
 ·have e:o++[w]=o':=by rw[mT,<-hx];simp[jg]
  have eM:o.map dz++[[vI w]]=o'.map dz:=by rw[<-e];simp[dz]
  have kv:=ha [vI w];rw[eM,List.length_map]at kv;simp -implicitDefEqProofs only[go_sem,eM,kv,aT];refine cT (MW o' (by omega)) ?_;refine bX (fun h=>?_) (fun h=>?_)
  ·have h':=of_decide_eq_true h;rw[if_neg (by omega)];simp -implicitDefEqProofs only[go_sem,h];try rfl
  have h':=of_decide_eq_false h;rw[if_pos (by omega)];simp -implicitDefEqProofs only[go_sem,h];try rfl
 have e:o=o':=by rw[mT,<-hx];simp[jg]
 subst e;simp -implicitDefEqProofs only[go_sem,aV];refine cT (MW o (by omega)) ?_;refine bX (fun h=>?_) (fun h=>?_)
 ·have h':=of_decide_eq_true h;rw[if_neg (by omega)];simp -implicitDefEqProofs only[go_sem,h];try rfl
 have h':=of_decide_eq_false h;rw[if_pos (by omega)];simp -implicitDefEqProofs only[go_sem,h];try rfl
end
section
set_option maxHeartbeats 4000000
set_option maxRecDepth 10000
set_option linter.unusedSectionVars false
def Us:cc:=⟨[(122,.cm [false]),(165,.cm [false]),(225,.cm [true,false,false]),(226,.cm [true,false])],cw,cz,false⟩
theorem abN (c:bw) (me:Int) (p:cg) (hm:c.many<=100):(qq c me p).bR.length * 32<=140737488355328:=by
 unfold qq;split
 ·simp[cW.base]
 split
 ·simp
 simp;omega
theorem abU (c:bw) (w:Int):(qt c w).bR.length * 32<=140737488355328:=by
 unfold qt;split<;>simp
theorem VG (c:bw) (me:Int) (l:aC) (hl:c.bj.length<=maxLen):aY Tryz.prog 171 [] [c.ro,vI me,.agg l.cs] (jH c me l).tt (jH c me l).sA:=by
 refine aF Us false Tryz.f171 ?_;conv=>enter[1];reduce
 refine bI Tryz.f171 107 [.cell 6 206] (by kernel_rfl) (by decide +kernel) rfl ?_;unfold jH;cases aI:jc c me l with
 | false=>
  rw[if_neg (by simp)];simp -implicitDefEqProofs only[go_sem]
  repeat' first|(refine aq.intro (by first|exact wi c hl|exact wh l) ?_;try simp -implicitDefEqProofs only[go_sem,aT,aV])|(refine aE.intro (by first|exact wi c hl|exact wh l) ?_;try simp -implicitDefEqProofs only[go_sem,aT,aV])|(refine fv (fun h=>?_) (fun h=>?_)<;>try simp -implicitDefEqProofs only[go_sem,aT,aV,h])|(refine bX (fun h=>?_) (fun h=>?_)<;>try simp -implicitDefEqProofs only[go_sem,aT,aV,h])
  all_goals first
   | exact⟨rfl,rfl⟩
   | (exfalso;simp_all[jc,aS];done)
   | (exfalso;simp_all[jc,aS];omega)
 | true=>
  rw[if_pos rfl];simp only[jc,Bool.and_eq_true]at aI;obtain⟨o1,o2,o3⟩:=aI;obtain⟨pJ,lV⟩:=rT o1;have o2':=cr.1 o2;have m1:¬(me<1):=by omega
  have m2:¬(me>20):=by omega
  have dv:l.text.size<=600:=by
   simp only[df,Bool.and_eq_true,decide_eq_true_eq]at o3;omega
  have hI:=DB l.text (by omega);generalize cf l.text=W at *;obtain⟨m,code,a⟩:=W;have hH:=abN c me ⟨m.size,m.root⟩ pJ;have hA:=abU c l.from_;refine au ?_;refine aq.intro (wi c hl) ?_;refine uM o1 ?_;refine aq.intro (wh l) ?_;simp -implicitDefEqProofs only[go_sem,o3,m1,m2,bW,aV];refine ep (HN c lV) ?_;refine aE.intro hI ?_;cases k0:(code==0)<;>cases ks:(m.bU==c.bU);all_goals have k1:(code != 0)=!(code==0):=rfl
  all_goals have k2:(m.bU != c.bU)=!(m.bU==c.bU):=rfl
  all_goals simp -implicitDefEqProofs only[go_sem,k1,k2,k0,ks]
  all_goals repeat' first|(refine aq.intro (by first|exact Vn c me ⟨m.size,m.root⟩ pJ|exact Vm c l.from_ lV|exact Mn|exact pe _ hH|exact pe _ hA) ?_;try simp -implicitDefEqProofs only[go_sem,k1,k2,k0,ks,aT,aV,eC,bW,eD,fg])|(refine aE.intro (by first|exact Vn c me ⟨m.size,m.root⟩ pJ|exact Vm c l.from_ lV|exact Mn|exact pe _ hH|exact pe _ hA) ?_;try simp -implicitDefEqProofs only[go_sem,k1,k2,k0,ks,aT,aV,eC,bW,eD,fg])|(refine fv (fun h=>?_) (fun h=>?_)<;>try simp -implicitDefEqProofs only[go_sem,k1,k2,k0,ks,aT,aV,eC,bW,eD,fg,h])|(refine bX (fun h=>?_) (fun h=>?_)<;>try simp -implicitDefEqProofs only[go_sem,k1,k2,k0,ks,aT,aV,eC,bW,eD,fg,h])
  all_goals clear hI
  all_goals clear hH hA m1 m2 o2' dv pJ lV k1 k2
  all_goals first
   | (rw[if_neg,if_neg];exact⟨rfl,rfl⟩;all_goals first|(simp_all[vH];done)|(simp_all[sX,qN,aS];done)|(simp_all[sX,qN,aS];intros;omega))
   | (rw[if_pos];exact⟨rfl,rfl⟩;all_goals first|(simp_all[vH];done)|(simp_all[sX,qN,aS];done)|(simp_all[sX,qN,aS];intros;omega))
   | (rw[if_neg,if_pos];exact⟨rfl,rfl⟩;all_goals first|(simp_all[vH];done)|(simp_all[sX,qN,aS];done)|(simp_all[sX,qN,aS];intros;omega))
   | (exfalso;simp_all;done)
   | (exfalso;simp_all;omega)
def Kf (s:Int):aJ:=⟨1,s,0,0,⟨0,0,0,0⟩,0,[],[]⟩
def fY (c:bw) (me:Int):cW:=
 if dG c&&aS me 1 20 then(if c.bU=1000000 then .base c else⟨{c with bU:=c.bU+1,phase:=1,goal:=.zero,bj:=[]},[⟨me,0,gy (Kf (c.bU+1))⟩],[],[]⟩) else .zero
theorem Vl (c:bw) (me:Int) (hl:c.bj.length<=maxLen):aY Tryz.prog 228 [] [c.ro,vI me] (fY c me).tt (fY c me).sA:=by
 refine aF Us false Tryz.f228 ?_;conv=>enter[1];reduce
 refine bI Tryz.f228 44 [.cell 4 206] (by kernel_rfl) (by decide +kernel) rfl ?_;unfold fY;cases aI:dG c&&aS me 1 20 with
 | false=>
  rw[if_neg (by simp)];simp -implicitDefEqProofs only[go_sem]
  repeat' first|(refine aq.intro (by first|exact wi c hl|exact dQ _ _ _) ?_;try simp -implicitDefEqProofs only[go_sem,aT,aV])|(refine aE.intro (by first|exact wi c hl|exact dQ _ _ _) ?_;try simp -implicitDefEqProofs only[go_sem,aT,aV])|(refine fv (fun h=>?_) (fun h=>?_)<;>try simp -implicitDefEqProofs only[go_sem,aT,aV,h])|(refine bX (fun h=>?_) (fun h=>?_)<;>try simp -implicitDefEqProofs only[go_sem,aT,aV,h])
  all_goals first
   | exact⟨rfl,rfl⟩
   | (exfalso;simp_all;done)
 | true=>
  rw[if_pos rfl];simp only[Bool.and_eq_true]at aI;obtain⟨o1,o2⟩:=aI;obtain⟨pJ,lV⟩:=rT o1;have hs:0<=c.bU/\c.bU<=1000000:=by
   simp only[dG,Bool.and_eq_true]at o1;exact cr.1 o1.2.2.2.1
  have w1:IntKind.i64.wrap (c.bU+1)=c.bU+1:=aN (by omega);refine au ?_;refine aq.intro (wi c hl) ?_;refine uM o1 ?_;refine aq.intro (dQ _ _ _) ?_;refine uM o2 ?_;refine aE.intro (HN c lV) ?_;by_cases fE:c.bU=1000000
  ·have k:(c.bU==1000000)=true:=by simpa using fE
   rw[if_pos fE];simp -implicitDefEqProofs only[go_sem,k,aT]
   first|exact⟨rfl,rfl⟩
  have k:(c.bU==1000000)=false:=by simpa using fE
  rw[if_neg fE];refine Ew k w1 ?_;refine aq.intro (Dv me 0 (Kf (c.bU+1)) rfl rfl) ?_;simp -implicitDefEqProofs only[go_sem]
  first|rfl|exact⟨rfl,rfl⟩
end
section
set_option maxHeartbeats 4000000
set_option maxRecDepth 10000
set_option linter.unusedSectionVars false
def Ur:cc:=⟨[(122,.cm [false]),(244,.cm [false])],cw,cz,false⟩
structure c9 where
 cl:bw
 az:List ByteArray
 done:cg
def c9.cs (m:c9) (a l:AV):List AV:=m.cl.cs a++(l::m.done.cs)
def c9.ro (m:c9):AV:=.agg (m.cs (.ro 1 (m.cl.bj.map dz)) (.ro 1 (m.az.map cF)))
attribute [go_sem] c9.cs c9.ro
def j0 (a b:aX):Bool:=((a.a:Int)==b.a)&&(((a.b:Int)==b.b)&&(((a.c:Int)==b.c)&&((a.d:Int)==b.d)))
def i6 (m:c9):Bool:=
 dG m.cl&&(eJ m.az&&(decide ((m.az.length:Int)<=m.cl.aP.size)&&(if eu m.done .zero then decide ((m.az.length:Int)<m.cl.aP.size)||m.cl.aP.size==0
  else aS m.done.size 1 m.az.length&&(j0 (fp (m.az.take m.done.size.toNat)).dg m.done.root&&(decide ((m.az.length:Int)<m.cl.aP.size)||eu m.done m.cl.aP)))))
theorem J9 {l:List ByteArray}(h:eJ l=true) (n:Nat):eJ (l.take n)=true:=by
 obtain⟨h1,h2⟩:=gB h;simp only[eJ,Bool.and_eq_true,decide_eq_true_eq,ec,List.all_eq_true,List.length_take];exact⟨by omega,fun b hb=>h2 b (List.mem_of_mem_take hb)⟩
theorem TW (a b:aX):j0 a b=j0 b a:=by
 unfold j0;rw[BEq.comm (a:=(a.a:Int)),BEq.comm (a:=(a.b:Int)),BEq.comm (a:=(a.c:Int)),BEq.comm (a:=(a.d:Int))]
theorem Vp (m:c9) (h1:m.cl.bj.length<=maxLen) (h2:m.az.length<=maxLen):ba Tryz.prog 222 [m.ro] (vB (i6 m)) []:=by
 refine aF Ur false Tryz.f222 ?_;conv=>enter[1];reduce
 refine bu Tryz.f222 70 [.tmp 2] (by kernel_rfl) (by decide +kernel) rfl ?_;unfold i6;refine au ?_;refine aq.intro (wi m.cl h1) ?_;cases a1:dG m.cl with
 | false=>simp -implicitDefEqProofs only[go_sem,Bool.not_false,bb]
 | true=>
  refine wG ?_;refine aq.intro (Aq m.az h2) ?_;cases a2:eJ m.az with
  | false=>simp -implicitDefEqProofs only[go_sem,Bool.not_false,bb]
  | true=>
   by_cases a3:(m.az.length:Int)<=m.cl.aP.size
   ·have uD:¬((m.az.length:Int)>m.cl.aP.size):=by omega
    cases a4:eu m.done .zero with
    | true=>
     have yJ:(m.done.size==0&&(((m.done.root.a:Int)==0)&&(((m.done.root.b:Int)==0)&&(((m.done.root.c:Int)==0)&&((m.done.root.d:Int)==0)))))=true:=a4;refine Ev a3 uD yJ ?_;cases a6:decide ((m.az.length:Int)<m.cl.aP.size)<;>simp -implicitDefEqProofs only[go_sem,a6,Bool.not_true,bb,Bool.true_or,Bool.false_or]
    | false=>
     have yJ:(m.done.size==0&&(((m.done.root.a:Int)==0)&&(((m.done.root.b:Int)==0)&&(((m.done.root.c:Int)==0)&&((m.done.root.d:Int)==0)))))=false:=a4;refine Ev a3 uD yJ ?_;refine aq.intro (dQ _ _ _) ?_;cases a5:aS m.done.size 1 m.az.length with
     | false=>simp -implicitDefEqProofs only[go_sem,Bool.not_true,Bool.not_false,bb]
     | true=>
      have k5:=cr.1 a5;have k6:(0:Int)<=m.done.size/\m.done.size<=(m.az.length:Int):=by omega
      refine N1 k6 ?_;refine aq.intro (HE (m.az.take m.done.size.toNat) (J9 a2 _)) ?_;generalize fp (m.az.take m.done.size.toNat)=R;cases a7:j0 R.dg m.done.root<;>cases a6:decide ((m.az.length:Int)<m.cl.aP.size)<;>cases a9:eu m.done m.cl.aP;all_goals
       have a8:=a7;rw[TW]at a8;unfold j0 BD.dg at a7 a8;unfold eu at a9;simp -implicitDefEqProofs only[go_sem,a7,a8,a6,a9,Bool.not_true,Bool.not_false,bb,Bool.true_or,Bool.false_or,Bool.true_and,Bool.and_true,Bool.and_self]
   have uD:((m.az.length:Int)>m.cl.aP.size):=by omega
   simp -implicitDefEqProofs only[go_sem,Bool.not_true,bb,a3,uD]
theorem Mv (m:c9) (h1:m.cl.bj.length<=maxLen) (h2:m.az.length<=maxLen):ba Tryz.prog 36 [m.ro] (vB (i6 m)) []:=by
 refine aF Ur false Tryz.f36 ?_;conv=>enter[1];reduce
 refine bu Tryz.f36 79 [.tmp 2] (by kernel_rfl) (by decide +kernel) rfl ?_;unfold i6;refine au ?_;refine aq.intro (we m.cl h1) ?_;cases a1:dG m.cl with
 | false=>simp -implicitDefEqProofs only[go_sem,Bool.not_false,bb]
 | true=>
  refine wG ?_;refine aq.intro (tp m.az h2) ?_;cases a2:eJ m.az with
  | false=>simp -implicitDefEqProofs only[go_sem,Bool.not_false,bb]
  | true=>
   by_cases a3:(m.az.length:Int)<=m.cl.aP.size
   ·have uD:¬((m.az.length:Int)>m.cl.aP.size):=by omega
    cases a4:eu m.done .zero with
    | true=>
     have yJ:(m.done.size==0&&(((m.done.root.a:Int)==0)&&(((m.done.root.b:Int)==0)&&(((m.done.root.c:Int)==0)&&((m.done.root.d:Int)==0)))))=true:=a4;refine Ev a3 uD yJ ?_;cases a6:decide ((m.az.length:Int)<m.cl.aP.size)<;>simp -implicitDefEqProofs only[go_sem,a6,Bool.not_true,bb,Bool.true_or,Bool.false_or]
    | false=>
     have yJ:(m.done.size==0&&(((m.done.root.a:Int)==0)&&(((m.done.root.b:Int)==0)&&(((m.done.root.c:Int)==0)&&((m.done.root.d:Int)==0)))))=false:=a4;refine Ev a3 uD yJ ?_;refine aq.intro (fG _ _ _) ?_;cases a5:aS m.done.size 1 m.az.length with
     | false=>simp -implicitDefEqProofs only[go_sem,Bool.not_true,Bool.not_false,bb]
     | true=>
      have k5:=cr.1 a5;have k6:(0:Int)<=m.done.size/\m.done.size<=(m.az.length:Int):=by omega
      refine N1 k6 ?_;refine aq.intro (An (m.az.take m.done.size.toNat) (J9 a2 _)) ?_;generalize fp (m.az.take m.done.size.toNat)=R;cases a7:j0 R.dg m.done.root<;>cases a6:decide ((m.az.length:Int)<m.cl.aP.size)<;>cases a9:eu m.done m.cl.aP;all_goals
       have a8:=a7;rw[TW]at a8;unfold j0 BD.dg at a7 a8;unfold eu at a9;simp -implicitDefEqProofs only[go_sem,a7,a8,a6,a9,Bool.not_true,Bool.not_false,bb,Bool.true_or,Bool.false_or,Bool.true_and,Bool.and_true,Bool.and_self]
   have uD:((m.az.length:Int)>m.cl.aP.size):=by omega
   simp -implicitDefEqProofs only[go_sem,Bool.not_true,bb,a3,uD]
end
section
set_option maxHeartbeats 4000000
set_option maxRecDepth 10000
set_option linter.unusedSectionVars false
def Dn:cc:=⟨[(122,.cm [false]),(123,.cn [false]),(244,.cm [false]),(279,.cn [false])],cw,cz,false⟩
theorem Ap (l:List ByteArray) (hl:l.length<=1000):ba Tryz.prog 179 [.ro 1 (l.map cF)] (.aw 0 0 [] 1 0 l.length) [([],⟨1,l.map cF,2,false⟩)]:=by
 refine aF Dn false Tryz.f179 ?_;conv=>enter[1];reduce
 refine bu Tryz.f179 20 [.tmp 2] (by kernel_rfl) (by decide +kernel) rfl ?_;have pK:l.length<=maxLen:=by unfold maxLen;omega
 refine au ?_;refine dq (fun m s=>∃i:Nat,i<=l.length/\m=l.length - i/\s=⟨20,[(0,.ro 1 (l.map cF)),(3,.aw 3 0 [] 1 0 (l.take i).length),(4,vI i)],[(3,0,one ⟨1,(l.take i).map cF,2,false⟩)],1⟩) l.length ?_ ?_
 ·refine au ?_;exact⟨0,aR _,rfl,rfl⟩
 rintro m s ⟨i,hi,rfl,rfl⟩;rcases bp i l.length with ab|bM
 ·have ah:(i:Int)<(l.length:Int):=by omega
  have hg:l[i]?=some l[i]:=bm ab;have hw:=dx ab pK;have ha:∀x,_:=fun x=>ed (E:=cF) (l:=l.take i) (xs:=[x]) (b:=16) (n:=10000) (by simp;omega) (by omega) (by omega)
  refine dP ah hg hw ha ?_;refine⟨_,by omega,i+1,ab,rfl,?_⟩;rw[Bb ab];simp only[gj,cF];try rfl
 have hi:i=l.length:=by omega
 subst hi;have ah:¬((l.length:Int)<(l.length:Int)):=by omega
 exact uN ah
def c9.DL (m:c9):AV:=.agg (m.cs (.aw 0 0 [] 1 0 m.cl.bj.length) (.aw 1 0 [] 1 0 m.az.length))
def c9.lr (m:c9):Row:=⟨1,m.az.map cF,2,false⟩
def c9.BE (m:c9):ak:=[(0,0,one m.cl.ar),(1,0,one m.lr)]
attribute [go_sem] c9.DL c9.lr c9.BE
theorem HM (m:c9) (h1:m.cl.bj.length<=100) (h2:m.az.length<=1000):aY Tryz.prog 123 [] [m.ro] m.DL m.BE:=by
 refine aF Dn false Tryz.f123 ?_;conv=>enter[1];reduce
 refine bI Tryz.f123 12 [.cell 2 56] (by kernel_rfl) (by decide +kernel) rfl ?_;refine au ?_;refine ep (HN m.cl h1) ?_;refine aq.intro (uB m.az (by omega)) ?_;exact dy
theorem HB (m:c9) (h1:m.cl.bj.length<=100) (h2:m.az.length<=1000):aY Tryz.prog 279 [] [m.ro] m.DL m.BE:=by
 refine aF Dn false Tryz.f279 ?_;conv=>enter[1];reduce
 refine bI Tryz.f279 12 [.cell 2 56] (by kernel_rfl) (by decide +kernel) rfl ?_;refine au ?_;refine ep (Ao m.cl h1) ?_;refine aq.intro (Ap m.az h2) ?_;exact dy
structure gx where
 cS:c9
 bR:List aC
 dN:List ez
 acc:List cg
 kx:List cg
def gx.cs (w:gx) (a l t x p q:AV):List AV:=w.cS.cs a l++[t,x,p,q]
def A3 (m:c9) (t:cW):gx:=⟨{m with cl:=t.cl},t.bR,t.dN,t.acc,[]⟩
def cW.wv (t:cW):AV:=.agg (t.cs (.aw 1000000 0 [] 1 0 t.cl.bj.length) (.aw 1000001 0 [] 3 0 t.bR.length) (.aw 1000002 0 [] 13 0 t.dN.length) (.aw 1000003 0 [] 5 0 t.acc.length))
def cW.wr (t:cW):ak:=[(1000000,0,one t.cl.ar),(1000001,0,one t.lr),(1000002,0,one t.xr),(1000003,0,one t.pr)]
def Iw (m:c9) (t:cW):AV:=.agg (gx.cs (A3 m t) (.aw 1000000 0 [] 1 0 t.cl.bj.length) (.aw 0 0 [] 1 0 m.az.length) (.aw 1000001 0 [] 3 0 t.bR.length) (.aw 1000002 0 [] 13 0 t.dN.length) (.aw 1000003 0 [] 5 0 t.acc.length) (.aw 1 0 [] 5 0 0))
def Ix (m:c9) (t:cW):ak:=t.wr++[(0,0,one m.lr),(1,0,one ⟨5,[],2,false⟩)]
attribute [go_sem] gx.cs A3 cW.wv cW.wr Iw Ix
theorem Vo (m:c9) (t:cW) (h1:m.cl.bj.length<=100) (h2:m.az.length<=1000):aY Tryz.prog 224 t.wr [m.ro,t.wv] (Iw m t) (Ix m t):=by
 refine aF Dn false Tryz.f224 ?_;conv=>enter[1];reduce
 refine bI Tryz.f224 19 [.cell 4 202] (by kernel_rfl) (by decide +kernel) rfl ?_;refine au ?_;refine aE.intro (HM m h1 h2) ?_;exact dy
theorem Vh (m:c9) (t:cW) (h1:m.cl.bj.length<=100) (h2:m.az.length<=1000):aY Tryz.prog 246 t.wr [m.ro,t.wv] (Iw m t) (Ix m t):=by
 refine aF Dn false Tryz.f246 ?_;conv=>enter[1];reduce
 refine bI Tryz.f246 20 [.cell 4 202] (by kernel_rfl) (by decide +kernel) rfl ?_;refine au ?_
 with_reducible refine And.intro ?_ ?_
 all_goals
  refine aE.intro (HB m h1 h2) ?_;exact dy
def gx.av (w:gx):AV:=.agg (w.cs (.aw 0 0 [] 1 0 w.cS.cl.bj.length) (.aw 1 0 [] 1 0 w.cS.az.length) (.aw 2 0 [] 3 0 w.bR.length) (.aw 3 0 [] 13 0 w.dN.length) (.aw 4 0 [] 5 0 w.acc.length) (.aw 5 0 [] 5 0 w.kx.length))
def gx.out (w:gx):ak:=[(0,0,one w.cS.cl.ar),(1,0,one w.cS.lr),(2,0,one ⟨3,w.bR.map aC.cs,2,false⟩),(3,0,one ⟨13,w.dN.map ez.cs,2,false⟩),(4,0,one ⟨5,w.acc.map cg.cs,2,false⟩),(5,0,one ⟨5,w.kx.map cg.cs,2,false⟩)]
def c9.zero:c9:=⟨.zero,[],.zero⟩
def gx.zero:gx:=⟨.zero,[],[],[],[]⟩
def gx.base (m:c9):gx:=⟨m,[],[],[],[]⟩
attribute [go_sem] gx.av gx.out gx.base
def jG (m:c9) (x:List ByteArray):List ByteArray:=m.az++x.take (m.cl.aP.size - m.az.length).toNat
def oT (m:c9) (x:aJ):gx:=
 if x.from_≠m.az.length\/m.cl.aP.size<=m.az.length\/x.az=[] then .base m
 else if ((jG m x.az).length:Int)<m.cl.aP.size then⟨{m with az:=jG m x.az},[],[],[],[]⟩
 else if j0 (fp (jG m x.az)).dg m.cl.aP.root then⟨{m with az:=jG m x.az,done:=m.cl.aP},[],[],[],[m.cl.aP]⟩
 else⟨{m with az:=(jG m x.az).take m.done.size.toNat},[],[⟨3,0,m.cl.aP,⟨(jG m x.az).length,(fp (jG m x.az)).dg⟩,0⟩],[],[]⟩
theorem Fc (m:c9) (x:List ByteArray):(jG m x).length=m.az.length+min (m.cl.aP.size - m.az.length).toNat x.length:=by simp[jG]
structure D8 (m:c9):Prop where
 a:m.cl.bj.length<=100
 l:eJ m.az=true
 p:0<=m.cl.aP.size/\m.cl.aP.size<=256
 d:0<=m.done.size/\m.done.size<=m.az.length
theorem Jm {m:c9}{x:List ByteArray}(h:D8 m) (hx:ec x=true):eJ (jG m x)=true:=by
 obtain⟨h1,h2⟩:=gB h.l;have hp:=h.p;simp only[eJ,Bool.and_eq_true,decide_eq_true_eq,ec,List.all_eq_true]at hx ⊢;refine⟨by rw[Fc];omega,fun b hb=>?_⟩;rcases List.mem_append.1 hb with hb|hb
 ·exact h2 b hb
 exact hx b (List.mem_of_mem_take hb)
end
section
set_option maxHeartbeats 4000000
set_option maxRecDepth 10000
set_option linter.unusedSectionVars false
def afb:cc:=⟨[(123,.cn [false])],cw,cz,false⟩
theorem aag (m:c9) (x:List ByteArray) (h:0<=m.cl.aP.size - m.az.length):m.az++x.take (min (m.cl.aP.size - m.az.length) x.length).toNat=jG m x:=by
 unfold jG;rcases Int.le_total (m.cl.aP.size - m.az.length) x.length with h1|h1
 ·rw[Int.min_eq_left h1]
 rw[Int.min_eq_right h1,List.take_of_length_le (by simp),List.take_of_length_le (by omega)]
theorem ags (m:c9) (x:aJ) (h:D8 m) (hx:ec x.az=true) (hxl:x.az.length<=1000):aY Tryz.prog 223 [] [m.ro,x.ro] (oT m x).av (oT m x).out:=by
 refine aF afb false Tryz.f223 ?_;conv=>enter[1];reduce
 refine bI Tryz.f223 90 [.cell 4 202] (by kernel_rfl) (by decide +kernel) rfl ?_;have hp:=h.p;have hd:=h.d;obtain⟨kI,mo⟩:=gB h.l;have hA:=Jm h hx;have Td:=Fc m x.az;have KT:=HM m h.a (by omega);have my:=uB m.az (by omega);have mY:=uB (jG m x.az) (by omega);have pH:=HE (jG m x.az) hA;have w1:IntKind.i64.wrap (m.cl.aP.size - (m.az.length:Int))=m.cl.aP.size - (m.az.length:Int):=aN (by omega);unfold oT;refine au ?_;refine aE.intro KT ?_;by_cases a:x.from_=m.az.length
 ·have a':(x.from_ != (m.az.length:Int))=false:=by rw[bne_eq_false_iff_eq];exact a
  by_cases b:m.cl.aP.size<=m.az.length
  ·have b':m.cl.aP.size - (m.az.length:Int)<=0:=by omega
   rw[if_pos (.inr (.inl b))];simp -implicitDefEqProofs only[go_sem,w1,a',b',bb]
  have b':¬(m.cl.aP.size - (m.az.length:Int)<=0):=by omega
  cases c:x.az with
  | nil=>
   rw[if_pos (.inr (.inr rfl))];simp -implicitDefEqProofs only[go_sem,w1,a',b',c,z0,beq_self_eq_true,bb]
  | cons y ys=>
   have c0:x.az≠[]:=by rw[c];simp
   have c':((x.az.length:Int)==0)=false:=by rw[c];simp;omega
   rw[<-c];clear c;rw[if_neg (by simp only[not_or];exact⟨fun e=>e a,b,c0⟩)];have pJ:=aag m x.az (by omega);have k1:(0:Int)<=min (m.cl.aP.size - (m.az.length:Int)) (x.az.length:Int)/\min (m.cl.aP.size - (m.az.length:Int)) (x.az.length:Int)<=(x.az.length:Int):=by omega
   simp -implicitDefEqProofs only[go_sem,w1,a',b',c',k1,Nat.sub_zero,List.drop_zero,Int.toNat_zero,bb];refine aq.intro my ?_;have ha:(jG m x.az).length<=maxLen/\(jG m x.az).length * 16<=140737488355328:=by unfold maxLen;omega
   simp -implicitDefEqProofs only[go_sem,w1,k1,ha,<-List.map_append,pJ];clear pJ k1 c' c0;have hAm:=(gB hA).1;generalize jG m x.az=A at *;refine aq.intro mY ?_;have hAp:(A.length:Int)<=m.cl.aP.size:=by omega
   have hAg:m.az.length<=A.length:=by omega
   by_cases d:(A.length:Int)<m.cl.aP.size
   ·rw[if_pos d];exact eE d
   rw[if_neg d];have e0:((A.length:Int)==m.cl.aP.size)=true:=by rw[beq_iff_eq];omega
   refine aA d ?_;refine aq.intro pH ?_;generalize fp A=R at *;cases e:j0 R.dg m.cl.aP.root with
   | true=>
    rw[if_pos rfl];have e':=e;unfold j0 BD.dg at e';simp -implicitDefEqProofs only[go_sem,e0,e',Bool.true_and,Bool.and_self,aT,aV]
   | false=>
    rw[if_neg (by simp)];have e':=e;unfold j0 BD.dg at e';have k6:(0:Int)<=m.done.size/\m.done.size<=(A.length:Int):=by omega
    have Lp:=uB (A.take m.done.size.toNat) (by rw[List.length_take];omega);have CD:∀(y:Option (ak × AV)),od m.done.size.toNat A.length y=y:=fun y=>Gh (by omega)
    simp -implicitDefEqProofs only[go_sem,e0,e',k6,CD,Bool.true_and,Bool.and_self,aT,aV,Nat.sub_zero,List.drop_zero,Int.toNat_zero];refine cT Lp ?_;rfl
 have a':(x.from_ != (m.az.length:Int))=true:=by rw[bne_iff_ne];exact a
 rw[if_pos (.inl a)];exact AW w1 a'
end
section
set_option maxHeartbeats 4000000
set_option maxRecDepth 10000
set_option linter.unusedSectionVars false
def Uq:cc:=⟨[(123,.cn [false]),(165,.cm [false]),(171,.cn [false,false,false]),(223,.cn [false,false]),(224,.cn [false,true]),(228,.cm [false,false])],cw,cz,false⟩
def F0 (a n:Int):aJ:=⟨7,0,a,0,gh,n,[],[]⟩
def jq (m:c9) (me:Int):gx:=
 if i6 m&&aS me 1 20 then(if (m.az.length:Int)<m.cl.aP.size then⟨m,[⟨me,0,gy (F0 m.az.length (min (m.cl.aP.size - m.az.length) 8))⟩],[],[],[]⟩ else A3 m (fY m.cl me)) else .zero
theorem ra {m:c9}(h:i6 m=true):D8 m/\(m.az.length:Int)<=m.cl.aP.size:=by
 simp only[i6,Bool.and_eq_true,decide_eq_true_eq]at h;obtain⟨h1,h2,h3,h4⟩:=h;refine⟨⟨(rT h1).2,h2,(Am h1).z,?_⟩,h3⟩;split at h4
 ·rename_i e;rw[vN.1 e];exact⟨Int.le_refl _,by show(0:Int)<=_;omega⟩
 simp only[Bool.and_eq_true,cr]at h4;omega
theorem agr (m:c9) (me:Int) (h1:m.cl.bj.length<=maxLen) (h2:m.az.length<=maxLen):aY Tryz.prog 227 [] [m.ro,vI me] (jq m me).av (jq m me).out:=by
 refine aF Uq false Tryz.f227 ?_;conv=>enter[1];reduce
 refine bI Tryz.f227 45 [.cell 4 202] (by kernel_rfl) (by decide +kernel) rfl ?_;unfold jq;refine au ?_;refine aq.intro (Vp m h1 h2) ?_;cases a1:i6 m with
 | false=>
  refine Eu a1 ?_;exact⟨rfl,rfl⟩
 | true=>
  obtain⟨hr,gU⟩:=ra a1;have hp:=hr.p;have ha:=hr.a;have nG:=(gB hr.l).1;refine sd a1 ?_;refine aq.intro (dQ _ _ _) ?_;cases a2:aS me 1 20 with
  | false=>
   simp -implicitDefEqProofs only[go_sem,Bool.not_false,aT,aV];exact⟨rfl,rfl⟩
  | true=>
   have w1:IntKind.i64.wrap (m.cl.aP.size - (m.az.length:Int))=m.cl.aP.size - (m.az.length:Int):=aN (by omega);refine Im w1 ?_;by_cases d:(m.az.length:Int)<m.cl.aP.size
   ·have d':m.cl.aP.size - (m.az.length:Int)>0:=by omega
    have ab:=Dv me 0 (F0 m.az.length (min (m.cl.aP.size - m.az.length) 8)) rfl rfl;refine b8 d d' ?_;refine ep (HM m ha (by omega)) ?_;refine aq.intro ab ?_;exact dy
   have d':¬(m.cl.aP.size - (m.az.length:Int)>0):=by omega
   refine b8 d d' ?_;refine aE.intro (Vl m.cl me h1) ?_;generalize hT:fY m.cl me=T;refine au ?_;refine aE.intro (Vo m T ha (by omega)) ?_;exact dy
def jr (m:c9) (me:Int) (l:aC):gx:=
 if i6 m&&(aS me 1 20&&df l) then
  (if ((cf l.text).2.1==0)&&(((cf l.text).1.kind==8)&&(l.from_==0)) then oT m (cf l.text).1 else A3 m (jH m.cl me l)) else .zero
theorem It {s:ByteArray}(h:(cf s).2.1=0):ec (cf s).1.az=true:=(nR.of (wI s h).1).lo
theorem agM (m:c9) (me:Int) (l:aC) (h1:m.cl.bj.length<=maxLen) (h2:m.az.length<=maxLen):aY Tryz.prog 169 [] [m.ro,vI me,.agg l.cs] (jr m me l).av (jr m me l).out:=by
 refine aF Uq false Tryz.f169 ?_;conv=>enter[1];reduce
 refine bI Tryz.f169 55 [.cell 6 202] (by kernel_rfl) (by decide +kernel) rfl ?_;unfold jr;refine au ?_;refine aq.intro (Vp m h1 h2) ?_;cases a1:i6 m with
 | false=>
  refine Eu a1 ?_;exact⟨rfl,rfl⟩
 | true=>
  obtain⟨hr,gU⟩:=ra a1;have hp:=hr.p;have ha:=hr.a;have nG:=(gB hr.l).1;refine sd a1 ?_;refine aq.intro (wh l) ?_;cases a2:df l with
  | false=>
   simp -implicitDefEqProofs only[go_sem,Bool.not_false,Bool.and_false,bb];exact⟨rfl,rfl⟩
  | true=>
   have dv:l.text.size<=600:=by
    simp only[df,Bool.and_eq_true,decide_eq_true_eq]at a2;omega
   cases a3:aS me 1 20 with
   | false=>
    by_cases n1:me<1
    ·simp -implicitDefEqProofs only[go_sem,n1,Bool.not_true,Bool.and_self,Bool.and_true,bb];exact⟨rfl,rfl⟩
    have n2:me>20:=by
     have:¬(1<=me/\me<=20):=fun h=>by rw[cr.2 h]at a3;cases a3
     omega
    simp -implicitDefEqProofs only[go_sem,n1,n2,Bool.not_true,Bool.and_self,Bool.and_true,bb];exact⟨rfl,rfl⟩
   | true=>
    have k3:=cr.1 a3;have n1:¬(me<1):=by omega
    have n2:¬(me>20):=by omega
    simp -implicitDefEqProofs only[go_sem,n1,n2,Bool.not_true,Bool.and_self,bb];refine aE.intro (DB l.text (by omega)) ?_;have ir:=xv l.text;have Ch:=It (s:=l.text);generalize hW:cf l.text=W at *;obtain⟨x,code,at_⟩:=W;simp only at ir Ch;have LA:=VG m.cl me l h1;cases b1:(code==0)<;>cases b2:(x.kind==8)<;>cases b3:(l.from_==0);all_goals simp -implicitDefEqProofs only[go_sem,b1,b2,b3,Bool.and_true,Bool.and_false,Bool.true_and,Bool.false_and,bb]
    all_goals first
     | (refine aE.intro LA ?_
        generalize jH m.cl me l=T;refine au ?_;refine aE.intro (Vo m T ha (by omega)) ?_;simp -implicitDefEqProofs only[go_sem]
        done)
     | (have o4:code=0:=by simpa using b1
        refine aE.intro (ags m x hr (Ch o4) ir.2) ?_;generalize oT m x=T;refine au ?_
        first|exact True.intro|exact⟨rfl,rfl⟩)
end
structure j7 (m:c9):Prop where
 c:dG m.cl=true
 l:eJ m.az=true
 le:(m.az.length:Int)<=m.cl.aP.size
 z:(eu m.done .zero=true/\((m.az.length:Int)<m.cl.aP.size\/m.cl.aP.size=0))\/(eu m.done .zero=false/\(1<=m.done.size/\m.done.size<=m.az.length)/\j0 (fp (m.az.take m.done.size.toNat)).dg m.done.root=true/\((m.az.length:Int)<m.cl.aP.size\/m.done=m.cl.aP))
theorem j7.of {m:c9}(h:i6 m=true):j7 m:=by
 simp only[i6,Bool.and_eq_true,decide_eq_true_eq]at h;obtain⟨h1,h2,h3,h4⟩:=h;refine⟨h1,h2,h3,?_⟩;cases e:eu m.done .zero with
 | true=>
  rw[e,if_pos rfl,Bool.or_eq_true,decide_eq_true_eq,beq_iff_eq]at h4;exact .inl ⟨rfl,h4⟩
 | false=>
  rw[e,if_neg (by simp),Bool.and_eq_true,Bool.and_eq_true,Bool.or_eq_true,decide_eq_true_eq,vN,cr]at h4;exact .inr ⟨rfl,h4⟩
theorem j7.mk' {m:c9}(h:j7 m):i6 m=true:=by
 simp only[i6,Bool.and_eq_true,decide_eq_true_eq];refine⟨h.c,h.l,h.le,?_⟩;rcases h.z with ⟨e,h4⟩|⟨e,h4⟩
 ·rw[e,if_pos rfl,Bool.or_eq_true,decide_eq_true_eq,beq_iff_eq];exact h4
 rw[e,if_neg (by simp),Bool.and_eq_true,Bool.and_eq_true,Bool.or_eq_true,decide_eq_true_eq,vN,cr];exact h4
theorem aev {a b:aX}:j0 a b=true<->a=b:=by
 obtain⟨x,y,z,u⟩:=a;obtain⟨x',y',z',u'⟩:=b;simp only[j0,Bool.and_eq_true,beq_iff_eq,aX.mk.injEq];omega
structure D9 (m:c9) (t:gx):Prop where
 ok:j7 t.cS
 done:m.done.size<=t.cS.done.size
 aP:m.cl.aP.size<=t.cS.cl.aP.size
 len:m.done.size<=(t.cS.az.length:Int)/\m.done.size<=(m.az.length:Int)
 same:t.cS.az.take m.done.size.toNat=m.az.take m.done.size.toNat
 kx:(t.kx=[]/\t.cS.done=m.done)\/(t.kx=[t.cS.cl.aP]/\t.cS.done=t.cS.cl.aP/\t.cS.cl.aP.size=t.cS.az.length/\(fp t.cS.az).dg=t.cS.cl.aP.root)
theorem j7.d {m:c9}(h:j7 m):0<=m.done.size/\m.done.size<=(m.az.length:Int):=by
 rcases h.z with ⟨e,h4⟩|⟨e,h4,h5⟩
 ·rw[vN.1 e];exact⟨Int.le_refl _,Int.natCast_nonneg _⟩
 omega
theorem abl {m:c9}(h:j7 m):D9 m (.base m):=⟨h,Int.le_refl _,Int.le_refl _,⟨h.d.2,h.d.2⟩,rfl,.inl ⟨rfl,rfl⟩⟩
theorem abj {m:c9}{t:cW}{me:Int}(h:j7 m) (k:Kept m.cl me t):D9 m (A3 m t):=by
 have hp:t.cl.aP=m.cl.aP\/m.cl.aP.size<t.cl.aP.size:=by
  rcases k.acc with ⟨_,e⟩|⟨_,e,l,_⟩
  ·exact .inl e
  right;rw[e];exact l
 have hle:=h.le;refine⟨⟨k.ok,h.l,?_,?_⟩,Int.le_refl _,k.aP,⟨h.d.2,h.d.2⟩,rfl,.inl ⟨rfl,rfl⟩⟩
 ·show(m.az.length:Int)<=t.cl.aP.size
  have:=k.aP;omega
 rcases hp with hp|hp
 ·show(eu m.done .zero=true/\((m.az.length:Int)<t.cl.aP.size\/t.cl.aP.size=0))\/(eu m.done .zero=false/\(1<=m.done.size/\m.done.size<=m.az.length)/\j0 (fp (m.az.take m.done.size.toNat)).dg m.done.root=true/\((m.az.length:Int)<t.cl.aP.size\/m.done=t.cl.aP))
  rw[hp];exact h.z
 have ab:(m.az.length:Int)<t.cl.aP.size:=by omega
 rcases h.z with ⟨e,_⟩|⟨e,h5,h6,_⟩
 ·exact .inl ⟨e,.inl ab⟩
 exact .inr ⟨e,h5,h6,.inl ab⟩
theorem aaf (m:c9) (x:List ByteArray) {n:Nat}(h:n<=m.az.length):(jG m x).take n=m.az.take n:=by
 unfold jG;rw[List.take_append_of_le_length h]
theorem abk {m:c9}{x:aJ}(h:j7 m) (hr:D8 m) (hx:ec x.az=true):D9 m (oT m x):=by
 have hA:=Jm hr hx;have Td:=Fc m x.az;have hle:=h.le;have hd:=h.d;unfold oT;split
 ·exact abl h
 rename_i h1;have h2:¬m.cl.aP.size<=m.az.length:=fun e=>h1 (.inr (.inl e))
 have iu:=aaf m x.az (n:=m.done.size.toNat) (by omega);generalize jG m x.az=A at *;split
 ·rename_i h3;refine⟨⟨h.c,hA,by show(A.length:Int)<=m.cl.aP.size;omega,?_⟩,Int.le_refl _,Int.le_refl _,⟨by show m.done.size<=(A.length:Int);omega,hd.2⟩,iu,.inl ⟨rfl,rfl⟩⟩;rcases h.z with ⟨e,_⟩|⟨e,h5,h6,_⟩
  ·exact .inl ⟨e,.inl h3⟩
  refine .inr ⟨e,⟨h5.1,by show m.done.size<=(A.length:Int);omega⟩,?_,.inl h3⟩;show j0 (fp (A.take m.done.size.toNat)).dg m.done.root=true
  rw[iu];exact h6
 rename_i h3;have GY:(A.length:Int)=m.cl.aP.size:=by omega
 split
 ·rename_i h4;have hpz:eu m.cl.aP .zero=false:=by
   cases e:eu m.cl.aP .zero with
   | false=>rfl
   | true=>
    have e':=congrArg cg.size (vN.1 e);have:(cg.zero).size=0:=rfl;omega
  have Gr:j0 (fp (A.take m.cl.aP.size.toNat)).dg m.cl.aP.root=true:=by
   rw[List.take_of_length_le (by omega)];exact h4
  refine⟨⟨h.c,hA,by show(A.length:Int)<=m.cl.aP.size;omega,.inr ⟨hpz,⟨by show 1<=m.cl.aP.size;omega,by show m.cl.aP.size<=(A.length:Int);omega⟩,Gr,.inr rfl⟩⟩,by show m.done.size<=m.cl.aP.size;omega,Int.le_refl _,⟨by show m.done.size<=(A.length:Int);omega,hd.2⟩,iu,.inr ⟨rfl,rfl,GY.symm,aev.1 h4⟩⟩
 have mo:(A.take m.done.size.toNat).length=m.done.size.toNat:=by rw[List.length_take];omega
 refine⟨⟨h.c,J9 hA _,by show((A.take m.done.size.toNat).length:Int)<=m.cl.aP.size;omega,?_⟩,Int.le_refl _,Int.le_refl _,⟨by show m.done.size<=((A.take m.done.size.toNat).length:Int);omega,hd.2⟩,?_,.inl ⟨rfl,rfl⟩⟩
 ·have ab:((A.take m.done.size.toNat).length:Int)<m.cl.aP.size:=by omega
  rcases h.z with ⟨e,_⟩|⟨e,h5,h6,_⟩
  ·exact .inl ⟨e,.inl ab⟩
  refine .inr ⟨e,⟨h5.1,by show m.done.size<=((A.take m.done.size.toNat).length:Int);omega⟩,?_,.inl ab⟩;show j0 (fp ((A.take m.done.size.toNat).take m.done.size.toNat)).dg m.done.root=true
  rw[List.take_take,Nat.min_self,iu];exact h6
 show(A.take m.done.size.toNat).take m.done.size.toNat=_
 rw[List.take_take,Nat.min_self,iu]
section
set_option maxHeartbeats 4000000
set_option maxRecDepth 10000
set_option linter.unusedSectionVars false
def Up:cc:=⟨[(189,.cn [false,false,false]),(245,.cn [false,false]),(246,.cn [false,true]),(279,.cn [false])],cw,cz,false⟩
def wZ:List AV:=[.sc (.int .i64 0),.sc (.int .i64 0),.sc (.int .i64 0),.sc (.int .i64 0),.sc (.int .i64 0),.sc (.int .u64 0),.sc (.int .u64 0),.sc (.int .u64 0),.sc (.int .u64 0),.aG,.sc (.int .i64 0),.sc (.int .u64 0),.sc (.int .u64 0),.sc (.int .u64 0),.sc (.int .u64 0),.aG,.sc (.int .i64 0),.sc (.int .u64 0),.sc (.int .u64 0),.sc (.int .u64 0),.sc (.int .u64 0),.aG,.aG,.aG,.aG]
attribute [go_sem] wZ
theorem agm (m:c9) (x:aJ) (h:D8 m) (hx:ec x.az=true) (hxl:x.az.length<=1000):aY Tryz.prog 245 [] [m.ro,x.ro] (oT m x).av (oT m x).out:=by
 refine aF Up false Tryz.f245 ?_;conv=>enter[1];reduce
 refine bI Tryz.f245 101 [.cell 4 202] (by kernel_rfl) (by decide +kernel) rfl ?_;have hp:=h.p;have hd:=h.d;obtain⟨kI,mo⟩:=gB h.l;have hA:=Jm h hx;have Td:=Fc m x.az;have KT:=HB m h.a (by omega);have my:=Ap m.az (by omega);have pH:=An (jG m x.az) hA;unfold oT;refine au ?_;refine aE.intro KT ?_;by_cases a:x.from_=m.az.length
 ·have a':(x.from_ != (m.az.length:Int))=false:=by rw[bne_eq_false_iff_eq];exact a
  by_cases b:m.cl.aP.size<=m.az.length
  ·have b':(m.az.length:Int)>=m.cl.aP.size:=by omega
   rw[if_pos (.inr (.inl b))];exact AW a' b'
  have b':¬((m.az.length:Int)>=m.cl.aP.size):=by omega
  cases c:x.az with
  | nil=>
   rw[if_pos (.inr (.inr rfl))];simp -implicitDefEqProofs only[go_sem,a',b',c,z0,beq_self_eq_true,bb]
  | cons y ys=>
   have c0:x.az≠[]:=by rw[c];simp
   have c':((x.az.length:Int)==0)=false:=by rw[c];simp;omega
   rw[<-c];clear c;rw[if_neg (by simp only[not_or];exact⟨fun e=>e a,b,c0⟩)];simp -implicitDefEqProofs only[go_sem,a',b',c',Nat.sub_zero,List.drop_zero,Int.toNat_zero,bb];refine aq.intro my ?_;have zO:∀X:List ByteArray,X=m.az->(.aw 7 0 [] 1 0 X.length:AV)=.aw 7 0 [] 1 0 m.az.length:=fun X e=>by rw[e]
   refine au ?_;refine dq (fun k s=>∃i:Nat,i<=min (m.cl.aP.size - m.az.length).toNat x.az.length/\k=x.az.length - i/\s=⟨101,[(2,.ptr 2 0 [] 21 0 0),(3,.ptr 3 0 [] 11 0 0),(4,.ptr 4 0 [] 25 0 0),(5,.ptr 5 0 [] 25 0 0),(6,.ptr 6 0 [] 5 0 0),(7,.aw 7 0 [] 1 0 (m.az++x.az.take i).length),(8,vI i)],[(2,0,one ⟨21,[m.cs (.ro 1 (m.cl.bj.map dz)) (.ro 1 (m.az.map cF))],0,false⟩),(3,0,one ⟨11,[x.qj],0,false⟩),(4,0,one ⟨25,[wZ],0,false⟩),(5,0,one ⟨25,[m.cs (.aw 10005 0 [] 1 0 m.cl.bj.length) (.aw 20005 0 [] 1 0 m.az.length)++[.aG,.aG,.aG,.aG]],0,false⟩),(10005,0,one ⟨1,m.cl.bj.map dz,2,false⟩),(20005,0,one ⟨1,m.az.map cF,2,false⟩),(6,0,one ⟨5,[m.cl.aP.cs],0,false⟩),(7,0,one ⟨1,(m.az++x.az.take i).map cF,2,false⟩)],1⟩) x.az.length ?_ ?_
   ·refine au ?_;exact⟨0,aR _,rfl,by rw[List.take_zero,List.append_nil];rfl⟩
   rintro k s ⟨i,hi,rfl,rfl⟩;have hiI:i<=x.az.length:=by omega
   have hli:(m.az++x.az.take i).length=m.az.length+i:=by rw[List.length_append,List.length_take];omega
   rcases bp i (min (m.cl.aP.size - m.az.length).toNat x.az.length) with ab|bM
   ·have SG:i<x.az.length:=by omega
    have k1:(i:Int)<(x.az.length:Int):=by omega
    have k2:((m.az++x.az.take i).length:Int)<m.cl.aP.size:=by omega
    have hg:x.az[i]?=some x.az[i]:=bm SG;have hw:IntKind.i64.wrap ((i:Int)+1)=((i+1:Nat):Int):=by rw[aN (by omega)];omega
    have ha:∀z,_:=fun z=>ed (E:=cF) (l:=m.az++x.az.take i) (xs:=[z]) (b:=16) (n:=10000) (by simp only[List.length_append,List.length_take,List.length_cons,List.length_nil];omega) (by omega) (by omega)
    have hs:m.az++x.az.take (i+1)=(m.az++x.az.take i)++[x.az[i]]:=by rw[Bb SG,List.append_assoc]
    have xX:i+1<=min (m.cl.aP.size - m.az.length).toNat x.az.length:=ab;have hms:x.az.length - (i+1)<x.az.length - i:=by omega
    generalize hLe:m.az++x.az.take i=L at *;simp -implicitDefEqProofs only[go_sem,k1,k2,hg,hw,ha,Bool.and_self,bb];refine⟨_,hms,i+1,xX,rfl,?_⟩;rw[hs];simp only[gj,cF];try rfl
   have hik:i=min (m.cl.aP.size - m.az.length).toNat x.az.length:=by omega
   have GY:m.az++x.az.take i=jG m x.az:=by
    unfold jG;rw[hik];congr 1;rw[<-List.take_take,List.take_length]
   have hAm:=(gB hA).1;rw[GY]at hli;rw[GY];generalize jG m x.az=A at *;have e1:¬((i:Int)<(x.az.length:Int)/\(A.length:Int)<m.cl.aP.size):=by omega
   have hAg:m.az.length<=A.length:=by omega
   by_cases d:(A.length:Int)<m.cl.aP.size
   ·have e2:¬((i:Int)<(x.az.length:Int)):=fun h=>e1 ⟨h,d⟩
    rw[if_pos d];exact AW e2 d
   rw[if_neg d];rcases bp i x.az.length with e3|e3
   case' inl=>have e2:(i:Int)<(x.az.length:Int):=by omega
   case' inr=>have e2:¬((i:Int)<(x.az.length:Int)):=by omega
   all_goals
    refine gI d e2 ?_;refine aq.intro pH ?_;generalize fp A=R at *;cases e:j0 R.dg m.cl.aP.root with
    | true=>
     rw[if_pos rfl];have e':=e;unfold j0 BD.dg at e';simp -implicitDefEqProofs only[go_sem,e',Bool.true_and,Bool.and_self,aT,aV]
    | false=>
     rw[if_neg (by simp)];have e':=e;unfold j0 BD.dg at e';have k6:(0:Int)<=m.done.size/\m.done.size<=(A.length:Int):=by omega
     have Lp:=Ap (A.take m.done.size.toNat) (by rw[List.length_take];omega);have CD:∀(y:Option (ak × AV)),od m.done.size.toNat A.length y=y:=fun y=>Gh (by omega)
     simp -implicitDefEqProofs only[go_sem,e',k6,CD,Bool.true_and,Bool.and_self,aT,aV,Nat.sub_zero,List.drop_zero,Int.toNat_zero];refine cT Lp ?_;rfl
 have a':(x.from_ != (m.az.length:Int))=true:=by rw[bne_iff_ne];exact a
 rw[if_pos (.inl a)];exact AU a'
theorem agF (m:c9) (me:Int) (l:aC) (h1:m.cl.bj.length<=maxLen) (h2:m.az.length<=maxLen):aY Tryz.prog 191 [] [m.ro,vI me,.agg l.cs] (jr m me l).av (jr m me l).out:=by
 refine aF Up false Tryz.f191 ?_;conv=>enter[1];reduce
 refine bI Tryz.f191 52 [.cell 6 202] (by kernel_rfl) (by decide +kernel) rfl ?_;unfold jr;refine au ?_;refine aq.intro (Mv m h1 h2) ?_;cases a1:i6 m with
 | false=>
  refine Eu a1 ?_;exact⟨rfl,rfl⟩
 | true=>
  obtain⟨hr,gU⟩:=ra a1;have hp:=hr.p;have ha:=hr.a;have nG:=(gB hr.l).1;refine sd a1 ?_;refine aq.intro (wg me) ?_;cases a3:aS me 1 20 with
  | false=>
   simp -implicitDefEqProofs only[go_sem,Bool.not_false,Bool.and_false,Bool.false_and,bb];exact⟨rfl,rfl⟩
  | true=>
   refine wG ?_;refine aq.intro (wc l) ?_;cases a2:df l with
   | false=>
    simp -implicitDefEqProofs only[go_sem,Bool.not_false,Bool.and_false,Bool.false_and,bb];exact⟨rfl,rfl⟩
   | true=>
    have dv:l.text.size<=600:=by
     simp only[df,Bool.and_eq_true,decide_eq_true_eq]at a2;omega
    simp -implicitDefEqProofs only[go_sem,Bool.not_true,Bool.and_self,bb];refine aq.intro (Dw l.text (by omega)) ?_;have ir:=xv l.text;have Ch:=It (s:=l.text);generalize hW:cf l.text=W at *;obtain⟨x,code,at_⟩:=W;simp only at ir Ch;have LA:=VA m.cl me l h1;cases b1:(code==0)<;>cases b2:(x.kind==8)<;>cases b3:(l.from_==0);all_goals simp -implicitDefEqProofs only[go_sem,b1,b2,b3,Bool.and_true,Bool.and_false,Bool.true_and,Bool.false_and,bb]
    all_goals first
     | (refine aE.intro LA ?_
        generalize jH m.cl me l=T;refine au ?_;refine aE.intro (Vh m T ha (by omega)) ?_;simp -implicitDefEqProofs only[go_sem]
        done)
     | (have o4:code=0:=by simpa using b1
        refine aE.intro (agm m x hr (Ch o4) ir.2) ?_;generalize oT m x=T;refine au ?_
        first|exact True.intro|exact⟨rfl,rfl⟩)
end
section
set_option maxHeartbeats 4000000
set_option maxRecDepth 10000
set_option linter.unusedSectionVars false
def Ai:cc:=⟨[],cw,cz,false⟩
def vf (l:List ByteArray) (t:ByteArray):List ByteArray:=if (l.length:Int)>=256\/(t.size:Int)>40 then l else l++[t]
theorem ag8 (l:List ByteArray) (t:ByteArray) (h:eJ l=true):∃b,aY Tryz.prog 108 [] [.agg [.ro 1 (l.map cF)],vS t] (.aZ [.agg [.ro 1 ((vf l t).map cF)],vB b]) []:=by
 have hn:=(gB h).1;have hl:l.length<=maxLen:=by unfold maxLen;omega
 have ui:=uB l (by omega);have ha:∀x,(l.map cF++[x]).length<=maxLen/\(l.map cF++[x]).length * 16<=140737488355328:=fun x=>ed (E:=cF) (l:=l) (xs:=[x]) (b:=16) (n:=1001) (by simp;omega) (by omega) (by omega)
 have e1:(l++[t]).length=l.length+1:=by simp
 have e2:(l++[t]).length=(l.map cF++[cF t]).length:=by simp
 have ff:=uB (l++[t]) (by rw[e1];omega);rw[e2]at ff;simp only[List.map_append,List.map_cons,List.map_nil]at ff;unfold vf;by_cases h1:(l.length:Int)>=256
 ·rw[if_pos (.inl h1)];refine⟨false,?_⟩;refine aF Ai false Tryz.f108 ?_;conv=>enter[1];reduce
  refine bI Tryz.f108 32 [.cell 4 49,.tmp 5] (by kernel_rfl) (by decide +kernel) rfl ?_;refine au ?_;refine aq.intro (Aq l hl) ?_;rw[h];refine aA h1 ?_;refine aq.intro ui ?_;exact eE h1
 by_cases h2:(t.size:Int)>40
 ·rw[if_pos (.inr h2)];refine⟨false,?_⟩;refine aF Ai false Tryz.f108 ?_;conv=>enter[1];reduce
  refine bI Tryz.f108 32 [.cell 4 49,.tmp 5] (by kernel_rfl) (by decide +kernel) rfl ?_;refine au ?_;refine aq.intro (Aq l hl) ?_;rw[h];refine b8 h1 h2 ?_;refine aq.intro ui ?_;exact dp h1 h2
 rw[if_neg (by omega)];refine⟨true,?_⟩;refine aF Ai false Tryz.f108 ?_;conv=>enter[1];reduce
 refine bI Tryz.f108 32 [.cell 4 49,.tmp 5] (by kernel_rfl) (by decide +kernel) rfl ?_;refine au ?_;refine aq.intro (Aq l hl) ?_;rw[h];refine b8 h1 h2 ?_;refine aq.intro ui ?_;refine eV h1 h2 ha ?_;refine aq.intro ff ?_;simp -implicitDefEqProofs only[go_sem,List.map_append,List.map_cons,List.map_nil]
theorem agY (l:List ByteArray) (t:ByteArray) (h:eJ l=true):∃b,aY Tryz.prog 130 [] [.agg [.ro 1 (l.map cF)],vS t] (.aZ [.agg [.ro 1 ((vf l t).map cF)],vB b]) []:=by
 have hn:=(gB h).1;have hl:l.length<=maxLen:=by unfold maxLen;omega
 have ui:=Ap l (by omega);have ha:∀x,(l.map cF++[x]).length<=maxLen/\(l.map cF++[x]).length * 16<=140737488355328:=fun x=>ed (E:=cF) (l:=l) (xs:=[x]) (b:=16) (n:=1001) (by simp;omega) (by omega) (by omega)
 have e1:(l++[t]).length=l.length+1:=by simp
 have e2:(l++[t]).length=(l.map cF++[cF t]).length:=by simp
 have ff:=Ap (l++[t]) (by rw[e1];omega);rw[e2]at ff;simp only[List.map_append,List.map_cons,List.map_nil]at ff;unfold vf;by_cases h1:(l.length:Int)>=256
 ·rw[if_pos (.inl h1)];refine⟨false,?_⟩;refine aF Ai false Tryz.f130 ?_;conv=>enter[1];reduce
  refine bI Tryz.f130 30 [.cell 4 49,.tmp 5] (by kernel_rfl) (by decide +kernel) rfl ?_;refine au ?_;refine aq.intro (tp l hl) ?_;rw[h];refine aA h1 ?_;refine aq.intro ui ?_;exact eE h1
 by_cases h2:(t.size:Int)>40
 ·rw[if_pos (.inr h2)];refine⟨false,?_⟩;refine aF Ai false Tryz.f130 ?_;conv=>enter[1];reduce
  refine bI Tryz.f130 30 [.cell 4 49,.tmp 5] (by kernel_rfl) (by decide +kernel) rfl ?_;refine au ?_;refine aq.intro (tp l hl) ?_;rw[h];refine b8 h1 h2 ?_;refine aq.intro ui ?_;exact dp h1 h2
 rw[if_neg (by omega)];refine⟨true,?_⟩;refine aF Ai false Tryz.f130 ?_;conv=>enter[1];reduce
 refine bI Tryz.f130 30 [.cell 4 49,.tmp 5] (by kernel_rfl) (by decide +kernel) rfl ?_;refine au ?_;refine aq.intro (tp l hl) ?_;rw[h];refine b8 h1 h2 ?_;refine aq.intro ui ?_;refine eV h1 h2 ha ?_
 skip
 simp -implicitDefEqProofs only[go_sem,List.map_append,List.map_cons,List.map_nil]
end
end Go.Proofs.YtobpfkgabdeefaaGreat.E
