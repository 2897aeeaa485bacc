/- Contracts: what comes of a letter to a client, in the program; Contracts: what comes of a letter to a client, in the program, whole; Contracts: monitors that are ok; their copies; Contracts: monitors copied; what comes of what their clients are told; Contracts: a monitor hears a range; Contracts: a monitor's tick, and what it hears, in the program; A monitor keeps what it has: the plain law; Contr -/
import Derived.Test.YtobpfkgabdeefaaGreatP18
import Derived.Test.YtobpfkgabdeefaaGreatP19
import Derived.Test.YtobpfkgabdeefaaGreatP16
namespace Go.Proofs.YtobpfkgabdeefaaGreat.E
open Go Go.RowKit
set_option linter.unusedSimpArgs false
set_option linter.unusedVariables false
section
set_option maxHeartbeats 4000000
set_option maxRecDepth 10000
set_option linter.unusedSectionVars false
def Hl:bX:=⟨[],[9,10,11],[24,26,30,44,47,50,51,52,57,58,59,62,76,88,138,185,186,187,253,254,297,311],false⟩
theorem acr (l:List Int):fp 1 (l.map dv)=true:=by
 induction l with
 | nil=>rfl
 | cons a l ih=>simp only[List.map_cons,fp,ih,dv];rfl
theorem acs (l:List Int):dx (l.map dv)=2:=by
 induction l with
 | nil=>rfl
 | cons a l ih=>simp only[List.map_cons,dx,ih,dv];rfl
attribute [go_sem] acr acs
theorem Nb (l:List Int) (hl:l.length * 8≤140737488355328):aR Tryz.prog 178 [.ro 1 (l.map dv)] (.au 0 0 [] 1 0 l.length) [([],⟨1,l.map dv,2,false⟩)]:=by
 refine aA Hl false Tryz.f178 ?_;conv=>enter[1];reduce
 refine bf Tryz.f178 14 [.tmp 2] (by kernel_rfl) (by decide +kernel) rfl ?_;refine aw ?_;refine b8 (fun h=>?_) (fun h=>?_)
 ·have:l=[]:=by simpa using h
  subst this;exact dt
 have hm:=mm hl (by omega);have hJ:((8:Nat):Int) * (l.length:Int)≤281474976710656∧(l.length:Int)≤9223372036854775807:=by unfold maxLen at hm;omega
 exact rN h hJ
theorem HO (c:bu) (hl:c.bt.length≤100):bb Tryz.prog 122 [] [c.ro] (c.av []) [(0,0,one c.ar)]:=by
 refine aA Hl false Tryz.f122 ?_;conv=>enter[1];reduce
 refine bT Tryz.f122 10 [.cell 2 54] (by kernel_rfl) (by decide +kernel) rfl ?_;refine aw ?_;refine aq.intro (Nb c.bt (by omega)) ?_;exact dt
def bu.IY (c:bu):AV:=.agg (cU.cs ⟨c,[],[],[]⟩ (.au 1000000 0 [] 1 0 c.bt.length) .aG .aG .aG)
def cU.Wj (t:cU):AV:=.agg (t.cs (.au 1000000 0 [] 1 0 t.cl.bt.length) (.au 0 0 [] 3 0 t.bM.length) (.au 1 0 [] 13 0 t.dI.length) (.au 2 0 [] 5 0 t.acc.length))
def cU.Qv (t:cU):aj:=[(1000000,0,one t.cl.ar),(0,0,one t.lr),(1,0,one t.xr),(2,0,one t.pr)]
attribute [go_sem] bu.IY cU.Wj cU.Qv
theorem Vn (c:bu) (me:Int) (p:bh) (hm:c.many≤100):bb Tryz.prog 225 [(1000000,0,one c.ar)] [c.IY,vI me,.agg p.cs] (qc c me p).Wj (qc c me p).Qv:=by
 refine aA Hl false Tryz.f225 ?_;conv=>enter[1];reduce
 refine bT Tryz.f225 82 [.cell 6 206] (by kernel_rfl) (by decide +kernel) rfl ?_;refine aw ?_;unfold qc;by_cases a:p.size=0
 ·have a':(p.size==0)=true:=by simpa using a
  rw[if_pos (.inl a)];simp -implicitDefEqProofs only[go_sem,a',eo,aZ,cU.base]
 have a':(p.size==0)=false:=by simpa using a
 by_cases b:p.size<c.aP.size
 ·rw[if_pos (.inr (.inl b))];simp -implicitDefEqProofs only[go_sem,a',b,bU,eo,aZ,cU.base]
 cases e:qz p c.aP with
 | true=>
  rw[if_pos (.inr (.inr rfl))];have e':(p.size==c.aP.size&&(((p.root.a:Int)==c.aP.root.a)&&(((p.root.b:Int)==c.aP.root.b)&&(((p.root.c:Int)==c.aP.root.c)&&((p.root.d:Int)==c.aP.root.d)))))=true:=e;simp -implicitDefEqProofs only[go_sem,a',b,e',bU,aZ,cU.base]
 | false=>
  rw[if_neg (by simp only[not_or];exact⟨a,b,by simp⟩)];have e':(p.size==c.aP.size&&(((p.root.a:Int)==c.aP.root.a)&&(((p.root.b:Int)==c.aP.root.b)&&(((p.root.c:Int)==c.aP.root.c)&&((p.root.d:Int)==c.aP.root.d)))))=false:=e;by_cases d:p.size=c.aP.size
  ·have d':(p.size==c.aP.size)=true:=by simpa using d
   rw[if_pos d];simp only[d',Bool.true_and]at e';simp -implicitDefEqProofs only[go_sem,a',b,e',d',bU,aZ,aY];try rfl
  have d':(p.size==c.aP.size)=false:=by simpa using d
  rw[if_neg d];simp -implicitDefEqProofs only[go_sem,a',b,e',d',bU,aZ,aY];generalize hF:(fun i:Nat=>aB.mk me ((i:Int)+1) (i6 (zE c p)))=F;have hv:=fun i:Nat=>Dz me ((i:Int)+1) (zE c p) rfl rfl
  refine jX [(16003,3)] (fun x s=>∃i:Nat,i≤c.many.toNat∧x=c.many.toNat - i∧s=⟨82,[(1,vI me),(3,.ptr 3 0 [] 18 0 0),(5,.ptr 5 0 [] 5 0 0),(6,.ptr 6 0 [] 18 0 0),(7,.ptr 3 0 [] 18 0 0),(8,vI ((i:Int)+1))],[(1000000,0,one c.ar),(3,0,one ⟨18,[cU.cs ⟨{c with phase:=2,goal:=p},[],[],[]⟩ (.au 1000000 0 [] 1 0 c.bt.length) (.au 10003 0 [] 3 0 ((List.range i).map F).length) .aG .aG],0,false⟩),(10003,0,one ⟨3,((List.range i).map F).map aB.cs,2,false⟩),(5,0,one ⟨5,[p.cs],0,false⟩),(6,0,one ⟨18,[Ef],0,false⟩)],1⟩) c.many.toNat ?_ ?_
  ·refine aw ?_;exact⟨0,aQ _,rfl,rfl⟩
  rintro x s ⟨i,hi,rfl,rfl⟩;rcases bm i c.many.toNat with ab|bH
  ·have ae:(i:Int)+1≤c.many:=by omega
   have w1:IntKind.i64.wrap ((i:Int)+1+1)=((i+1:Nat):Int)+1:=by rw[aV (by omega)];omega
   have ha:∀x,_:=fun x=>du (E:=aB.cs) (l:=(List.range i).map F) (xs:=[x]) (b:=32) (n:=1000) (by simp;omega) (by omega) (by omega)
   refine aC ae ?_;refine qG (hv i) ha w1 ?_;refine⟨_,by omega,i+1,ab,rfl,?_⟩;rw[List.range_succ,List.map_append,List.map_cons,List.map_nil,←hF];simp only[gj,aB.cs];try rfl
  have hi:i=c.many.toNat:=by omega
  subst hi;have ae:¬((c.many.toNat:Int)+1≤c.many):=by omega
  simp -implicitDefEqProofs only[go_sem,ae];try rfl
theorem Vm (c:bu) (w:Int) (hl:c.bt.length≤100):bb Tryz.prog 226 [(1000000,0,one c.ar)] [c.IY,vI w] (qe c w).ta (qe c w).rZ:=by
 refine aA Hl false Tryz.f226 ?_;conv=>enter[1];reduce
 refine bT Tryz.f226 81 [.cell 4 206] (by kernel_rfl) (by decide +kernel) rfl ?_;refine aw ?_;have l0:c.bt.length≤maxLen:=by unfold maxLen;omega
 generalize hL:c.bt=l at *;refine jX [(6,1)] (fun m s=>∃(i:Nat) (o:List Int) (put:Bool),i≤l.length∧m=l.length - i∧o.length≤2 * i∧o++iV w (l.drop i) put=qd l w∧s=⟨81,[(1,vI w),(2,.ptr 2 0 [] 18 0 0),(4,.ptr 4 0 [] 18 0 0),(5,.ptr 2 0 [] 18 0 0),(6,.au 6 0 [] 1 0 o.length),(7,vB put),(14,.au 1000000 0 [] 1 0 l.length),(15,vI l.length),(16,vI i)],[(1000000,0,one ⟨1,l.map dv,2,false⟩),(2,0,one ⟨18,[cU.cs ⟨c,[],[],[]⟩ (.au 1000000 0 [] 1 0 l.length) .aG .aG .aG],0,false⟩),(4,0,one ⟨18,[Ef],0,false⟩),(6,0,one ⟨1,o.map dv,2,false⟩)],1⟩) l.length ?_ ?_
 ·refine aw ?_;exact⟨0,[],false,aQ _,rfl,Nat.le_refl _,rfl,rfl⟩
 rintro m s ⟨i,o,put,hi,rfl,ho,hx,rfl⟩;rcases bm i l.length with ab|bH
 ·have ae:(i:Int)<(l.length:Int):=by omega
  have hg:l[i]?=some l[i]:=bz ab;have hw:=df ab l0;rw[WG ab]at hx;have ha:∀x,_:=fun x=>du (E:=dv) (l:=o) (xs:=[x]) (b:=8) (n:=1000) (by simp;omega) (by omega) (by omega)
  have cA:∀x y:List AV,(o.map dv++[x]++[y]).length≤maxLen∧(o.map dv++[x]++[y]).length * 8≤140737488355328:=fun x y=>by unfold maxLen;simp;omega
  cases hd:decide (l[i]≥w)<;>cases he:(l[i] != w)<;>cases put
  all_goals simp only[hd,he,Bool.not_true,Bool.not_false,Bool.and_true,Bool.and_false,Bool.true_and,Bool.false_and,if_true,if_false,Bool.false_eq_true,Bool.or_true,Bool.or_false,List.nil_append]at hx
  all_goals simp -implicitDefEqProofs only[go_sem,ae,hg]
  all_goals repeat' first|(refine ew (fun h=>?_) (fun h=>?_)<;>try simp -implicitDefEqProofs only[go_sem,ae,hg,hd,he,hw,ha,cA,ek,bU,eo,eO,aZ,aY,h])|(refine b8 (fun h=>?_) (fun h=>?_)<;>try simp -implicitDefEqProofs only[go_sem,ae,hg,hd,he,hw,ha,cA,ek,bU,eo,eO,aZ,aY,h])
  all_goals first
   | (rw[hd]at h;cases h;done)
   | (rw[he]at h;cases h;done)
   | (refine⟨_,by omega,i+1,o,true,ab,rfl,?_,?_,?_⟩;all_goals first|omega|(simp;omega)|(rw[←hx];simp;done)|(simp[dv];done))
   | (refine⟨_,by omega,i+1,o,false,ab,rfl,?_,?_,?_⟩;all_goals first|omega|(simp;omega)|(rw[←hx];simp;done)|(simp[dv];done))
   | (refine⟨_,by omega,i+1,o++[l[i]],true,ab,rfl,?_,?_,?_⟩;all_goals first|omega|(simp;omega)|(rw[←hx];simp;done)|(simp[dv];done))
   | (refine⟨_,by omega,i+1,o++[l[i]],false,ab,rfl,?_,?_,?_⟩;all_goals first|omega|(simp;omega)|(rw[←hx];simp;done)|(simp[dv];done))
   | (refine⟨_,by omega,i+1,o++[w],true,ab,rfl,?_,?_,?_⟩;all_goals first|omega|(simp;omega)|(rw[←hx];simp;done)|(simp[dv];done))
   | (refine⟨_,by omega,i+1,o++[w],false,ab,rfl,?_,?_,?_⟩;all_goals first|omega|(simp;omega)|(rw[←hx];simp;done)|(simp[dv];done))
   | (refine⟨_,by omega,i+1,o++[w]++[l[i]],true,ab,rfl,?_,?_,?_⟩;all_goals first|omega|(simp;omega)|(rw[←hx];simp;done)|(simp[dv];done))
   | (refine⟨_,by omega,i+1,o++[w]++[l[i]],false,ab,rfl,?_,?_,?_⟩;all_goals first|omega|(simp;omega)|(rw[←hx];simp;done)|(simp[dv];done))
   | trace_state
 have hi:i=l.length:=by omega
 subst hi;have ae:¬((l.length:Int)<(l.length:Int)):=by omega
 rw[List.drop_length]at hx;have ha:∀x,_:=fun x=>du (E:=dv) (l:=o) (xs:=[x]) (b:=8) (n:=1000) (by simp;omega) (by omega) (by omega)
 have sA:=WD w l false;have fin:∀o:List Int,o=qd l w→o.length≤2 * l.length+1:=fun o h=>by rw[h];exact sA
 obtain⟨o',mF⟩:∃o',o'=qd l w:=⟨_,rfl⟩;unfold qe;rw[hL,←mF];have fA:=fin o' mF;refine aC ae ?_;cases put
 ·have e:o++[w]=o':=by rw[mF,←hx];simp[iV]
  have eM:o.map dv++[[vI w]]=o'.map dv:=by rw[←e];simp[dv]
  have j6:=ha [vI w];rw[eM,List.length_map]at j6;simp -implicitDefEqProofs only[go_sem,eM,j6,aZ];refine cz (Nb o' (by omega)) ?_;refine b8 (fun h=>?_) (fun h=>?_)
  ·have h':=of_decide_eq_true h;rw[if_neg (by omega)];simp -implicitDefEqProofs only[go_sem,h];try rfl
  have h':=of_decide_eq_false h;rw[if_pos (by omega)];simp -implicitDefEqProofs only[go_sem,h];try rfl
 have e:o=o':=by rw[mF,←hx];simp[iV]
 subst e;simp -implicitDefEqProofs only[go_sem,aY];refine cz (Nb o (by omega)) ?_;refine b8 (fun h=>?_) (fun h=>?_)
 ·have h':=of_decide_eq_true h;rw[if_neg (by omega)];simp -implicitDefEqProofs only[go_sem,h];try rfl
 have h':=of_decide_eq_false h;rw[if_pos (by omega)];simp -implicitDefEqProofs only[go_sem,h];try rfl
end
section
set_option maxHeartbeats 4000000
set_option maxRecDepth 10000
set_option linter.unusedSectionVars false
def Uk:bX:=⟨[(122,.cm [false]),(165,.cm [false]),(225,.cm [true,false,false]),(226,.cm [true,false])],[9,10,11],[24,26,30,44,47,50,51,52,57,58,59,62,76,88,138,185,186,187,253,254,297,311],false⟩
theorem aby (c:bu) (me:Int) (p:bh) (hm:c.many≤100):(qc c me p).bM.length * 32≤140737488355328:=by
 unfold qc;split
 ·simp[cU.base]
 split
 ·simp
 simp;omega
theorem abC (c:bu) (w:Int):(qe c w).bM.length * 32≤140737488355328:=by
 unfold qe;split<;>simp
theorem VD (c:bu) (me:Int) (l:aB) (hl:c.bt.length≤maxLen):bb Tryz.prog 171 [] [c.ro,vI me,.agg l.cs] (jo c me l).ta (jo c me l).rZ:=by
 refine aA Uk false Tryz.f171 ?_;conv=>enter[1];reduce
 refine bT Tryz.f171 107 [.cell 6 206] (by kernel_rfl) (by decide +kernel) rfl ?_;unfold jo;cases aF:iQ c me l with
 | false=>
  rw[if_neg (by simp)];simp -implicitDefEqProofs only[go_sem]
  repeat' first|(refine aq.intro (by first|exact vV c hl|exact vT l) ?_;try simp -implicitDefEqProofs only[go_sem,aZ,aY])|(refine aD.intro (by first|exact vV c hl|exact vT l) ?_;try simp -implicitDefEqProofs only[go_sem,aZ,aY])|(refine ew (fun h=>?_) (fun h=>?_)<;>try simp -implicitDefEqProofs only[go_sem,aZ,aY,h])|(refine b8 (fun h=>?_) (fun h=>?_)<;>try simp -implicitDefEqProofs only[go_sem,aZ,aY,h])
  all_goals first
   | exact⟨rfl,rfl⟩
   | (exfalso;simp_all[iQ,aT];done)
   | (exfalso;simp_all[iQ,aT];omega)
   | trace_state
 | true=>
  rw[if_pos rfl];simp only[iQ,Bool.and_eq_true]at aF;obtain⟨o1,o2,o3⟩:=aF;obtain⟨qj,lL⟩:=sX o1;have o2':=cf.1 o2;have m1:¬(me<1):=by omega
  have m2:¬(me>20):=by omega
  have dg:l.text.size≤600:=by
   simp only[c8,Bool.and_eq_true,decide_eq_true_eq]at o3;omega
  have hI:=DF l.text (by omega);generalize bV l.text=W at *;obtain⟨m,code,a⟩:=W;have hH:=aby c me ⟨m.size,m.root⟩ qj;have hA:=abC c l.from_;refine aw ?_;refine aq.intro (vV c hl) ?_;refine uG o1 ?_;refine aq.intro (vT l) ?_;simp -implicitDefEqProofs only[go_sem,o3,m1,m2,bU,aY];refine eP (HO c lL) ?_;refine aD.intro hI ?_;cases k0:(code==0)<;>cases ks:(m.bR==c.bR);all_goals have k1:(code != 0)=!(code==0):=rfl
  all_goals have k2:(m.bR != c.bR)=!(m.bR==c.bR):=rfl
  all_goals simp -implicitDefEqProofs only[go_sem,k1,k2,k0,ks]
  all_goals repeat' first|(refine aq.intro (by first|exact Vn c me ⟨m.size,m.root⟩ qj|exact Vm c l.from_ lL|exact Mz|exact oW _ hH|exact oW _ hA) ?_;try simp -implicitDefEqProofs only[go_sem,k1,k2,k0,ks,aZ,aY,ek,bU,eo,eO])|(refine aD.intro (by first|exact Vn c me ⟨m.size,m.root⟩ qj|exact Vm c l.from_ lL|exact Mz|exact oW _ hH|exact oW _ hA) ?_;try simp -implicitDefEqProofs only[go_sem,k1,k2,k0,ks,aZ,aY,ek,bU,eo,eO])|(refine ew (fun h=>?_) (fun h=>?_)<;>try simp -implicitDefEqProofs only[go_sem,k1,k2,k0,ks,aZ,aY,ek,bU,eo,eO,h])|(refine b8 (fun h=>?_) (fun h=>?_)<;>try simp -implicitDefEqProofs only[go_sem,k1,k2,k0,ks,aZ,aY,ek,bU,eo,eO,h])
  all_goals clear hI
  all_goals clear hH hA m1 m2 o2' dg qj lL k1 k2
  all_goals first
   | (rw[if_neg,if_neg];exact⟨rfl,rfl⟩;all_goals first|(simp_all[vt];done)|(simp_all[sE,qz,aT];done)|(simp_all[sE,qz,aT];intros;omega))
   | (rw[if_pos];exact⟨rfl,rfl⟩;all_goals first|(simp_all[vt];done)|(simp_all[sE,qz,aT];done)|(simp_all[sE,qz,aT];intros;omega))
   | (rw[if_neg,if_pos];exact⟨rfl,rfl⟩;all_goals first|(simp_all[vt];done)|(simp_all[sE,qz,aT];done)|(simp_all[sE,qz,aT];intros;omega))
   | (exfalso;simp_all;done)
   | (exfalso;simp_all;omega)
   | trace_state
def Kl (s:Int):aM:=⟨1,s,0,0,⟨0,0,0,0⟩,0,[],[]⟩
def fP (c:bu) (me:Int):cU:=
 if dC c&&aT me 1 20 then(if c.bR=1000000 then .base c else⟨{c with bR:=c.bR+1,phase:=1,goal:=.zero,bt:=[]},[⟨me,0,i6 (Kl (c.bR+1))⟩],[],[]⟩) else .zero
theorem Vl (c:bu) (me:Int) (hl:c.bt.length≤maxLen):bb Tryz.prog 228 [] [c.ro,vI me] (fP c me).ta (fP c me).rZ:=by
 refine aA Uk false Tryz.f228 ?_;conv=>enter[1];reduce
 refine bT Tryz.f228 44 [.cell 4 206] (by kernel_rfl) (by decide +kernel) rfl ?_;unfold fP;cases aF:dC c&&aT me 1 20 with
 | false=>
  rw[if_neg (by simp)];simp -implicitDefEqProofs only[go_sem]
  repeat' first|(refine aq.intro (by first|exact vV c hl|exact dG _ _ _) ?_;try simp -implicitDefEqProofs only[go_sem,aZ,aY])|(refine aD.intro (by first|exact vV c hl|exact dG _ _ _) ?_;try simp -implicitDefEqProofs only[go_sem,aZ,aY])|(refine ew (fun h=>?_) (fun h=>?_)<;>try simp -implicitDefEqProofs only[go_sem,aZ,aY,h])|(refine b8 (fun h=>?_) (fun h=>?_)<;>try simp -implicitDefEqProofs only[go_sem,aZ,aY,h])
  all_goals first
   | exact⟨rfl,rfl⟩
   | (exfalso;simp_all;done)
   | trace_state
 | true=>
  rw[if_pos rfl];simp only[Bool.and_eq_true]at aF;obtain⟨o1,o2⟩:=aF;obtain⟨qj,lL⟩:=sX o1;have hs:0≤c.bR∧c.bR≤1000000:=by
   simp only[dC,Bool.and_eq_true]at o1;exact cf.1 o1.2.2.2.1
  have w1:IntKind.i64.wrap (c.bR+1)=c.bR+1:=aV (by omega);refine aw ?_;refine aq.intro (vV c hl) ?_;refine uG o1 ?_;refine aq.intro (dG _ _ _) ?_;refine uG o2 ?_;refine aD.intro (HO c lL) ?_;by_cases fm:c.bR=1000000
  ·have k:(c.bR==1000000)=true:=by simpa using fm
   rw[if_pos fm];simp -implicitDefEqProofs only[go_sem,k,aZ]
   first|exact⟨rfl,rfl⟩|trace_state
  have k:(c.bR==1000000)=false:=by simpa using fm
  rw[if_neg fm];refine Eu k w1 ?_;refine aq.intro (Dz me 0 (Kl (c.bR+1)) rfl rfl) ?_;simp -implicitDefEqProofs only[go_sem]
  first|rfl|exact⟨rfl,rfl⟩|trace_state
end
section
set_option maxHeartbeats 4000000
set_option maxRecDepth 10000
set_option linter.unusedSectionVars false
def Uj:bX:=⟨[(122,.cm [false]),(244,.cm [false])],[9,10,11],[24,26,30,44,47,50,51,52,57,58,59,62,76,88,138,185,186,187,253,254,297,311],false⟩
structure cQ where
 cl:bu
 az:List ByteArray
 done:bh
def cQ.cs (m:cQ) (a l:AV):List AV:=m.cl.cs a++(l::m.done.cs)
def cQ.ro (m:cQ):AV:=.agg (m.cs (.ro 1 (m.cl.bt.map dv)) (.ro 1 (m.az.map cY)))
attribute [go_sem] cQ.cs cQ.ro
def jH (a b:aW):Bool:=((a.a:Int)==b.a)&&(((a.b:Int)==b.b)&&(((a.c:Int)==b.c)&&((a.d:Int)==b.d)))
def iM (m:cQ):Bool:=
 dC m.cl&&(eF m.az&&(decide ((m.az.length:Int)≤m.cl.aP.size)&&(if ed m.done .zero then decide ((m.az.length:Int)<m.cl.aP.size)||m.cl.aP.size==0
  else aT m.done.size 1 m.az.length&&(jH (fC (m.az.take m.done.size.toNat)).c9 m.done.root&&(decide ((m.az.length:Int)<m.cl.aP.size)||ed m.done m.cl.aP)))))
theorem Kf {l:List ByteArray}(h:eF l=true) (n:Nat):eF (l.take n)=true:=by
 obtain⟨h1,h2⟩:=gI h;simp only[eF,Bool.and_eq_true,decide_eq_true_eq,dX,List.all_eq_true,List.length_take];exact⟨by omega,fun b hb=>h2 b (List.mem_of_mem_take hb)⟩
theorem TP (a b:aW):jH a b=jH b a:=by
 unfold jH;rw[BEq.comm (a:=(a.a:Int)),BEq.comm (a:=(a.b:Int)),BEq.comm (a:=(a.c:Int)),BEq.comm (a:=(a.d:Int))]
theorem Vp (m:cQ) (h1:m.cl.bt.length≤maxLen) (h2:m.az.length≤maxLen):aR Tryz.prog 222 [m.ro] (vB (iM m)) []:=by
 refine aA Uj false Tryz.f222 ?_;conv=>enter[1];reduce
 refine bf Tryz.f222 70 [.tmp 2] (by kernel_rfl) (by decide +kernel) rfl ?_;unfold iM;refine aw ?_;refine aq.intro (vV m.cl h1) ?_;cases a1:dC m.cl with
 | false=>simp -implicitDefEqProofs only[go_sem,Bool.not_false,bc]
 | true=>
  refine Et ?_;refine aq.intro (Aw m.az h2) ?_;cases a2:eF m.az with
  | false=>simp -implicitDefEqProofs only[go_sem,Bool.not_false,bc]
  | true=>
   by_cases a3:(m.az.length:Int)≤m.cl.aP.size
   ·have uy:¬((m.az.length:Int)>m.cl.aP.size):=by omega
    cases a4:ed m.done .zero with
    | true=>
     have yL:(m.done.size==0&&(((m.done.root.a:Int)==0)&&(((m.done.root.b:Int)==0)&&(((m.done.root.c:Int)==0)&&((m.done.root.d:Int)==0)))))=true:=a4;refine Es a3 uy yL ?_;cases a6:decide ((m.az.length:Int)<m.cl.aP.size)<;>simp -implicitDefEqProofs only[go_sem,a6,Bool.not_true,bc,Bool.true_or,Bool.false_or]
    | false=>
     have yL:(m.done.size==0&&(((m.done.root.a:Int)==0)&&(((m.done.root.b:Int)==0)&&(((m.done.root.c:Int)==0)&&((m.done.root.d:Int)==0)))))=false:=a4;refine Es a3 uy yL ?_;refine aq.intro (dG _ _ _) ?_;cases a5:aT m.done.size 1 m.az.length with
     | false=>simp -implicitDefEqProofs only[go_sem,Bool.not_true,Bool.not_false,bc]
     | true=>
      have k5:=cf.1 a5;have k6:(0:Int)≤m.done.size∧m.done.size≤(m.az.length:Int):=by omega
      refine Og k6 ?_;refine aq.intro (HD (m.az.take m.done.size.toNat) (Kf a2 _)) ?_;generalize fC (m.az.take m.done.size.toNat)=R;cases a7:jH R.c9 m.done.root<;>cases a6:decide ((m.az.length:Int)<m.cl.aP.size)<;>cases a9:ed m.done m.cl.aP;all_goals
       have a8:=a7;rw[TP]at a8;unfold jH BD.c9 at a7 a8;unfold ed at a9;simp -implicitDefEqProofs only[go_sem,a7,a8,a6,a9,Bool.not_true,Bool.not_false,bc,Bool.true_or,Bool.false_or,Bool.true_and,Bool.and_true,Bool.and_self]
   have uy:((m.az.length:Int)>m.cl.aP.size):=by omega
   simp -implicitDefEqProofs only[go_sem,Bool.not_true,bc,a3,uy]
theorem UU (m:cQ) (h1:m.cl.bt.length≤maxLen) (h2:m.az.length≤maxLen):aR Tryz.prog 36 [m.ro] (vB (iM m)) []:=by
 refine aA Uj false Tryz.f36 ?_;conv=>enter[1];reduce
 refine bf Tryz.f36 79 [.tmp 2] (by kernel_rfl) (by decide +kernel) rfl ?_;unfold iM;refine aw ?_;refine aq.intro (yC m.cl h1) ?_;cases a1:dC m.cl with
 | false=>simp -implicitDefEqProofs only[go_sem,Bool.not_false,bc]
 | true=>
  refine Et ?_;refine aq.intro (yD m.az h2) ?_;cases a2:eF m.az with
  | false=>simp -implicitDefEqProofs only[go_sem,Bool.not_false,bc]
  | true=>
   by_cases a3:(m.az.length:Int)≤m.cl.aP.size
   ·have uy:¬((m.az.length:Int)>m.cl.aP.size):=by omega
    cases a4:ed m.done .zero with
    | true=>
     have yL:(m.done.size==0&&(((m.done.root.a:Int)==0)&&(((m.done.root.b:Int)==0)&&(((m.done.root.c:Int)==0)&&((m.done.root.d:Int)==0)))))=true:=a4;refine Es a3 uy yL ?_;cases a6:decide ((m.az.length:Int)<m.cl.aP.size)<;>simp -implicitDefEqProofs only[go_sem,a6,Bool.not_true,bc,Bool.true_or,Bool.false_or]
    | false=>
     have yL:(m.done.size==0&&(((m.done.root.a:Int)==0)&&(((m.done.root.b:Int)==0)&&(((m.done.root.c:Int)==0)&&((m.done.root.d:Int)==0)))))=false:=a4;refine Es a3 uy yL ?_;refine aq.intro (e9 _ _ _) ?_;cases a5:aT m.done.size 1 m.az.length with
     | false=>simp -implicitDefEqProofs only[go_sem,Bool.not_true,Bool.not_false,bc]
     | true=>
      have k5:=cf.1 a5;have k6:(0:Int)≤m.done.size∧m.done.size≤(m.az.length:Int):=by omega
      refine Og k6 ?_;refine aq.intro (Dv (m.az.take m.done.size.toNat) (Kf a2 _)) ?_;generalize fC (m.az.take m.done.size.toNat)=R;cases a7:jH R.c9 m.done.root<;>cases a6:decide ((m.az.length:Int)<m.cl.aP.size)<;>cases a9:ed m.done m.cl.aP;all_goals
       have a8:=a7;rw[TP]at a8;unfold jH BD.c9 at a7 a8;unfold ed at a9;simp -implicitDefEqProofs only[go_sem,a7,a8,a6,a9,Bool.not_true,Bool.not_false,bc,Bool.true_or,Bool.false_or,Bool.true_and,Bool.and_true,Bool.and_self]
   have uy:((m.az.length:Int)>m.cl.aP.size):=by omega
   simp -implicitDefEqProofs only[go_sem,Bool.not_true,bc,a3,uy]
end
section
set_option maxHeartbeats 4000000
set_option maxRecDepth 10000
set_option linter.unusedSectionVars false
def Dp:bX:=⟨[(122,.cm [false]),(123,.cn [false]),(244,.cm [false]),(279,.cn [false])],[9,10,11],[24,26,30,44,47,50,51,52,57,58,59,62,76,88,138,185,186,187,253,254,297,311],false⟩
theorem Av (l:List ByteArray) (hl:l.length≤1000):aR Tryz.prog 179 [.ro 1 (l.map cY)] (.au 0 0 [] 1 0 l.length) [([],⟨1,l.map cY,2,false⟩)]:=by
 refine aA Dp false Tryz.f179 ?_;conv=>enter[1];reduce
 refine bf Tryz.f179 20 [.tmp 2] (by kernel_rfl) (by decide +kernel) rfl ?_;have lI:l.length≤maxLen:=by unfold maxLen;omega
 refine aw ?_;refine cR (fun m s=>∃i:Nat,i≤l.length∧m=l.length - i∧s=⟨20,[(0,.ro 1 (l.map cY)),(3,.au 3 0 [] 1 0 (l.take i).length),(4,vI i)],[(3,0,one ⟨1,(l.take i).map cY,2,false⟩)],1⟩) l.length ?_ ?_
 ·refine aw ?_;exact⟨0,aQ _,rfl,rfl⟩
 rintro m s ⟨i,hi,rfl,rfl⟩;rcases bm i l.length with ab|bH
 ·have ae:(i:Int)<(l.length:Int):=by omega
  have hg:l[i]?=some l[i]:=bz ab;have hw:=df ab lI;have ha:∀x,_:=fun x=>du (E:=cY) (l:=l.take i) (xs:=[x]) (b:=16) (n:=10000) (by simp;omega) (by omega) (by omega)
  refine eI ae hg hw ha ?_;refine⟨_,by omega,i+1,ab,rfl,?_⟩;rw[Bh ab];simp only[gj,cY];try rfl
 have hi:i=l.length:=by omega
 subst hi;have ae:¬((l.length:Int)<(l.length:Int)):=by omega
 exact wo ae
def cQ.DP (m:cQ):AV:=.agg (m.cs (.au 0 0 [] 1 0 m.cl.bt.length) (.au 1 0 [] 1 0 m.az.length))
def cQ.lr (m:cQ):Row:=⟨1,m.az.map cY,2,false⟩
def cQ.BL (m:cQ):aj:=[(0,0,one m.cl.ar),(1,0,one m.lr)]
attribute [go_sem] cQ.DP cQ.lr cQ.BL
theorem HN (m:cQ) (h1:m.cl.bt.length≤100) (h2:m.az.length≤1000):bb Tryz.prog 123 [] [m.ro] m.DP m.BL:=by
 refine aA Dp false Tryz.f123 ?_;conv=>enter[1];reduce
 refine bT Tryz.f123 12 [.cell 2 56] (by kernel_rfl) (by decide +kernel) rfl ?_;refine aw ?_;refine eP (HO m.cl h1) ?_;refine aq.intro (uu m.az (by omega)) ?_;exact dt
theorem HA (m:cQ) (h1:m.cl.bt.length≤100) (h2:m.az.length≤1000):bb Tryz.prog 279 [] [m.ro] m.DP m.BL:=by
 refine aA Dp false Tryz.f279 ?_;conv=>enter[1];reduce
 refine bT Tryz.f279 12 [.cell 2 56] (by kernel_rfl) (by decide +kernel) rfl ?_;refine aw ?_;refine eP (Au m.cl h1) ?_;refine aq.intro (Av m.az h2) ?_;exact dt
structure gl where
 cD:cQ
 bM:List aB
 dI:List ec
 acc:List bh
 j7:List bh
def gl.cs (w:gl) (a l t x p q:AV):List AV:=w.cD.cs a l++[t,x,p,q]
def A8 (m:cQ) (t:cU):gl:=⟨{m with cl:=t.cl},t.bM,t.dI,t.acc,[]⟩
def cU.wv (t:cU):AV:=.agg (t.cs (.au 1000000 0 [] 1 0 t.cl.bt.length) (.au 1000001 0 [] 3 0 t.bM.length) (.au 1000002 0 [] 13 0 t.dI.length) (.au 1000003 0 [] 5 0 t.acc.length))
def cU.wr (t:cU):aj:=[(1000000,0,one t.cl.ar),(1000001,0,one t.lr),(1000002,0,one t.xr),(1000003,0,one t.pr)]
def Iz (m:cQ) (t:cU):AV:=.agg (gl.cs (A8 m t) (.au 1000000 0 [] 1 0 t.cl.bt.length) (.au 0 0 [] 1 0 m.az.length) (.au 1000001 0 [] 3 0 t.bM.length) (.au 1000002 0 [] 13 0 t.dI.length) (.au 1000003 0 [] 5 0 t.acc.length) (.au 1 0 [] 5 0 0))
def IA (m:cQ) (t:cU):aj:=t.wr++[(0,0,one m.lr),(1,0,one ⟨5,[],2,false⟩)]
attribute [go_sem] gl.cs A8 cU.wv cU.wr Iz IA
theorem Vo (m:cQ) (t:cU) (h1:m.cl.bt.length≤100) (h2:m.az.length≤1000):bb Tryz.prog 224 t.wr [m.ro,t.wv] (Iz m t) (IA m t):=by
 refine aA Dp false Tryz.f224 ?_;conv=>enter[1];reduce
 refine bT Tryz.f224 19 [.cell 4 202] (by kernel_rfl) (by decide +kernel) rfl ?_;refine aw ?_;refine aD.intro (HN m h1 h2) ?_;exact dt
theorem Vg (m:cQ) (t:cU) (h1:m.cl.bt.length≤100) (h2:m.az.length≤1000):bb Tryz.prog 246 t.wr [m.ro,t.wv] (Iz m t) (IA m t):=by
 refine aA Dp false Tryz.f246 ?_;conv=>enter[1];reduce
 refine bT Tryz.f246 20 [.cell 4 202] (by kernel_rfl) (by decide +kernel) rfl ?_;refine aw ?_
 with_reducible refine And.intro ?_ ?_
 all_goals
  refine aD.intro (HA m h1 h2) ?_;exact dt
def gl.av (w:gl):AV:=.agg (w.cs (.au 0 0 [] 1 0 w.cD.cl.bt.length) (.au 1 0 [] 1 0 w.cD.az.length) (.au 2 0 [] 3 0 w.bM.length) (.au 3 0 [] 13 0 w.dI.length) (.au 4 0 [] 5 0 w.acc.length) (.au 5 0 [] 5 0 w.j7.length))
def gl.out (w:gl):aj:=[(0,0,one w.cD.cl.ar),(1,0,one w.cD.lr),(2,0,one ⟨3,w.bM.map aB.cs,2,false⟩),(3,0,one ⟨13,w.dI.map ec.cs,2,false⟩),(4,0,one ⟨5,w.acc.map bh.cs,2,false⟩),(5,0,one ⟨5,w.j7.map bh.cs,2,false⟩)]
def cQ.zero:cQ:=⟨.zero,[],.zero⟩
def gl.zero:gl:=⟨.zero,[],[],[],[]⟩
def gl.base (m:cQ):gl:=⟨m,[],[],[],[]⟩
attribute [go_sem] gl.av gl.out gl.base
def jn (m:cQ) (x:List ByteArray):List ByteArray:=m.az++x.take (m.cl.aP.size - m.az.length).toNat
def ow (m:cQ) (x:aM):gl:=
 if x.from_≠m.az.length∨m.cl.aP.size≤m.az.length∨x.az=[] then .base m
 else if ((jn m x.az).length:Int)<m.cl.aP.size then⟨{m with az:=jn m x.az},[],[],[],[]⟩
 else if jH (fC (jn m x.az)).c9 m.cl.aP.root then⟨{m with az:=jn m x.az,done:=m.cl.aP},[],[],[],[m.cl.aP]⟩
 else⟨{m with az:=(jn m x.az).take m.done.size.toNat},[],[⟨3,0,m.cl.aP,⟨(jn m x.az).length,(fC (jn m x.az)).c9⟩,0⟩],[],[]⟩
theorem E9 (m:cQ) (x:List ByteArray):(jn m x).length=m.az.length+min (m.cl.aP.size - m.az.length).toNat x.length:=by simp[jn]
structure Eb (m:cQ):Prop where
 a:m.cl.bt.length≤100
 l:eF m.az=true
 p:0≤m.cl.aP.size∧m.cl.aP.size≤256
 d:0≤m.done.size∧m.done.size≤m.az.length
theorem Jr {m:cQ}{x:List ByteArray}(h:Eb m) (hx:dX x=true):eF (jn m x)=true:=by
 obtain⟨h1,h2⟩:=gI h.l;have hp:=h.p;simp only[eF,Bool.and_eq_true,decide_eq_true_eq,dX,List.all_eq_true]at hx ⊢;refine⟨by rw[E9];omega,fun b hb=>?_⟩;rcases List.mem_append.1 hb with hb|hb
 ·exact h2 b hb
 exact hx b (List.mem_of_mem_take hb)
end
section
set_option maxHeartbeats 4000000
set_option maxRecDepth 10000
set_option linter.unusedSectionVars false
def aeU:bX:=⟨[(123,.cn [false])],[9,10,11],[24,26,30,44,47,50,51,52,57,58,59,62,76,88,138,185,186,187,253,254,297,311],false⟩
theorem Z4 (m:cQ) (x:List ByteArray) (h:0≤m.cl.aP.size - m.az.length):m.az++x.take (min (m.cl.aP.size - m.az.length) x.length).toNat=jn m x:=by
 unfold jn;rcases Int.le_total (m.cl.aP.size - m.az.length) x.length with h1|h1
 ·rw[Int.min_eq_left h1]
 rw[Int.min_eq_right h1,List.take_of_length_le (by simp),List.take_of_length_le (by omega)]
theorem agi (m:cQ) (x:aM) (h:Eb m) (hx:dX x.az=true) (hxl:x.az.length≤1000):bb Tryz.prog 223 [] [m.ro,x.ro] (ow m x).av (ow m x).out:=by
 refine aA aeU false Tryz.f223 ?_;conv=>enter[1];reduce
 refine bT Tryz.f223 90 [.cell 4 202] (by kernel_rfl) (by decide +kernel) rfl ?_;have hp:=h.p;have hd:=h.d;obtain⟨kx,na⟩:=gI h.l;have hA:=Jr h hx;have S9:=E9 m x.az;have K6:=HN m h.a (by omega);have l4:=uu m.az (by omega);have mL:=uu (jn m x.az) (by omega);have pv:=HD (jn m x.az) hA;have w1:IntKind.i64.wrap (m.cl.aP.size - (m.az.length:Int))=m.cl.aP.size - (m.az.length:Int):=aV (by omega);unfold ow;refine aw ?_;refine aD.intro K6 ?_;by_cases a:x.from_=m.az.length
 ·have a':(x.from_ != (m.az.length:Int))=false:=by rw[bne_eq_false_iff_eq];exact a
  by_cases b:m.cl.aP.size≤m.az.length
  ·have b':m.cl.aP.size - (m.az.length:Int)≤0:=by omega
   rw[if_pos (.inr (.inl b))];simp -implicitDefEqProofs only[go_sem,w1,a',b',bc]
  have b':¬(m.cl.aP.size - (m.az.length:Int)≤0):=by omega
  cases c:x.az with
  | nil=>
   rw[if_pos (.inr (.inr rfl))];simp -implicitDefEqProofs only[go_sem,w1,a',b',c,z0,beq_self_eq_true,bc]
  | cons y ys=>
   have c0:x.az≠[]:=by rw[c];simp
   have c':((x.az.length:Int)==0)=false:=by rw[c];simp;omega
   rw[←c];clear c;rw[if_neg (by simp only[not_or];exact⟨fun e=>e a,b,c0⟩)];have qj:=Z4 m x.az (by omega);have k1:(0:Int)≤min (m.cl.aP.size - (m.az.length:Int)) (x.az.length:Int)∧min (m.cl.aP.size - (m.az.length:Int)) (x.az.length:Int)≤(x.az.length:Int):=by omega
   simp -implicitDefEqProofs only[go_sem,w1,a',b',c',k1,Nat.sub_zero,List.drop_zero,Int.toNat_zero,bc];refine aq.intro l4 ?_;have ha:(jn m x.az).length≤maxLen∧(jn m x.az).length * 16≤140737488355328:=by unfold maxLen;omega
   simp -implicitDefEqProofs only[go_sem,w1,k1,ha,←List.map_append,qj];clear qj k1 c' c0;have hAm:=(gI hA).1;generalize jn m x.az=A at *;refine aq.intro mL ?_;have hAp:(A.length:Int)≤m.cl.aP.size:=by omega
   have hAg:m.az.length≤A.length:=by omega
   by_cases d:(A.length:Int)<m.cl.aP.size
   ·rw[if_pos d];exact er d
   rw[if_neg d];have e0:((A.length:Int)==m.cl.aP.size)=true:=by rw[beq_iff_eq];omega
   refine aC d ?_;refine aq.intro pv ?_;generalize fC A=R at *;cases e:jH R.c9 m.cl.aP.root with
   | true=>
    rw[if_pos rfl];have e':=e;unfold jH BD.c9 at e';simp -implicitDefEqProofs only[go_sem,e0,e',Bool.true_and,Bool.and_self,aZ,aY]
   | false=>
    rw[if_neg (by simp)];have e':=e;unfold jH BD.c9 at e';have k6:(0:Int)≤m.done.size∧m.done.size≤(A.length:Int):=by omega
    have Lz:=uu (A.take m.done.size.toNat) (by rw[List.length_take];omega);have t7:∀(y:Option (aj × AV)),kQ m.done.size.toNat A.length y=y:=fun y=>Gg (by omega)
    simp -implicitDefEqProofs only[go_sem,e0,e',k6,t7,Bool.true_and,Bool.and_self,aZ,aY,Nat.sub_zero,List.drop_zero,Int.toNat_zero];refine cz Lz ?_;rfl
 have a':(x.from_ != (m.az.length:Int))=true:=by rw[bne_iff_ne];exact a
 rw[if_pos (.inl a)];exact A1 w1 a'
end
section
set_option maxHeartbeats 4000000
set_option maxRecDepth 10000
set_option linter.unusedSectionVars false
def Ui:bX:=⟨[(123,.cn [false]),(165,.cm [false]),(171,.cn [false,false,false]),(223,.cn [false,false]),(224,.cn [false,true]),(228,.cm [false,false])],[9,10,11],[24,26,30,44,47,50,51,52,57,58,59,62,76,88,138,185,186,187,253,254,297,311],false⟩
def F0 (a n:Int):aM:=⟨7,0,a,0,gr,n,[],[]⟩
def i7 (m:cQ) (me:Int):gl:=
 if iM m&&aT me 1 20 then(if (m.az.length:Int)<m.cl.aP.size then⟨m,[⟨me,0,i6 (F0 m.az.length (min (m.cl.aP.size - m.az.length) 8))⟩],[],[],[]⟩ else A8 m (fP m.cl me)) else .zero
theorem r8 {m:cQ}(h:iM m=true):Eb m∧(m.az.length:Int)≤m.cl.aP.size:=by
 simp only[iM,Bool.and_eq_true,decide_eq_true_eq]at h;obtain⟨h1,h2,h3,h4⟩:=h;refine⟨⟨(sX h1).2,h2,(Ar h1).z,?_⟩,h3⟩;split at h4
 ·rename_i e;rw[vv.1 e];exact⟨Int.le_refl _,by show(0:Int)≤_;omega⟩
 simp only[Bool.and_eq_true,cf]at h4;omega
theorem agh (m:cQ) (me:Int) (h1:m.cl.bt.length≤maxLen) (h2:m.az.length≤maxLen):bb Tryz.prog 227 [] [m.ro,vI me] (i7 m me).av (i7 m me).out:=by
 refine aA Ui false Tryz.f227 ?_;conv=>enter[1];reduce
 refine bT Tryz.f227 45 [.cell 4 202] (by kernel_rfl) (by decide +kernel) rfl ?_;unfold i7;refine aw ?_;refine aq.intro (Vp m h1 h2) ?_;cases a1:iM m with
 | false=>
  refine Er a1 ?_;exact⟨rfl,rfl⟩
 | true=>
  obtain⟨hr,g9⟩:=r8 a1;have hp:=hr.p;have ha:=hr.a;have jZ:=(gI hr.l).1;refine uF a1 ?_;refine aq.intro (dG _ _ _) ?_;cases a2:aT me 1 20 with
  | false=>
   simp -implicitDefEqProofs only[go_sem,Bool.not_false,aZ,aY];exact⟨rfl,rfl⟩
  | true=>
   have w1:IntKind.i64.wrap (m.cl.aP.size - (m.az.length:Int))=m.cl.aP.size - (m.az.length:Int):=aV (by omega);refine Iq w1 ?_;by_cases d:(m.az.length:Int)<m.cl.aP.size
   ·have d':m.cl.aP.size - (m.az.length:Int)>0:=by omega
    have ab:=Dz me 0 (F0 m.az.length (min (m.cl.aP.size - m.az.length) 8)) rfl rfl;refine cg d d' ?_;refine eP (HN m ha (by omega)) ?_;refine aq.intro ab ?_;exact dt
   have d':¬(m.cl.aP.size - (m.az.length:Int)>0):=by omega
   refine cg d d' ?_;refine aD.intro (Vl m.cl me h1) ?_;generalize hT:fP m.cl me=T;refine aw ?_;refine aD.intro (Vo m T ha (by omega)) ?_;exact dt
def i9 (m:cQ) (me:Int) (l:aB):gl:=
 if iM m&&(aT me 1 20&&c8 l) then
  (if ((bV l.text).2.1==0)&&(((bV l.text).1.kind==8)&&(l.from_==0)) then ow m (bV l.text).1 else A8 m (jo m.cl me l)) else .zero
theorem Iw {s:ByteArray}(h:(bV s).2.1=0):dX (bV s).1.az=true:=(nr.of (wq s h).1).lo
theorem agC (m:cQ) (me:Int) (l:aB) (h1:m.cl.bt.length≤maxLen) (h2:m.az.length≤maxLen):bb Tryz.prog 169 [] [m.ro,vI me,.agg l.cs] (i9 m me l).av (i9 m me l).out:=by
 refine aA Ui false Tryz.f169 ?_;conv=>enter[1];reduce
 refine bT Tryz.f169 55 [.cell 6 202] (by kernel_rfl) (by decide +kernel) rfl ?_;unfold i9;refine aw ?_;refine aq.intro (Vp m h1 h2) ?_;cases a1:iM m with
 | false=>
  refine Er a1 ?_;exact⟨rfl,rfl⟩
 | true=>
  obtain⟨hr,g9⟩:=r8 a1;have hp:=hr.p;have ha:=hr.a;have jZ:=(gI hr.l).1;refine uF a1 ?_;refine aq.intro (vT l) ?_;cases a2:c8 l with
  | false=>
   simp -implicitDefEqProofs only[go_sem,Bool.not_false,Bool.and_false,bc];exact⟨rfl,rfl⟩
  | true=>
   have dg:l.text.size≤600:=by
    simp only[c8,Bool.and_eq_true,decide_eq_true_eq]at a2;omega
   cases a3:aT me 1 20 with
   | false=>
    by_cases n1:me<1
    ·simp -implicitDefEqProofs only[go_sem,n1,Bool.not_true,Bool.and_self,Bool.and_true,bc];exact⟨rfl,rfl⟩
    have n2:me>20:=by
     have:¬(1≤me∧me≤20):=fun h=>by rw[cf.2 h]at a3;cases a3
     omega
    simp -implicitDefEqProofs only[go_sem,n1,n2,Bool.not_true,Bool.and_self,Bool.and_true,bc];exact⟨rfl,rfl⟩
   | true=>
    have k3:=cf.1 a3;have n1:¬(me<1):=by omega
    have n2:¬(me>20):=by omega
    simp -implicitDefEqProofs only[go_sem,n1,n2,Bool.not_true,Bool.and_self,bc];refine aD.intro (DF l.text (by omega)) ?_;have gX:=xi l.text;have Cj:=Iw (s:=l.text);generalize hW:bV l.text=W at *;obtain⟨x,code,at_⟩:=W;simp only at gX Cj;have LN:=VD m.cl me l h1;cases b1:(code==0)<;>cases b2:(x.kind==8)<;>cases b3:(l.from_==0);all_goals simp -implicitDefEqProofs only[go_sem,b1,b2,b3,Bool.and_true,Bool.and_false,Bool.true_and,Bool.false_and,bc]
    all_goals first
     | (refine aD.intro LN ?_
        generalize jo m.cl me l=T;refine aw ?_;refine aD.intro (Vo m T ha (by omega)) ?_;simp -implicitDefEqProofs only[go_sem]
        done)
     | (have oJ:code=0:=by simpa using b1
        refine aD.intro (agi m x hr (Cj oJ) gX.2) ?_;generalize ow m x=T;refine aw ?_
        first|exact True.intro|exact⟨rfl,rfl⟩)
     | trace_state
end
structure jK (m:cQ):Prop where
 c:dC m.cl=true
 l:eF m.az=true
 le:(m.az.length:Int)≤m.cl.aP.size
 z:(ed m.done .zero=true∧((m.az.length:Int)<m.cl.aP.size∨m.cl.aP.size=0))∨(ed m.done .zero=false∧(1≤m.done.size∧m.done.size≤m.az.length)∧jH (fC (m.az.take m.done.size.toNat)).c9 m.done.root=true∧((m.az.length:Int)<m.cl.aP.size∨m.done=m.cl.aP))
theorem jK.of {m:cQ}(h:iM m=true):jK m:=by
 simp only[iM,Bool.and_eq_true,decide_eq_true_eq]at h;obtain⟨h1,h2,h3,h4⟩:=h;refine⟨h1,h2,h3,?_⟩;cases e:ed m.done .zero with
 | true=>
  rw[e,if_pos rfl,Bool.or_eq_true,decide_eq_true_eq,beq_iff_eq]at h4;exact .inl ⟨rfl,h4⟩
 | false=>
  rw[e,if_neg (by simp),Bool.and_eq_true,Bool.and_eq_true,Bool.or_eq_true,decide_eq_true_eq,vv,cf]at h4;exact .inr ⟨rfl,h4⟩
theorem jK.mk' {m:cQ}(h:jK m):iM m=true:=by
 simp only[iM,Bool.and_eq_true,decide_eq_true_eq];refine⟨h.c,h.l,h.le,?_⟩;rcases h.z with ⟨e,h4⟩|⟨e,h4⟩
 ·rw[e,if_pos rfl,Bool.or_eq_true,decide_eq_true_eq,beq_iff_eq];exact h4
 rw[e,if_neg (by simp),Bool.and_eq_true,Bool.and_eq_true,Bool.or_eq_true,decide_eq_true_eq,vv,cf];exact h4
theorem aej {a b:aW}:jH a b=true↔a=b:=by
 obtain⟨x,y,z,u⟩:=a;obtain⟨x',y',z',u'⟩:=b;simp only[jH,Bool.and_eq_true,beq_iff_eq,aW.mk.injEq];omega
structure Ec (m:cQ) (t:gl):Prop where
 ok:jK t.cD
 done:m.done.size≤t.cD.done.size
 aP:m.cl.aP.size≤t.cD.cl.aP.size
 len:m.done.size≤(t.cD.az.length:Int)∧m.done.size≤(m.az.length:Int)
 same:t.cD.az.take m.done.size.toNat=m.az.take m.done.size.toNat
 j7:(t.j7=[]∧t.cD.done=m.done)∨(t.j7=[t.cD.cl.aP]∧t.cD.done=t.cD.cl.aP∧t.cD.cl.aP.size=t.cD.az.length∧(fC t.cD.az).c9=t.cD.cl.aP.root)
theorem jK.d {m:cQ}(h:jK m):0≤m.done.size∧m.done.size≤(m.az.length:Int):=by
 rcases h.z with ⟨e,h4⟩|⟨e,h4,h5⟩
 ·rw[vv.1 e];exact⟨Int.le_refl _,Int.natCast_nonneg _⟩
 omega
theorem aa6 {m:cQ}(h:jK m):Ec m (.base m):=⟨h,Int.le_refl _,Int.le_refl _,⟨h.d.2,h.d.2⟩,rfl,.inl ⟨rfl,rfl⟩⟩
theorem aa4 {m:cQ}{t:cU}{me:Int}(h:jK m) (k:Kept m.cl me t):Ec m (A8 m t):=by
 have hp:t.cl.aP=m.cl.aP∨m.cl.aP.size<t.cl.aP.size:=by
  rcases k.acc with ⟨_,e⟩|⟨_,e,l,_⟩
  ·exact .inl e
  right;rw[e];exact l
 have hle:=h.le;refine⟨⟨k.ok,h.l,?_,?_⟩,Int.le_refl _,k.aP,⟨h.d.2,h.d.2⟩,rfl,.inl ⟨rfl,rfl⟩⟩
 ·show(m.az.length:Int)≤t.cl.aP.size
  have:=k.aP;omega
 rcases hp with hp|hp
 ·show(ed m.done .zero=true∧((m.az.length:Int)<t.cl.aP.size∨t.cl.aP.size=0))∨(ed m.done .zero=false∧(1≤m.done.size∧m.done.size≤m.az.length)∧jH (fC (m.az.take m.done.size.toNat)).c9 m.done.root=true∧((m.az.length:Int)<t.cl.aP.size∨m.done=t.cl.aP))
  rw[hp];exact h.z
 have ab:(m.az.length:Int)<t.cl.aP.size:=by omega
 rcases h.z with ⟨e,_⟩|⟨e,h5,h6,_⟩
 ·exact .inl ⟨e,.inl ab⟩
 exact .inr ⟨e,h5,h6,.inl ab⟩
theorem Z3 (m:cQ) (x:List ByteArray) {n:Nat}(h:n≤m.az.length):(jn m x).take n=m.az.take n:=by
 unfold jn;rw[List.take_append_of_le_length h]
theorem aa5 {m:cQ}{x:aM}(h:jK m) (hr:Eb m) (hx:dX x.az=true):Ec m (ow m x):=by
 have hA:=Jr hr hx;have S9:=E9 m x.az;have hle:=h.le;have hd:=h.d;unfold ow;split
 ·exact aa6 h
 rename_i h1;have h2:¬m.cl.aP.size≤m.az.length:=fun e=>h1 (.inr (.inl e))
 have gY:=Z3 m x.az (n:=m.done.size.toNat) (by omega);generalize jn m x.az=A at *;split
 ·rename_i h3;refine⟨⟨h.c,hA,by show(A.length:Int)≤m.cl.aP.size;omega,?_⟩,Int.le_refl _,Int.le_refl _,⟨by show m.done.size≤(A.length:Int);omega,hd.2⟩,gY,.inl ⟨rfl,rfl⟩⟩;rcases h.z with ⟨e,_⟩|⟨e,h5,h6,_⟩
  ·exact .inl ⟨e,.inl h3⟩
  refine .inr ⟨e,⟨h5.1,by show m.done.size≤(A.length:Int);omega⟩,?_,.inl h3⟩;show jH (fC (A.take m.done.size.toNat)).c9 m.done.root=true
  rw[gY];exact h6
 rename_i h3;have GU:(A.length:Int)=m.cl.aP.size:=by omega
 split
 ·rename_i h4;have hpz:ed m.cl.aP .zero=false:=by
   cases e:ed m.cl.aP .zero with
   | false=>rfl
   | true=>
    have e':=congrArg bh.size (vv.1 e);have:(bh.zero).size=0:=rfl;omega
  have Gp:jH (fC (A.take m.cl.aP.size.toNat)).c9 m.cl.aP.root=true:=by
   rw[List.take_of_length_le (by omega)];exact h4
  refine⟨⟨h.c,hA,by show(A.length:Int)≤m.cl.aP.size;omega,.inr ⟨hpz,⟨by show 1≤m.cl.aP.size;omega,by show m.cl.aP.size≤(A.length:Int);omega⟩,Gp,.inr rfl⟩⟩,by show m.done.size≤m.cl.aP.size;omega,Int.le_refl _,⟨by show m.done.size≤(A.length:Int);omega,hd.2⟩,gY,.inr ⟨rfl,rfl,GU.symm,aej.1 h4⟩⟩
 have na:(A.take m.done.size.toNat).length=m.done.size.toNat:=by rw[List.length_take];omega
 refine⟨⟨h.c,Kf hA _,by show((A.take m.done.size.toNat).length:Int)≤m.cl.aP.size;omega,?_⟩,Int.le_refl _,Int.le_refl _,⟨by show m.done.size≤((A.take m.done.size.toNat).length:Int);omega,hd.2⟩,?_,.inl ⟨rfl,rfl⟩⟩
 ·have ab:((A.take m.done.size.toNat).length:Int)<m.cl.aP.size:=by omega
  rcases h.z with ⟨e,_⟩|⟨e,h5,h6,_⟩
  ·exact .inl ⟨e,.inl ab⟩
  refine .inr ⟨e,⟨h5.1,by show m.done.size≤((A.take m.done.size.toNat).length:Int);omega⟩,?_,.inl ab⟩;show jH (fC ((A.take m.done.size.toNat).take m.done.size.toNat)).c9 m.done.root=true
  rw[List.take_take,Nat.min_self,gY];exact h6
 show(A.take m.done.size.toNat).take m.done.size.toNat=_
 rw[List.take_take,Nat.min_self,gY]
section
set_option maxHeartbeats 4000000
set_option maxRecDepth 10000
set_option linter.unusedSectionVars false
def Uh:bX:=⟨[(189,.cn [false,false,false]),(245,.cn [false,false]),(246,.cn [false,true]),(279,.cn [false])],[9,10,11],[24,26,30,44,47,50,51,52,57,58,59,62,76,88,138,185,186,187,253,254,297,311],false⟩
def wZ:List AV:=[.sc (.int .i64 0),.sc (.int .i64 0),.sc (.int .i64 0),.sc (.int .i64 0),.sc (.int .i64 0),.sc (.int .u64 0),.sc (.int .u64 0),.sc (.int .u64 0),.sc (.int .u64 0),.aG,.sc (.int .i64 0),.sc (.int .u64 0),.sc (.int .u64 0),.sc (.int .u64 0),.sc (.int .u64 0),.aG,.sc (.int .i64 0),.sc (.int .u64 0),.sc (.int .u64 0),.sc (.int .u64 0),.sc (.int .u64 0),.aG,.aG,.aG,.aG]
attribute [go_sem] wZ
theorem agb (m:cQ) (x:aM) (h:Eb m) (hx:dX x.az=true) (hxl:x.az.length≤1000):bb Tryz.prog 245 [] [m.ro,x.ro] (ow m x).av (ow m x).out:=by
 refine aA Uh false Tryz.f245 ?_;conv=>enter[1];reduce
 refine bT Tryz.f245 101 [.cell 4 202] (by kernel_rfl) (by decide +kernel) rfl ?_;have hp:=h.p;have hd:=h.d;obtain⟨kx,na⟩:=gI h.l;have hA:=Jr h hx;have S9:=E9 m x.az;have K6:=HA m h.a (by omega);have l4:=Av m.az (by omega);have pv:=Dv (jn m x.az) hA;unfold ow;refine aw ?_;refine aD.intro K6 ?_;by_cases a:x.from_=m.az.length
 ·have a':(x.from_ != (m.az.length:Int))=false:=by rw[bne_eq_false_iff_eq];exact a
  by_cases b:m.cl.aP.size≤m.az.length
  ·have b':(m.az.length:Int)≥m.cl.aP.size:=by omega
   rw[if_pos (.inr (.inl b))];exact A1 a' b'
  have b':¬((m.az.length:Int)≥m.cl.aP.size):=by omega
  cases c:x.az with
  | nil=>
   rw[if_pos (.inr (.inr rfl))];simp -implicitDefEqProofs only[go_sem,a',b',c,z0,beq_self_eq_true,bc]
  | cons y ys=>
   have c0:x.az≠[]:=by rw[c];simp
   have c':((x.az.length:Int)==0)=false:=by rw[c];simp;omega
   rw[←c];clear c;rw[if_neg (by simp only[not_or];exact⟨fun e=>e a,b,c0⟩)];simp -implicitDefEqProofs only[go_sem,a',b',c',Nat.sub_zero,List.drop_zero,Int.toNat_zero,bc];refine aq.intro l4 ?_;have zU:∀X:List ByteArray,X=m.az→(.au 7 0 [] 1 0 X.length:AV)=.au 7 0 [] 1 0 m.az.length:=fun X e=>by rw[e]
   refine aw ?_;refine cR (fun k s=>∃i:Nat,i≤min (m.cl.aP.size - m.az.length).toNat x.az.length∧k=x.az.length - i∧s=⟨101,[(2,.ptr 2 0 [] 21 0 0),(3,.ptr 3 0 [] 11 0 0),(4,.ptr 4 0 [] 25 0 0),(5,.ptr 5 0 [] 25 0 0),(6,.ptr 6 0 [] 5 0 0),(7,.au 7 0 [] 1 0 (m.az++x.az.take i).length),(8,vI i)],[(2,0,one ⟨21,[m.cs (.ro 1 (m.cl.bt.map dv)) (.ro 1 (m.az.map cY))],0,false⟩),(3,0,one ⟨11,[x.pW],0,false⟩),(4,0,one ⟨25,[wZ],0,false⟩),(5,0,one ⟨25,[m.cs (.au 10005 0 [] 1 0 m.cl.bt.length) (.au 20005 0 [] 1 0 m.az.length)++[.aG,.aG,.aG,.aG]],0,false⟩),(10005,0,one ⟨1,m.cl.bt.map dv,2,false⟩),(20005,0,one ⟨1,m.az.map cY,2,false⟩),(6,0,one ⟨5,[m.cl.aP.cs],0,false⟩),(7,0,one ⟨1,(m.az++x.az.take i).map cY,2,false⟩)],1⟩) x.az.length ?_ ?_
   ·refine aw ?_;exact⟨0,aQ _,rfl,by rw[List.take_zero,List.append_nil];rfl⟩
   rintro k s ⟨i,hi,rfl,rfl⟩;have hiI:i≤x.az.length:=by omega
   have hli:(m.az++x.az.take i).length=m.az.length+i:=by rw[List.length_append,List.length_take];omega
   rcases bm i (min (m.cl.aP.size - m.az.length).toNat x.az.length) with ab|bH
   ·have SD:i<x.az.length:=by omega
    have k1:(i:Int)<(x.az.length:Int):=by omega
    have k2:((m.az++x.az.take i).length:Int)<m.cl.aP.size:=by omega
    have hg:x.az[i]?=some x.az[i]:=bz SD;have hw:IntKind.i64.wrap ((i:Int)+1)=((i+1:Nat):Int):=by rw[aV (by omega)];omega
    have ha:∀z,_:=fun z=>du (E:=cY) (l:=m.az++x.az.take i) (xs:=[z]) (b:=16) (n:=10000) (by simp only[List.length_append,List.length_take,List.length_cons,List.length_nil];omega) (by omega) (by omega)
    have hs:m.az++x.az.take (i+1)=(m.az++x.az.take i)++[x.az[i]]:=by rw[Bh SD,List.append_assoc]
    have xZ:i+1≤min (m.cl.aP.size - m.az.length).toNat x.az.length:=ab;have hms:x.az.length - (i+1)<x.az.length - i:=by omega
    generalize hLe:m.az++x.az.take i=L at *;simp -implicitDefEqProofs only[go_sem,k1,k2,hg,hw,ha,Bool.and_self,bc];refine⟨_,hms,i+1,xZ,rfl,?_⟩;rw[hs];simp only[gj,cY];try rfl
   have hik:i=min (m.cl.aP.size - m.az.length).toNat x.az.length:=by omega
   have GU:m.az++x.az.take i=jn m x.az:=by
    unfold jn;rw[hik];congr 1;rw[←List.take_take,List.take_length]
   have hAm:=(gI hA).1;rw[GU]at hli;rw[GU];generalize jn m x.az=A at *;have e1:¬((i:Int)<(x.az.length:Int)∧(A.length:Int)<m.cl.aP.size):=by omega
   have hAg:m.az.length≤A.length:=by omega
   by_cases d:(A.length:Int)<m.cl.aP.size
   ·have e2:¬((i:Int)<(x.az.length:Int)):=fun h=>e1 ⟨h,d⟩
    rw[if_pos d];exact A1 e2 d
   rw[if_neg d];rcases bm i x.az.length with e3|e3
   case' inl=>have e2:(i:Int)<(x.az.length:Int):=by omega
   case' inr=>have e2:¬((i:Int)<(x.az.length:Int)):=by omega
   all_goals
    simp -implicitDefEqProofs only[go_sem,d,e2,bc];refine aq.intro pv ?_;generalize fC A=R at *;cases e:jH R.c9 m.cl.aP.root with
    | true=>
     rw[if_pos rfl];have e':=e;unfold jH BD.c9 at e';simp -implicitDefEqProofs only[go_sem,e',Bool.true_and,Bool.and_self,aZ,aY]
    | false=>
     rw[if_neg (by simp)];have e':=e;unfold jH BD.c9 at e';have k6:(0:Int)≤m.done.size∧m.done.size≤(A.length:Int):=by omega
     have Lz:=Av (A.take m.done.size.toNat) (by rw[List.length_take];omega);have t7:∀(y:Option (aj × AV)),kQ m.done.size.toNat A.length y=y:=fun y=>Gg (by omega)
     simp -implicitDefEqProofs only[go_sem,e',k6,t7,Bool.true_and,Bool.and_self,aZ,aY,Nat.sub_zero,List.drop_zero,Int.toNat_zero];refine cz Lz ?_;rfl
 have a':(x.from_ != (m.az.length:Int))=true:=by rw[bne_iff_ne];exact a
 rw[if_pos (.inl a)];simp -implicitDefEqProofs only[go_sem,a',bc]
theorem agu (m:cQ) (me:Int) (l:aB) (h1:m.cl.bt.length≤maxLen) (h2:m.az.length≤maxLen):bb Tryz.prog 191 [] [m.ro,vI me,.agg l.cs] (i9 m me l).av (i9 m me l).out:=by
 refine aA Uh false Tryz.f191 ?_;conv=>enter[1];reduce
 refine bT Tryz.f191 52 [.cell 6 202] (by kernel_rfl) (by decide +kernel) rfl ?_;unfold i9;refine aw ?_;refine aq.intro (UU m h1 h2) ?_;cases a1:iM m with
 | false=>
  refine Er a1 ?_;exact⟨rfl,rfl⟩
 | true=>
  obtain⟨hr,g9⟩:=r8 a1;have hp:=hr.p;have ha:=hr.a;have jZ:=(gI hr.l).1;refine uF a1 ?_;refine aq.intro (vR me) ?_;cases a3:aT me 1 20 with
  | false=>
   simp -implicitDefEqProofs only[go_sem,Bool.not_false,Bool.and_false,Bool.false_and,bc];exact⟨rfl,rfl⟩
  | true=>
   refine Et ?_;refine aq.intro (vQ l) ?_;cases a2:c8 l with
   | false=>
    simp -implicitDefEqProofs only[go_sem,Bool.not_false,Bool.and_false,Bool.false_and,bc];exact⟨rfl,rfl⟩
   | true=>
    have dg:l.text.size≤600:=by
     simp only[c8,Bool.and_eq_true,decide_eq_true_eq]at a2;omega
    simp -implicitDefEqProofs only[go_sem,Bool.not_true,Bool.and_self,bc];refine aq.intro (DA l.text (by omega)) ?_;have gX:=xi l.text;have Cj:=Iw (s:=l.text);generalize hW:bV l.text=W at *;obtain⟨x,code,at_⟩:=W;simp only at gX Cj;have LN:=Vy m.cl me l h1;cases b1:(code==0)<;>cases b2:(x.kind==8)<;>cases b3:(l.from_==0);all_goals simp -implicitDefEqProofs only[go_sem,b1,b2,b3,Bool.and_true,Bool.and_false,Bool.true_and,Bool.false_and,bc]
    all_goals first
     | (refine aD.intro LN ?_
        generalize jo m.cl me l=T;refine aw ?_;refine aD.intro (Vg m T ha (by omega)) ?_;simp -implicitDefEqProofs only[go_sem]
        done)
     | (have oJ:code=0:=by simpa using b1
        refine aD.intro (agb m x hr (Cj oJ) gX.2) ?_;generalize ow m x=T;refine aw ?_
        first|exact True.intro|exact⟨rfl,rfl⟩)
     | trace_state
end
section
set_option maxHeartbeats 4000000
set_option maxRecDepth 10000
set_option linter.unusedSectionVars false
def An:bX:=⟨[],[9,10,11],[24,26,30,44,47,50,51,52,57,58,59,62,76,88,138,185,186,187,253,254,297,311],false⟩
def u7 (l:List ByteArray) (t:ByteArray):List ByteArray:=if (l.length:Int)≥256∨(t.size:Int)>40 then l else l++[t]
theorem agV (l:List ByteArray) (t:ByteArray) (h:eF l=true):∃b,bb Tryz.prog 108 [] [.agg [.ro 1 (l.map cY)],vS t] (.ba [.agg [.ro 1 ((u7 l t).map cY)],vB b]) []:=by
 have hn:=(gI h).1;have hl:l.length≤maxLen:=by unfold maxLen;omega
 have ua:=uu l (by omega);have ha:∀x,(l.map cY++[x]).length≤maxLen∧(l.map cY++[x]).length * 16≤140737488355328:=fun x=>du (E:=cY) (l:=l) (xs:=[x]) (b:=16) (n:=1001) (by simp;omega) (by omega) (by omega)
 have e1:(l++[t]).length=l.length+1:=by simp
 have e2:(l++[t]).length=(l.map cY++[cY t]).length:=by simp
 have eN:=uu (l++[t]) (by rw[e1];omega);rw[e2]at eN;simp only[List.map_append,List.map_cons,List.map_nil]at eN;unfold u7;by_cases h1:(l.length:Int)≥256
 ·rw[if_pos (.inl h1)];refine⟨false,?_⟩;refine aA An false Tryz.f108 ?_;conv=>enter[1];reduce
  refine bT Tryz.f108 32 [.cell 4 49,.tmp 5] (by kernel_rfl) (by decide +kernel) rfl ?_;refine aw ?_;refine aq.intro (Aw l hl) ?_;rw[h];refine aC h1 ?_;refine aq.intro ua ?_;exact er h1
 by_cases h2:(t.size:Int)>40
 ·rw[if_pos (.inr h2)];refine⟨false,?_⟩;refine aA An false Tryz.f108 ?_;conv=>enter[1];reduce
  refine bT Tryz.f108 32 [.cell 4 49,.tmp 5] (by kernel_rfl) (by decide +kernel) rfl ?_;refine aw ?_;refine aq.intro (Aw l hl) ?_;rw[h];refine cg h1 h2 ?_;refine aq.intro ua ?_;exact dk h1 h2
 rw[if_neg (by omega)];refine⟨true,?_⟩;refine aA An false Tryz.f108 ?_;conv=>enter[1];reduce
 refine bT Tryz.f108 32 [.cell 4 49,.tmp 5] (by kernel_rfl) (by decide +kernel) rfl ?_;refine aw ?_;refine aq.intro (Aw l hl) ?_;rw[h];refine cg h1 h2 ?_;refine aq.intro ua ?_;refine ez h1 h2 ha ?_;refine aq.intro eN ?_;simp -implicitDefEqProofs only[go_sem,List.map_append,List.map_cons,List.map_nil]
theorem agL (l:List ByteArray) (t:ByteArray) (h:eF l=true):∃b,bb Tryz.prog 130 [] [.agg [.ro 1 (l.map cY)],vS t] (.ba [.agg [.ro 1 ((u7 l t).map cY)],vB b]) []:=by
 have hn:=(gI h).1;have hl:l.length≤maxLen:=by unfold maxLen;omega
 have ua:=Av l (by omega);have ha:∀x,(l.map cY++[x]).length≤maxLen∧(l.map cY++[x]).length * 16≤140737488355328:=fun x=>du (E:=cY) (l:=l) (xs:=[x]) (b:=16) (n:=1001) (by simp;omega) (by omega) (by omega)
 have e1:(l++[t]).length=l.length+1:=by simp
 have e2:(l++[t]).length=(l.map cY++[cY t]).length:=by simp
 have eN:=Av (l++[t]) (by rw[e1];omega);rw[e2]at eN;simp only[List.map_append,List.map_cons,List.map_nil]at eN;unfold u7;by_cases h1:(l.length:Int)≥256
 ·rw[if_pos (.inl h1)];refine⟨false,?_⟩;refine aA An false Tryz.f130 ?_;conv=>enter[1];reduce
  refine bT Tryz.f130 30 [.cell 4 49,.tmp 5] (by kernel_rfl) (by decide +kernel) rfl ?_;refine aw ?_;refine aq.intro (yD l hl) ?_;rw[h];refine aC h1 ?_;refine aq.intro ua ?_;exact er h1
 by_cases h2:(t.size:Int)>40
 ·rw[if_pos (.inr h2)];refine⟨false,?_⟩;refine aA An false Tryz.f130 ?_;conv=>enter[1];reduce
  refine bT Tryz.f130 30 [.cell 4 49,.tmp 5] (by kernel_rfl) (by decide +kernel) rfl ?_;refine aw ?_;refine aq.intro (yD l hl) ?_;rw[h];refine cg h1 h2 ?_;refine aq.intro ua ?_;exact dk h1 h2
 rw[if_neg (by omega)];refine⟨true,?_⟩;refine aA An false Tryz.f130 ?_;conv=>enter[1];reduce
 refine bT Tryz.f130 30 [.cell 4 49,.tmp 5] (by kernel_rfl) (by decide +kernel) rfl ?_;refine aw ?_;refine aq.intro (yD l hl) ?_;rw[h];refine cg h1 h2 ?_;refine aq.intro ua ?_;refine ez h1 h2 ha ?_
 skip
 simp -implicitDefEqProofs only[go_sem,List.map_append,List.map_cons,List.map_nil]
end
end Go.Proofs.YtobpfkgabdeefaaGreat.E
