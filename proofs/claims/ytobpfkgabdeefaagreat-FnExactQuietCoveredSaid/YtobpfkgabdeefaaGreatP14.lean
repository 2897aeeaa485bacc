/- Contracts: what comes of letters to clients, in the reference; Witnesses with one more: the plain law -/
import Derived.Test.YtobpfkgabdeefaaGreatP11
namespace Go.Proofs.YtobpfkgabdeefaaGreat.E
open Go Go.RowKit
section
set_option maxHeartbeats 4000000
set_option maxRecDepth 10000
set_option linter.unusedSimpArgs false
set_option linter.unusedVariables false
set_option linter.unusedSectionVars false
def Dq:bX:=⟨[(242,.cm [false,false,false]),(243,.cm [false,false]),(244,.cm [false])],[9,10,11],[24,26,30,44,47,50,51,52,57,58,59,62,76,88,138,185,186,187,253,254,297,311],false⟩
structure ec where
 kind:Int
 br:Int
 held:bh
 told:bh
 code:Int
def ec.cs (a:ec):List AV:=[vI a.kind,vI a.br,vI a.held.size,vU a.held.root.a,vU a.held.root.b,vU a.held.root.c,vU a.held.root.d,vI a.told.size,vU a.told.root.a,vU a.told.root.b,vU a.told.root.c,vU a.told.root.d,vI a.code]
structure cU where
 cl:bu
 bM:List aB
 dI:List ec
 acc:List bh
def bu.av (c:bu) (p:List Nat):AV:=.agg (c.cs (.au 0 0 p 1 0 c.bt.length))
def cU.cs (t:cU) (a l x p:AV):List AV:=t.cl.cs a++[l,x,p]
def cU.av (t:cU):AV:=.agg (t.cs (.au 0 0 [9] 1 0 t.cl.bt.length) (.au 0 0 [15] 3 0 t.bM.length) (.au 0 0 [16] 13 0 t.dI.length) (.au 0 0 [17] 5 0 t.acc.length))
def bu.ar (c:bu):Row:=⟨1,c.bt.map dv,2,false⟩
def cU.lr (t:cU):Row:=⟨3,t.bM.map aB.cs,2,false⟩
def cU.xr (t:cU):Row:=⟨13,t.dI.map ec.cs,2,false⟩
def cU.pr (t:cU):Row:=⟨5,t.acc.map bh.cs,2,false⟩
def cU.rf (t:cU):List (List Nat × Row):=[([9],t.cl.ar),([15],t.lr),([16],t.xr),([17],t.pr)]
def wh:List AV:=[vI 0,vI 0,vI 0,vI 0,vI 0,.sc (.int .u64 0),.sc (.int .u64 0),.sc (.int .u64 0),.sc (.int .u64 0),.aG,vI 0,.sc (.int .u64 0),.sc (.int .u64 0),.sc (.int .u64 0),.sc (.int .u64 0)]
attribute [go_sem] wh ec.cs bu.av cU.cs cU.av bu.ar cU.lr cU.xr cU.pr cU.rf
def cU.ta (t:cU):AV:=.agg (t.cs (.au 0 0 [] 1 0 t.cl.bt.length) (.au 1 0 [] 3 0 t.bM.length) (.au 2 0 [] 13 0 t.dI.length) (.au 3 0 [] 5 0 t.acc.length))
def cU.rZ (t:cU):aj:=[(0,0,one t.cl.ar),(1,0,one t.lr),(2,0,one t.xr),(3,0,one t.pr)]
attribute [go_sem] cU.ta cU.rZ
theorem Bh {α:Type}{l:List α}{i:Nat}(h:i<l.length):l.take (i+1)=l.take i++[l[i]]:=List.take_succ_eq_append_getElem h
theorem Au (c:bu) (hl:c.bt.length≤100):bb Tryz.prog 244 [] [c.ro] (c.av []) [(0,0,one c.ar)]:=by
 refine aA Dq false Tryz.f244 ?_;conv=>enter[1];reduce
 refine bT Tryz.f244 24 [.cell 2 54] (by kernel_rfl) (by decide +kernel) rfl ?_;have l0:c.bt.length≤maxLen:=by unfold maxLen;omega
 refine aw ?_;refine cR (fun m s=>∃i:Nat,i≤c.bt.length∧m=c.bt.length - i∧s=⟨24,[(1,.ptr 1 0 [] 15 0 0),(2,.ptr 2 0 [] 15 0 0),(3,.au 3 0 [] 1 0 (c.bt.take i).length),(4,vI i)],[(1,0,one ⟨15,[c.cs (.ro 1 (c.bt.map dv))],0,false⟩),(2,0,one ⟨15,[wh],0,false⟩),(3,0,one ⟨1,(c.bt.take i).map dv,2,false⟩)],1⟩) c.bt.length ?_ ?_
 ·refine aw ?_;exact⟨0,aQ _,rfl,rfl⟩
 rintro m s ⟨i,hi,rfl,rfl⟩;rcases bm i c.bt.length with ab|bH
 ·have ae:(i:Int)<(c.bt.length:Int):=by omega
  have hg:c.bt[i]?=some c.bt[i]:=bz ab;have hw:=df ab l0;have ha:∀x,_:=fun x=>du (E:=dv) (l:=c.bt.take i) (xs:=[x]) (b:=8) (n:=1000) (by simp;omega) (by omega) (by omega)
  refine eI ae hg hw ha ?_;refine⟨_,by omega,i+1,ab,rfl,?_⟩;rw[Bh ab];simp only[gj,dv];try rfl
 have hi:i=c.bt.length:=by omega
 subst hi;have ae:¬((c.bt.length:Int)<(c.bt.length:Int)):=by omega
 exact wo ae
theorem vR (n:Int):aR Tryz.prog 241 [vI n] (vB (aT n 1 20)) []:=by
 refine aA Dq false Tryz.f241 ?_;conv=>enter[1];reduce
 refine bf Tryz.f241 5 [.tmp 2] (by kernel_rfl) (by decide +kernel) rfl ?_;refine aw ?_;refine aq.intro (e9 _ _ _) ?_;exact dt
def iV (w:Int):List Int→Bool→List Int
 | [],put=>if put then [] else [w]
 | a::l,put=>(if !put&&decide (a≥w) then [w] else [])++((if a != w then [a] else [])++iV w l (put||decide (a≥w)))
def qd (l:List Int) (w:Int):List Int:=iV w l false
theorem WD (w:Int):∀(l:List Int) (put:Bool),(iV w l put).length≤2 * l.length+1
 | [],put=>by cases put<;>simp[iV]
 | a::l,put=>by
  have:=WD w l (put||decide (a≥w));simp only[iV,List.length_append,List.length_cons];split<;>split<;>simp only[List.length_cons,List.length_nil]<;>omega
theorem WG {w:Int}{l:List Int}{i:Nat}(h:i<l.length) (put:Bool):iV w (l.drop i) put=(if !put&&decide (l[i]≥w) then [w] else [])++((if l[i] != w then [l[i]] else [])++iV w (l.drop (i+1)) (put||decide (l[i]≥w))):=by
 rw[List.drop_eq_getElem_cons h];rfl
theorem afX (l:List Int) (w:Int) (hl:l.length≤100):aR Tryz.prog 278 [.ro 1 (l.map dv),vI w] (.au 0 0 [] 1 0 (qd l w).length) [([],⟨1,(qd l w).map dv,2,false⟩)]:=by
 refine aA Dq false Tryz.f278 ?_;conv=>enter[1];reduce
 refine bf Tryz.f278 49 [.tmp 4] (by kernel_rfl) (by decide +kernel) rfl ?_;have l0:l.length≤maxLen:=by unfold maxLen;omega
 refine aw ?_;refine cR (fun m s=>∃(i:Nat) (o:List Int) (put:Bool),i≤l.length∧m=l.length - i∧o.length≤2 * i∧o++iV w (l.drop i) put=qd l w∧s=⟨49,[(0,.ro 1 (l.map dv)),(1,vI w),(5,.au 5 0 [] 1 0 o.length),(6,vB put),(7,vI i)],[(5,0,one ⟨1,o.map dv,2,false⟩)],1⟩) l.length ?_ ?_
 ·refine aw ?_;exact⟨0,[],false,aQ _,rfl,Nat.le_refl _,rfl,rfl⟩
 rintro m s ⟨i,o,put,hi,rfl,ho,hx,rfl⟩;rcases bm i l.length with ab|bH
 ·have ae:(i:Int)<(l.length:Int):=by omega
  have hg:l[i]?=some l[i]:=bz ab;have hw:=df ab l0;rw[WG ab]at hx;have ha:∀x,_:=fun x=>du (E:=dv) (l:=o) (xs:=[x]) (b:=8) (n:=1000) (by simp;omega) (by omega) (by omega)
  have cA:∀x y:List AV,(o.map dv++[x]++[y]).length≤maxLen∧(o.map dv++[x]++[y]).length * 8≤140737488355328:=fun x y=>by unfold maxLen;simp;omega
  cases hd:decide (l[i]≥w)<;>cases he:(l[i] != w)<;>cases put
  all_goals simp only[hd,he,Bool.not_true,Bool.not_false,Bool.and_true,Bool.and_false,Bool.true_and,Bool.false_and,if_true,if_false,Bool.false_eq_true,Bool.or_true,Bool.or_false,List.nil_append]at hx
  all_goals simp -implicitDefEqProofs only[go_sem,ae,hg]
  all_goals repeat' first|(refine ew (fun h=>?_) (fun h=>?_)<;>try simp -implicitDefEqProofs only[go_sem,ae,hg,hd,he,hw,ha,cA,ek,bU,eo,eO,aZ,aY,h])|(refine b8 (fun h=>?_) (fun h=>?_)<;>try simp -implicitDefEqProofs only[go_sem,ae,hg,hd,he,hw,ha,cA,ek,bU,eo,eO,aZ,aY,h])
  all_goals first
   | (rw[hd]at h;cases h;done)
   | (rw[he]at h;cases h;done)
   | (refine⟨_,by omega,i+1,o,true,ab,rfl,?_,?_,?_⟩;all_goals first|omega|(simp;omega)|(rw[←hx];simp;done)|(simp[dv];done))
   | (refine⟨_,by omega,i+1,o,false,ab,rfl,?_,?_,?_⟩;all_goals first|omega|(simp;omega)|(rw[←hx];simp;done)|(simp[dv];done))
   | (refine⟨_,by omega,i+1,o++[l[i]],true,ab,rfl,?_,?_,?_⟩;all_goals first|omega|(simp;omega)|(rw[←hx];simp;done)|(simp[dv];done))
   | (refine⟨_,by omega,i+1,o++[l[i]],false,ab,rfl,?_,?_,?_⟩;all_goals first|omega|(simp;omega)|(rw[←hx];simp;done)|(simp[dv];done))
   | (refine⟨_,by omega,i+1,o++[w],true,ab,rfl,?_,?_,?_⟩;all_goals first|omega|(simp;omega)|(rw[←hx];simp;done)|(simp[dv];done))
   | (refine⟨_,by omega,i+1,o++[w],false,ab,rfl,?_,?_,?_⟩;all_goals first|omega|(simp;omega)|(rw[←hx];simp;done)|(simp[dv];done))
   | (refine⟨_,by omega,i+1,o++[w]++[l[i]],true,ab,rfl,?_,?_,?_⟩;all_goals first|omega|(simp;omega)|(rw[←hx];simp;done)|(simp[dv];done))
   | (refine⟨_,by omega,i+1,o++[w]++[l[i]],false,ab,rfl,?_,?_,?_⟩;all_goals first|omega|(simp;omega)|(rw[←hx];simp;done)|(simp[dv];done))
   | trace_state
 have hi:i=l.length:=by omega
 subst hi;have ae:¬((l.length:Int)<(l.length:Int)):=by omega
 rw[List.drop_length]at hx;have ha:∀x,_:=fun x=>du (E:=dv) (l:=o) (xs:=[x]) (b:=8) (n:=1000) (by simp;omega) (by omega) (by omega)
 refine aC ae ?_;cases put
 ·refine Ew ha ?_;simp only[iV,Bool.false_eq_true,if_false]at hx;rw[←hx];simp[dv]
 simp -implicitDefEqProofs only[go_sem,aY];simp only[iV,if_true,List.append_nil]at hx;rw[←hx];try simp
def Ef:List AV:=[vI 0,vI 0,vI 0,vI 0,vI 0,.sc (.int .u64 0),.sc (.int .u64 0),.sc (.int .u64 0),.sc (.int .u64 0),.aG,vI 0,.sc (.int .u64 0),.sc (.int .u64 0),.sc (.int .u64 0),.sc (.int .u64 0),.aG,.aG,.aG]
attribute [go_sem] Ef
def cU.base (c:bu):cU:=⟨c,[],[],[]⟩
def qe (c:bu) (w:Int):cU:=
 if ((qd c.bt w).length:Int)<c.eK then⟨{c with bt:=qd c.bt w},[],[],[]⟩
 else⟨{c with phase:=0,goal:=.zero,bt:=[],aP:=c.goal},[],[],[c.goal]⟩
theorem Vh (c:bu) (w:Int) (hl:c.bt.length≤100):bb Tryz.prog 243 [] [c.ro,vI w] (qe c w).ta (qe c w).rZ:=by
 refine aA Dq false Tryz.f243 ?_;conv=>enter[1];reduce
 refine bT Tryz.f243 40 [.cell 4 206] (by kernel_rfl) (by decide +kernel) rfl ?_;refine aw ?_;refine eP (Au c hl) ?_;refine aq.intro (afX c.bt w hl) ?_;unfold qe;refine aw ?_;refine b8 (fun h=>?_) (fun h=>?_)
 ·rw[if_pos (of_decide_eq_true h)];exact er h
 rw[if_neg (of_decide_eq_false h)];refine aC h ?_;rfl
def qz (a b:bh):Bool:=a.size==b.size&&(((a.root.a:Int)==b.root.a)&&(((a.root.b:Int)==b.root.b)&&(((a.root.c:Int)==b.root.c)&&((a.root.d:Int)==b.root.d))))
def zE (c:bu) (p:bh):aM:=⟨3,c.bR,0,p.size,p.root,0,[],[]⟩
def qc (c:bu) (me:Int) (p:bh):cU:=
 if p.size=0∨p.size<c.aP.size∨qz p c.aP=true then .base c
 else if p.size=c.aP.size then⟨c,[],[⟨1,0,c.aP,p,0⟩],[]⟩
 else⟨{c with phase:=2,goal:=p},(List.range c.many.toNat).map (fun i:Nat=>aB.mk me ((i:Int)+1) (i6 (zE c p))),[],[]⟩
theorem Vi (c:bu) (me:Int) (m:aM) (hl:c.bt.length≤100) (hm:c.many≤100) (hr:m.root.ok):bb Tryz.prog 242 [] [c.ro,vI me,m.ro] (qc c me ⟨m.size,m.root⟩).ta (qc c me ⟨m.size,m.root⟩).rZ:=by
 refine aA Dq false Tryz.f242 ?_;conv=>enter[1];reduce
 refine bT Tryz.f242 79 [.cell 6 206] (by kernel_rfl) (by decide +kernel) rfl ?_;refine aw ?_;refine aD.intro (Au c hl) ?_;unfold qc;by_cases a:m.size=0
 ·have a':(m.size==0)=true:=by simpa using a
  rw[if_pos (.inl a)];simp -implicitDefEqProofs only[go_sem,a',eo,aZ,cU.base]
 have a':(m.size==0)=false:=by simpa using a
 by_cases b:m.size<c.aP.size
 ·rw[if_pos (.inr (.inl b))];simp -implicitDefEqProofs only[go_sem,a',b,bU,eo,aZ,cU.base]
 cases e:qz ⟨m.size,m.root⟩ c.aP with
 | true=>
  rw[if_pos (.inr (.inr rfl))];have e':(m.size==c.aP.size&&(((m.root.a:Int)==c.aP.root.a)&&(((m.root.b:Int)==c.aP.root.b)&&(((m.root.c:Int)==c.aP.root.c)&&((m.root.d:Int)==c.aP.root.d)))))=true:=e;simp -implicitDefEqProofs only[go_sem,a',b,e',bU,aZ,cU.base]
 | false=>
  rw[if_neg (by simp only[not_or];exact⟨a,b,by simp⟩)];have e':(m.size==c.aP.size&&(((m.root.a:Int)==c.aP.root.a)&&(((m.root.b:Int)==c.aP.root.b)&&(((m.root.c:Int)==c.aP.root.c)&&((m.root.d:Int)==c.aP.root.d)))))=false:=e;by_cases d:m.size=c.aP.size
  ·have d':(m.size==c.aP.size)=true:=by simpa using d
   rw[if_pos d];simp only[d',Bool.true_and]at e';simp -implicitDefEqProofs only[go_sem,a',b,e',d',bU,aZ,aY];try rfl
  have d':(m.size==c.aP.size)=false:=by simpa using d
  rw[if_neg d];simp -implicitDefEqProofs only[go_sem,a',b,e',d',bU,aZ,aY];generalize hF:(fun i:Nat=>aB.mk me ((i:Int)+1) (i6 (zE c ⟨m.size,m.root⟩)))=F;have hv:=yT (zE c ⟨m.size,m.root⟩) rfl rfl hr;refine jX [(16007,3)] (fun x s=>∃i:Nat,i≤c.many.toNat∧x=c.many.toNat - i∧s=⟨79,[(1,vI me),(3,.ptr 3 0 [] 15 0 0),(6,.ptr 6 0 [] 18 0 0),(7,.ptr 7 0 [] 18 0 0),(9,.ptr 9 0 [] 11 0 0),(10,vI ((i:Int)+1))],[(3,0,one ⟨15,[c.cs (.ro 1 (c.bt.map dv))],0,false⟩),(6,0,one ⟨18,[Ef],0,false⟩),(7,0,one ⟨18,[cU.cs ⟨{c with phase:=2,goal:=⟨m.size,m.root⟩},[],[],[]⟩ (.au 10007 0 [] 1 0 c.bt.length) (.au 20007 0 [] 3 0 ((List.range i).map F).length) .aG .aG],0,false⟩),(10007,0,one c.ar),(20007,0,one ⟨3,((List.range i).map F).map aB.cs,2,false⟩),(9,0,one ⟨11,[[vI 3,vI c.bR,vI 0,vI m.size,vU m.root.a,vU m.root.b,vU m.root.c,vU m.root.d,vI 0,.aG,.aG]],0,false⟩)],1⟩) c.many.toNat ?_ ?_
  ·refine aw ?_;exact⟨0,aQ _,rfl,rfl⟩
  rintro x s ⟨i,hi,rfl,rfl⟩;rcases bm i c.many.toNat with ab|bH
  ·have ae:(i:Int)+1≤c.many:=by omega
   have w1:IntKind.i64.wrap ((i:Int)+1+1)=((i+1:Nat):Int)+1:=by rw[aV (by omega)];omega
   have ha:∀x,_:=fun x=>du (E:=aB.cs) (l:=(List.range i).map F) (xs:=[x]) (b:=32) (n:=1000) (by simp;omega) (by omega) (by omega)
   refine aC ae ?_;refine qG hv ha w1 ?_;refine⟨_,by omega,i+1,ab,rfl,?_⟩;rw[List.range_succ,List.map_append,List.map_cons,List.map_nil,←hF];simp only[gj,aB.cs];try rfl
  have hi:i=c.many.toNat:=by omega
  subst hi;have ae:¬((c.many.toNat:Int)+1≤c.many):=by omega
  refine aC ae ?_
  exact True.intro
end
theorem WA (w:Int):∀l,iV w l true=l.filter (· != w)
 | []=>rfl
 | a::l=>by
  simp only[iV,Bool.not_true,Bool.false_and,Bool.false_eq_true,if_false,List.nil_append,Bool.true_or,WA w l,List.filter_cons];split<;>simp
theorem HZ {w a:Int}{l:List Int}(h:a≥w):iV w (a::l) false=w::(a::l).filter (· != w):=by
 simp only[iV,Bool.not_false,Bool.true_and,h,decide_true,if_true,Bool.false_or,WA,List.filter_cons];split<;>simp
theorem HY {w a:Int}{l:List Int}(h:a<w):iV w (a::l) false=a::iV w l false:=by
 have h1:¬a≥w:=by omega
 have h2:(a != w)=true:=by rw[bne_iff_ne];omega
 simp only[iV,Bool.not_false,Bool.true_and,h1,decide_false,Bool.false_eq_true,if_false,Bool.false_or,h2,if_true,List.nil_append,List.singleton_append]
theorem NR (w x:Int):∀l,x∈iV w l false↔x=w∨x∈l
 | []=>by simp[iV]
 | a::l=>by
  by_cases h:a≥w
  ·rw[HZ h,List.mem_cons,List.mem_filter,bne_iff_ne];by_cases e:x=w<;>simp[e]
  rw[HY (by omega),List.mem_cons,NR w x l,List.mem_cons];exact⟨fun h=>by rcases h with h|h|h<;>simp[h],fun h=>by rcases h with h|h|h<;>simp[h]⟩
theorem WB (w:Int):∀l:List Int,l.Pairwise (·<·)→(iV w l false).Pairwise (·<·)
 | [],_=>by simp[iV]
 | a::l,hp=>by
  have mE:=List.pairwise_cons.1 hp;by_cases h:a≥w
  ·rw[HZ h];refine List.pairwise_cons.2 ⟨fun x hx=>?_,List.Pairwise.filter _ hp⟩;obtain⟨h1,h2⟩:=List.mem_filter.1 hx;rw[bne_iff_ne]at h2;rcases List.mem_cons.1 h1 with h1|h1
   ·omega
   have:=mE.1 x h1;omega
  rw[HY (by omega)];refine List.pairwise_cons.2 ⟨fun x hx=>?_,WB w l mE.2⟩;rcases(NR w x l).1 hx with h1|h1
  ·omega
  exact mE.1 x h1
theorem TB {w:Int}{l:List Int}(h:¬w∈l):l.filter (· != w)=l:=
 List.filter_eq_self.2 fun x hx=>by rw[bne_iff_ne];exact fun e=>h (e▸hx)
theorem WE {w:Int}:∀l:List Int,l.Pairwise (·<·)→w∈l→iV w l false=l
 | a::l,hp,hw=>by
  have mE:=List.pairwise_cons.1 hp;by_cases h:a≥w
  ·have e:a=w:=by
    rcases List.mem_cons.1 hw with h1|h1
    ·exact h1.symm
    have:=mE.1 w h1;omega
   subst e;have hn:¬a∈l:=fun h1=>by have:=mE.1 a h1;omega
   rw[HZ h,List.filter_cons,if_neg (by simp),TB hn]
  have h1:w∈l:=by
   rcases List.mem_cons.1 hw with h1|h1
   ·omega
   exact h1
  rw[HY (by omega),WE l mE.2 h1]
theorem WC {w:Int}:∀l:List Int,¬w∈l→(iV w l false).length=l.length+1
 | [],_=>rfl
 | a::l,hw=>by
  by_cases h:a≥w
  ·rw[HZ h,TB hw,List.length_cons]
  rw[HY (by omega),List.length_cons,WC l (fun h1=>hw (List.mem_cons_of_mem _ h1)),List.length_cons]
theorem ahM {many:Int}{l:List Int}(hp:l.Pairwise (·<·)) (hb:∀x∈l,1≤x∧x≤many):pK many l=true:=by
 rw[AE];intro i hi;have hm:=cf.2 (hb l[i] (List.getElem_mem hi));cases i with
 | zero=>rw[DV hi];exact hm
 | succ i=>rw[AF hi,hm,Bool.true_and,decide_eq_true_eq];exact List.pairwise_iff_getElem.1 hp i (i+1) (by omega) hi (by omega)
theorem Ww {many:Int}{l:List Int}(h:pK many l=true):l.Pairwise (·<·)∧∀x∈l,1≤x∧x≤many:=by
 rw[AE]at h;have hb:∀i,(hi:i<l.length)→1≤l[i]∧l[i]≤many:=fun i hi=>by
  have:=h i hi;cases i with
  | zero=>rw[DV hi]at this;exact cf.1 this
  | succ i=>rw[AF hi,Bool.and_eq_true]at this;exact cf.1 this.1
 refine⟨List.pairwise_iff_getElem.2 ?_,fun x hx=>?_⟩
 ·intro i j hi hj oH;induction j with
  | zero=>omega
  | succ j ih=>
   have:=h (j+1) hj;rw[AF hj,Bool.and_eq_true,decide_eq_true_eq]at this;rcases bm i j with ab|bH
   ·have:=ih (by omega) ab;omega
   have e:i=j:=by omega
   subst e;exact this.2
 obtain⟨i,hi,rfl⟩:=List.mem_iff_getElem.1 hx;exact hb i hi
theorem ahO {w:Int}{l:List Int}(hp:l.Pairwise (·<·)):(qd l w).length≤l.length+1:=by
 by_cases hw:w∈l
 ·rw[qd,WE l hp hw];omega
 rw[qd,WC l hw];exact Nat.le_refl _
theorem ahN {many w:Int}{l:List Int}(h:pK many l=true) (hw:1≤w∧w≤many):pK many (qd l w)=true:=by
 obtain⟨hp,hb⟩:=Ww h;exact ahM (WB w l hp) fun x hx=>by
  rcases(NR w x l).1 hx with rfl|hx
  ·exact hw
  exact hb x hx
end Go.Proofs.YtobpfkgabdeefaaGreat.E
