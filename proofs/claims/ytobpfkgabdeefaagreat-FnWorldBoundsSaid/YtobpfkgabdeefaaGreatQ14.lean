/- Contracts: what comes of letters to clients, in the reference; Witnesses with one more: the plain law -/
import Derived.Test.YtobpfkgabdeefaaGreatQ11
namespace Go.Proofs.YtobpfkgabdeefaaGreat.E
open Go Go.RowKit
section
set_option maxHeartbeats 4000000
set_option maxRecDepth 10000
set_option linter.unusedSimpArgs false
set_option linter.unusedVariables false
set_option linter.unusedSectionVars false
def Dp:cc:=⟨[(242,.cm [false,false,false]),(243,.cm [false,false]),(244,.cm [false])],cw,cz,false⟩
structure ez where
 kind:Int
 bh:Int
 held:cg
 told:cg
 code:Int
def ez.cs (a:ez):List AV:=[vI a.kind,vI a.bh,vI a.held.size,vU a.held.root.a,vU a.held.root.b,vU a.held.root.c,vU a.held.root.d,vI a.told.size,vU a.told.root.a,vU a.told.root.b,vU a.told.root.c,vU a.told.root.d,vI a.code]
structure cW where
 cl:bw
 bR:List aC
 dN:List ez
 acc:List cg
def bw.av (c:bw) (p:List Nat):AV:=.agg (c.cs (.aw 0 0 p 1 0 c.bj.length))
def cW.cs (t:cW) (a l x p:AV):List AV:=t.cl.cs a++[l,x,p]
def cW.av (t:cW):AV:=.agg (t.cs (.aw 0 0 [9] 1 0 t.cl.bj.length) (.aw 0 0 [15] 3 0 t.bR.length) (.aw 0 0 [16] 13 0 t.dN.length) (.aw 0 0 [17] 5 0 t.acc.length))
def bw.ar (c:bw):Row:=⟨1,c.bj.map dz,2,false⟩
def cW.lr (t:cW):Row:=⟨3,t.bR.map aC.cs,2,false⟩
def cW.xr (t:cW):Row:=⟨13,t.dN.map ez.cs,2,false⟩
def cW.pr (t:cW):Row:=⟨5,t.acc.map cg.cs,2,false⟩
def cW.rf (t:cW):List (List Nat × Row):=[([9],t.cl.ar),([15],t.lr),([16],t.xr),([17],t.pr)]
def wE:List AV:=[vI 0,vI 0,vI 0,vI 0,vI 0,.sc (.int .u64 0),.sc (.int .u64 0),.sc (.int .u64 0),.sc (.int .u64 0),.aG,vI 0,.sc (.int .u64 0),.sc (.int .u64 0),.sc (.int .u64 0),.sc (.int .u64 0)]
attribute [go_sem] wE ez.cs bw.av cW.cs cW.av bw.ar cW.lr cW.xr cW.pr cW.rf
def cW.tt (t:cW):AV:=.agg (t.cs (.aw 0 0 [] 1 0 t.cl.bj.length) (.aw 1 0 [] 3 0 t.bR.length) (.aw 2 0 [] 13 0 t.dN.length) (.aw 3 0 [] 5 0 t.acc.length))
def cW.sA (t:cW):ak:=[(0,0,one t.cl.ar),(1,0,one t.lr),(2,0,one t.xr),(3,0,one t.pr)]
attribute [go_sem] cW.tt cW.sA
theorem Bb {α:Type}{l:List α}{i:Nat}(h:i<l.length):l.take (i+1)=l.take i++[l[i]]:=List.take_succ_eq_append_getElem h
theorem Ao (c:bw) (hl:c.bj.length<=100):aY Tryz.prog 244 [] [c.ro] (c.av []) [(0,0,one c.ar)]:=by
 refine aF Dp false Tryz.f244 ?_;conv=>enter[1];reduce
 refine bI Tryz.f244 24 [.cell 2 54] (by kernel_rfl) (by decide +kernel) rfl ?_;have mq:c.bj.length<=maxLen:=by unfold maxLen;omega
 refine au ?_;refine dq (fun m s=>∃i:Nat,i<=c.bj.length/\m=c.bj.length - i/\s=⟨24,[(1,.ptr 1 0 [] 15 0 0),(2,.ptr 2 0 [] 15 0 0),(3,.aw 3 0 [] 1 0 (c.bj.take i).length),(4,vI i)],[(1,0,one ⟨15,[c.cs (.ro 1 (c.bj.map dz))],0,false⟩),(2,0,one ⟨15,[wE],0,false⟩),(3,0,one ⟨1,(c.bj.take i).map dz,2,false⟩)],1⟩) c.bj.length ?_ ?_
 ·refine au ?_;exact⟨0,aR _,rfl,rfl⟩
 rintro m s ⟨i,hi,rfl,rfl⟩;rcases bp i c.bj.length with ab|bM
 ·have ah:(i:Int)<(c.bj.length:Int):=by omega
  have hg:c.bj[i]?=some c.bj[i]:=bm ab;have hw:=dx ab mq;have ha:∀x,_:=fun x=>ed (E:=dz) (l:=c.bj.take i) (xs:=[x]) (b:=8) (n:=1000) (by simp;omega) (by omega) (by omega)
  refine dP ah hg hw ha ?_;refine⟨_,by omega,i+1,ab,rfl,?_⟩;rw[Bb ab];simp only[gj,dz];try rfl
 have hi:i=c.bj.length:=by omega
 subst hi;have ah:¬((c.bj.length:Int)<(c.bj.length:Int)):=by omega
 exact uN ah
theorem wg (n:Int):ba Tryz.prog 241 [vI n] (vB (aS n 1 20)) []:=by
 refine aF Dp false Tryz.f241 ?_;conv=>enter[1];reduce
 refine bu Tryz.f241 5 [.tmp 2] (by kernel_rfl) (by decide +kernel) rfl ?_;refine au ?_;refine aq.intro (fG _ _ _) ?_;exact dy
def jg (w:Int):List Int->Bool->List Int
 | [],put=>if put then [] else [w]
 | a::l,put=>(if !put&&decide (a>=w) then [w] else [])++((if a != w then [a] else [])++jg w l (put||decide (a>=w)))
def qs (l:List Int) (w:Int):List Int:=jg w l false
theorem WL (w:Int):∀(l:List Int) (put:Bool),(jg w l put).length<=2 * l.length+1
 | [],put=>by cases put<;>simp[jg]
 | a::l,put=>by
  have:=WL w l (put||decide (a>=w));simp only[jg,List.length_append,List.length_cons];split<;>split<;>simp only[List.length_cons,List.length_nil]<;>omega
theorem WN {w:Int}{l:List Int}{i:Nat}(h:i<l.length) (put:Bool):jg w (l.drop i) put=(if !put&&decide (l[i]>=w) then [w] else [])++((if l[i] != w then [l[i]] else [])++jg w (l.drop (i+1)) (put||decide (l[i]>=w))):=by
 rw[List.drop_eq_getElem_cons h];rfl
theorem af6 (l:List Int) (w:Int) (hl:l.length<=100):ba Tryz.prog 278 [.ro 1 (l.map dz),vI w] (.aw 0 0 [] 1 0 (qs l w).length) [([],⟨1,(qs l w).map dz,2,false⟩)]:=by
 refine aF Dp false Tryz.f278 ?_;conv=>enter[1];reduce
 refine bu Tryz.f278 49 [.tmp 4] (by kernel_rfl) (by decide +kernel) rfl ?_;have mq:l.length<=maxLen:=by unfold maxLen;omega
 refine au ?_;refine dq (fun m s=>∃(i:Nat) (o:List Int) (put:Bool),i<=l.length/\m=l.length - i/\o.length<=2 * i/\o++jg w (l.drop i) put=qs l w/\s=⟨49,[(0,.ro 1 (l.map dz)),(1,vI w),(5,.aw 5 0 [] 1 0 o.length),(6,vB put),(7,vI i)],[(5,0,one ⟨1,o.map dz,2,false⟩)],1⟩) l.length ?_ ?_
 ·refine au ?_;exact⟨0,[],false,aR _,rfl,Nat.le_refl _,rfl,rfl⟩
 rintro m s ⟨i,o,put,hi,rfl,ho,hx,rfl⟩;rcases bp i l.length with ab|bM
 ·have ah:(i:Int)<(l.length:Int):=by omega
  have hg:l[i]?=some l[i]:=bm ab;have hw:=dx ab mq;rw[WN ab]at hx;have ha:∀x,_:=fun x=>ed (E:=dz) (l:=o) (xs:=[x]) (b:=8) (n:=1000) (by simp;omega) (by omega) (by omega)
  have cN:∀x y:List AV,(o.map dz++[x]++[y]).length<=maxLen/\(o.map dz++[x]++[y]).length * 8<=140737488355328:=fun x y=>by unfold maxLen;simp;omega
  cases hd:decide (l[i]>=w)<;>cases he:(l[i] != w)<;>cases put
  all_goals simp only[hd,he,Bool.not_true,Bool.not_false,Bool.and_true,Bool.and_false,Bool.true_and,Bool.false_and,if_true,if_false,Bool.false_eq_true,Bool.or_true,Bool.or_false,List.nil_append]at hx
  all_goals simp -implicitDefEqProofs only[go_sem,ah,hg]
  all_goals repeat' first|(refine fv (fun h=>?_) (fun h=>?_)<;>try simp -implicitDefEqProofs only[go_sem,ah,hg,hd,he,hw,ha,cN,eC,bW,eD,fg,aT,aV,h])|(refine bX (fun h=>?_) (fun h=>?_)<;>try simp -implicitDefEqProofs only[go_sem,ah,hg,hd,he,hw,ha,cN,eC,bW,eD,fg,aT,aV,h])
  all_goals first
   | (rw[hd]at h;cases h;done)
   | (rw[he]at h;cases h;done)
   | (refine⟨_,by omega,i+1,o,true,ab,rfl,?_,?_,?_⟩;all_goals first|omega|(simp;omega)|(rw[<-hx];simp;done)|(simp[dz];done))
   | (refine⟨_,by omega,i+1,o,false,ab,rfl,?_,?_,?_⟩;all_goals first|omega|(simp;omega)|(rw[<-hx];simp;done)|(simp[dz];done))
   | (refine⟨_,by omega,i+1,o++[l[i]],true,ab,rfl,?_,?_,?_⟩;all_goals first|omega|(simp;omega)|(rw[<-hx];simp;done)|(simp[dz];done))
   | (refine⟨_,by omega,i+1,o++[l[i]],false,ab,rfl,?_,?_,?_⟩;all_goals first|omega|(simp;omega)|(rw[<-hx];simp;done)|(simp[dz];done))
   | (refine⟨_,by omega,i+1,o++[w],true,ab,rfl,?_,?_,?_⟩;all_goals first|omega|(simp;omega)|(rw[<-hx];simp;done)|(simp[dz];done))
   | (refine⟨_,by omega,i+1,o++[w],false,ab,rfl,?_,?_,?_⟩;all_goals first|omega|(simp;omega)|(rw[<-hx];simp;done)|(simp[dz];done))
   | (refine⟨_,by omega,i+1,o++[w]++[l[i]],true,ab,rfl,?_,?_,?_⟩;all_goals first|omega|(simp;omega)|(rw[<-hx];simp;done)|(simp[dz];done))
   | (refine⟨_,by omega,i+1,o++[w]++[l[i]],false,ab,rfl,?_,?_,?_⟩;all_goals first|omega|(simp;omega)|(rw[<-hx];simp;done)|(simp[dz];done))
 have hi:i=l.length:=by omega
 subst hi;have ah:¬((l.length:Int)<(l.length:Int)):=by omega
 rw[List.drop_length]at hx;have ha:∀x,_:=fun x=>ed (E:=dz) (l:=o) (xs:=[x]) (b:=8) (n:=1000) (by simp;omega) (by omega) (by omega)
 refine aA ah ?_;cases put
 ·refine Ey ha ?_;simp only[jg,Bool.false_eq_true,if_false]at hx;rw[<-hx];simp[dz]
 simp -implicitDefEqProofs only[go_sem,aV];simp only[jg,if_true,List.append_nil]at hx;rw[<-hx];try simp
def Ed:List AV:=[vI 0,vI 0,vI 0,vI 0,vI 0,.sc (.int .u64 0),.sc (.int .u64 0),.sc (.int .u64 0),.sc (.int .u64 0),.aG,vI 0,.sc (.int .u64 0),.sc (.int .u64 0),.sc (.int .u64 0),.sc (.int .u64 0),.aG,.aG,.aG]
attribute [go_sem] Ed
def cW.base (c:bw):cW:=⟨c,[],[],[]⟩
def qt (c:bw) (w:Int):cW:=
 if ((qs c.bj w).length:Int)<c.eH then⟨{c with bj:=qs c.bj w},[],[],[]⟩
 else⟨{c with phase:=0,goal:=.zero,bj:=[],aP:=c.goal},[],[],[c.goal]⟩
theorem Vi (c:bw) (w:Int) (hl:c.bj.length<=100):aY Tryz.prog 243 [] [c.ro,vI w] (qt c w).tt (qt c w).sA:=by
 refine aF Dp false Tryz.f243 ?_;conv=>enter[1];reduce
 refine bI Tryz.f243 40 [.cell 4 206] (by kernel_rfl) (by decide +kernel) rfl ?_;refine au ?_;refine ep (Ao c hl) ?_;refine aq.intro (af6 c.bj w hl) ?_;unfold qt;refine au ?_;refine bX (fun h=>?_) (fun h=>?_)
 ·rw[if_pos (of_decide_eq_true h)];exact eE h
 rw[if_neg (of_decide_eq_false h)];refine aA h ?_;rfl
def qN (a b:cg):Bool:=a.size==b.size&&(((a.root.a:Int)==b.root.a)&&(((a.root.b:Int)==b.root.b)&&(((a.root.c:Int)==b.root.c)&&((a.root.d:Int)==b.root.d))))
def zy (c:bw) (p:cg):aJ:=⟨3,c.bU,0,p.size,p.root,0,[],[]⟩
def qq (c:bw) (me:Int) (p:cg):cW:=
 if p.size=0\/p.size<c.aP.size\/qN p c.aP=true then .base c
 else if p.size=c.aP.size then⟨c,[],[⟨1,0,c.aP,p,0⟩],[]⟩
 else⟨{c with phase:=2,goal:=p},(List.range c.many.toNat).map (fun i:Nat=>aC.mk me ((i:Int)+1) (gy (zy c p))),[],[]⟩
theorem Vj (c:bw) (me:Int) (m:aJ) (hl:c.bj.length<=100) (hm:c.many<=100) (hr:m.root.ok):aY Tryz.prog 242 [] [c.ro,vI me,m.ro] (qq c me ⟨m.size,m.root⟩).tt (qq c me ⟨m.size,m.root⟩).sA:=by
 refine aF Dp false Tryz.f242 ?_;conv=>enter[1];reduce
 refine bI Tryz.f242 79 [.cell 6 206] (by kernel_rfl) (by decide +kernel) rfl ?_;refine au ?_;refine aE.intro (Ao c hl) ?_;unfold qq;by_cases a:m.size=0
 ·have a':(m.size==0)=true:=by simpa using a
  rw[if_pos (.inl a)];simp -implicitDefEqProofs only[go_sem,a',eD,aT,cW.base]
 have a':(m.size==0)=false:=by simpa using a
 by_cases b:m.size<c.aP.size
 ·rw[if_pos (.inr (.inl b))];simp -implicitDefEqProofs only[go_sem,a',b,bW,eD,aT,cW.base]
 cases e:qN ⟨m.size,m.root⟩ c.aP with
 | true=>
  rw[if_pos (.inr (.inr rfl))];have e':(m.size==c.aP.size&&(((m.root.a:Int)==c.aP.root.a)&&(((m.root.b:Int)==c.aP.root.b)&&(((m.root.c:Int)==c.aP.root.c)&&((m.root.d:Int)==c.aP.root.d)))))=true:=e;simp -implicitDefEqProofs only[go_sem,a',b,e',bW,aT,cW.base]
 | false=>
  rw[if_neg (by simp only[not_or];exact⟨a,b,by simp⟩)];have e':(m.size==c.aP.size&&(((m.root.a:Int)==c.aP.root.a)&&(((m.root.b:Int)==c.aP.root.b)&&(((m.root.c:Int)==c.aP.root.c)&&((m.root.d:Int)==c.aP.root.d)))))=false:=e;by_cases d:m.size=c.aP.size
  ·have d':(m.size==c.aP.size)=true:=by simpa using d
   rw[if_pos d];simp only[d',Bool.true_and]at e';simp -implicitDefEqProofs only[go_sem,a',b,e',d',bW,aT,aV];try rfl
  have d':(m.size==c.aP.size)=false:=by simpa using d
  rw[if_neg d];simp -implicitDefEqProofs only[go_sem,a',b,e',d',bW,aT,aV];generalize hF:(fun i:Nat=>aC.mk me ((i:Int)+1) (gy (zy c ⟨m.size,m.root⟩)))=F;have hv:=wL (zy c ⟨m.size,m.root⟩) rfl rfl hr;refine mj [(16007,3)] (fun x s=>∃i:Nat,i<=c.many.toNat/\x=c.many.toNat - i/\s=⟨79,[(1,vI me),(3,.ptr 3 0 [] 15 0 0),(6,.ptr 6 0 [] 18 0 0),(7,.ptr 7 0 [] 18 0 0),(9,.ptr 9 0 [] 11 0 0),(10,vI ((i:Int)+1))],[(3,0,one ⟨15,[c.cs (.ro 1 (c.bj.map dz))],0,false⟩),(6,0,one ⟨18,[Ed],0,false⟩),(7,0,one ⟨18,[cW.cs ⟨{c with phase:=2,goal:=⟨m.size,m.root⟩},[],[],[]⟩ (.aw 10007 0 [] 1 0 c.bj.length) (.aw 20007 0 [] 3 0 ((List.range i).map F).length) .aG .aG],0,false⟩),(10007,0,one c.ar),(20007,0,one ⟨3,((List.range i).map F).map aC.cs,2,false⟩),(9,0,one ⟨11,[[vI 3,vI c.bU,vI 0,vI m.size,vU m.root.a,vU m.root.b,vU m.root.c,vU m.root.d,vI 0,.aG,.aG]],0,false⟩)],1⟩) c.many.toNat ?_ ?_
  ·refine au ?_;exact⟨0,aR _,rfl,rfl⟩
  rintro x s ⟨i,hi,rfl,rfl⟩;rcases bp i c.many.toNat with ab|bM
  ·have ah:(i:Int)+1<=c.many:=by omega
   have w1:IntKind.i64.wrap ((i:Int)+1+1)=((i+1:Nat):Int)+1:=by rw[aN (by omega)];omega
   have ha:∀x,_:=fun x=>ed (E:=aC.cs) (l:=(List.range i).map F) (xs:=[x]) (b:=32) (n:=1000) (by simp;omega) (by omega) (by omega)
   refine aA ah ?_;refine aq.intro hv ?_;refine b8 ha w1 ?_;refine⟨_,by omega,i+1,ab,rfl,?_⟩;rw[List.range_succ,List.map_append,List.map_cons,List.map_nil,<-hF];simp only[gj,aC.cs];try rfl
  have hi:i=c.many.toNat:=by omega
  subst hi;have ah:¬((c.many.toNat:Int)+1<=c.many):=by omega
  exact eE ah
end
theorem WI (w:Int):∀l,jg w l true=l.filter (· != w)
 | []=>rfl
 | a::l=>by
  simp only[jg,Bool.not_true,Bool.false_and,Bool.false_eq_true,if_false,List.nil_append,Bool.true_or,WI w l,List.filter_cons];split<;>simp
theorem HZ {w a:Int}{l:List Int}(h:a>=w):jg w (a::l) false=w::(a::l).filter (· != w):=by
 simp only[jg,Bool.not_false,Bool.true_and,h,decide_true,if_true,Bool.false_or,WI,List.filter_cons];split<;>simp
theorem HY {w a:Int}{l:List Int}(h:a<w):jg w (a::l) false=a::jg w l false:=by
 have h1:¬a>=w:=by omega
 have h2:(a != w)=true:=by rw[bne_iff_ne];omega
 simp only[jg,Bool.not_false,Bool.true_and,h1,decide_false,Bool.false_eq_true,if_false,Bool.false_or,h2,if_true,List.nil_append,List.singleton_append]
theorem Nx (w x:Int):∀l,x∈jg w l false<->x=w\/x∈l
 | []=>by simp[jg]
 | a::l=>by
  by_cases h:a>=w
  ·rw[HZ h,List.mem_cons,List.mem_filter,bne_iff_ne];by_cases e:x=w<;>simp[e]
  rw[HY (by omega),List.mem_cons,Nx w x l,List.mem_cons];exact⟨fun h=>by rcases h with h|h|h<;>simp[h],fun h=>by rcases h with h|h|h<;>simp[h]⟩
theorem WJ (w:Int):∀l:List Int,l.Pairwise (·<·)->(jg w l false).Pairwise (·<·)
 | [],_=>by simp[jg]
 | a::l,hp=>by
  have mS:=List.pairwise_cons.1 hp;by_cases h:a>=w
  ·rw[HZ h];refine List.pairwise_cons.2 ⟨fun x hx=>?_,List.Pairwise.filter _ hp⟩;obtain⟨h1,h2⟩:=List.mem_filter.1 hx;rw[bne_iff_ne]at h2;rcases List.mem_cons.1 h1 with h1|h1
   ·omega
   have:=mS.1 x h1;omega
  rw[HY (by omega)];refine List.pairwise_cons.2 ⟨fun x hx=>?_,WJ w l mS.2⟩;rcases(Nx w x l).1 hx with h1|h1
  ·omega
  exact mS.1 x h1
theorem TG {w:Int}{l:List Int}(h:¬w∈l):l.filter (· != w)=l:=
 List.filter_eq_self.2 fun x hx=>by rw[bne_iff_ne];exact fun e=>h (e▸hx)
theorem WM {w:Int}:∀l:List Int,l.Pairwise (·<·)->w∈l->jg w l false=l
 | a::l,hp,hw=>by
  have mS:=List.pairwise_cons.1 hp;by_cases h:a>=w
  ·have e:a=w:=by
    rcases List.mem_cons.1 hw with h1|h1
    ·exact h1.symm
    have:=mS.1 w h1;omega
   subst e;have hn:¬a∈l:=fun h1=>by have:=mS.1 a h1;omega
   rw[HZ h,List.filter_cons,if_neg (by simp),TG hn]
  have h1:w∈l:=by
   rcases List.mem_cons.1 hw with h1|h1
   ·omega
   exact h1
  rw[HY (by omega),WM l mS.2 h1]
theorem WK {w:Int}:∀l:List Int,¬w∈l->(jg w l false).length=l.length+1
 | [],_=>rfl
 | a::l,hw=>by
  by_cases h:a>=w
  ·rw[HZ h,TG hw,List.length_cons]
  rw[HY (by omega),List.length_cons,WK l (fun h1=>hw (List.mem_cons_of_mem _ h1)),List.length_cons]
theorem ah2 {many:Int}{l:List Int}(hp:l.Pairwise (·<·)) (hb:∀x∈l,1<=x/\x<=many):qa many l=true:=by
 rw[Ay];intro i hi;have hm:=cr.2 (hb l[i] (List.getElem_mem hi));cases i with
 | zero=>rw[DQ hi];exact hm
 | succ i=>rw[Az hi,hm,Bool.true_and,decide_eq_true_eq];exact List.pairwise_iff_getElem.1 hp i (i+1) (by omega) hi (by omega)
theorem WD {many:Int}{l:List Int}(h:qa many l=true):l.Pairwise (·<·)/\∀x∈l,1<=x/\x<=many:=by
 rw[Ay]at h;have hb:∀i,(hi:i<l.length)->1<=l[i]/\l[i]<=many:=fun i hi=>by
  have:=h i hi;cases i with
  | zero=>rw[DQ hi]at this;exact cr.1 this
  | succ i=>rw[Az hi,Bool.and_eq_true]at this;exact cr.1 this.1
 refine⟨List.pairwise_iff_getElem.2 ?_,fun x hx=>?_⟩
 ·intro i j hi hj oZ;induction j with
  | zero=>omega
  | succ j ih=>
   have:=h (j+1) hj;rw[Az hj,Bool.and_eq_true,decide_eq_true_eq]at this;rcases bp i j with ab|bM
   ·have:=ih (by omega) ab;omega
   have e:i=j:=by omega
   subst e;exact this.2
 obtain⟨i,hi,rfl⟩:=List.mem_iff_getElem.1 hx;exact hb i hi
theorem ah4 {w:Int}{l:List Int}(hp:l.Pairwise (·<·)):(qs l w).length<=l.length+1:=by
 by_cases hw:w∈l
 ·rw[qs,WM l hp hw];omega
 rw[qs,WK l hw];exact Nat.le_refl _
theorem ah3 {many w:Int}{l:List Int}(h:qa many l=true) (hw:1<=w/\w<=many):qa many (qs l w)=true:=by
 obtain⟨hp,hb⟩:=WD h;exact ah2 (WJ w l hp) fun x hx=>by
  rcases(Nx w x l).1 hx with rfl|hx
  ·exact hw
  exact hb x hx
end Go.Proofs.YtobpfkgabdeefaaGreat.E
