/- Contracts: what the witnesses' disks hold; what is pinned; Contracts: what is pinned when it is quiet; what the monitor has covered then -/
import Derived.Test.YtobpfkgabdeefaaGreatP44
import Derived.Test.YtobpfkgabdeefaaGreatP42
namespace Go.Proofs.YtobpfkgabdeefaaGreat.E
open Go Go.RowKit
set_option maxHeartbeats 4000000
set_option maxRecDepth 10000
set_option linter.unusedSimpArgs false
set_option linter.unusedVariables false
set_option linter.unusedSectionVars false
section
def Dm:bX:=⟨[(33,.cm [false,false]),(34,.cm [false,false])],[9,10,11],[24,26,30,44,47,50,51,52,57,58,59,62,76,88,138,185,186,187,253,254,297,311],false⟩
attribute [-go_sem] ei oS
@[go_sem] theorem fd2:oS Tryz.prog 64 2=some 50:=by kernel_rfl
theorem aag (l:List bh):fp 5 (l.map bh.cs)=true:=by
 induction l with
 | nil=>rfl
 | cons a l ih=>simp only[List.map_cons,fp,ih,bh.cs];rfl
theorem aah (l:List bh):dx (l.map bh.cs)=2:=by
 induction l with
 | nil=>rfl
 | cons a l ih=>simp only[List.map_cons,dx,ih,bh.cs];rfl
attribute [go_sem] aag aah
def mI (l:List bE):List bh:=l.map fun x=>cH x.aH
def gH (l:List bu):List bh:=l.map bu.aP
theorem zX (l:List bE):(mI l).length=l.length:=List.length_map _
theorem uQ (l:List bu):(gH l).length=l.length:=List.length_map _
def tK (w:ai):List bh:=mI w.ah
def oz (w:ai):List bh:=if w.cls=[] then [] else gH w.cls++[w.cD.cl.aP]
theorem zn (l:List bh) (h:l.length≤1000):∀x,(l.map bh.cs++[x]).length≤maxLen∧(l.map bh.cs++[x]).length * 40≤140737488355328:=fun x=>du (E:=bh.cs) (l:=l) (xs:=[x]) (b:=40) (n:=1001) (by simp;omega) (by omega) (by omega)
structure ah0 (w:ai):Prop where
 n:w.ah.length≤5
 c:w.cls.length≤3
 d:∀x∈w.ah,x.aH.ok
theorem wN (s:cK) (l:List aJ):ah0 (gn s l):=by
 unfold gn;split
 ·rename_i h;unfold FV at h;simp only[Bool.and_eq_true,List.all_eq_true]at h;have hv:=wu (BT h.1) h.2.2;have hs:=d7 hv.so;have h1:=hv.nw;have h2:=hv.nc;exact⟨by omega,by omega,fun x hx=>(hv.wt x hx).1⟩
 exact⟨aQ _,aQ _,fun x hx=>(by cases hx)⟩
theorem My (l:List bh) (hl:l.length * 40≤140737488355328):aR Tryz.prog 63 [.ro 5 (l.map bh.cs)] (.au 0 0 [] 5 0 l.length) [([],⟨5,l.map bh.cs,2,false⟩)]:=by
 refine aA Dm false Tryz.f63 ?_;conv=>enter[1];reduce
 refine bf Tryz.f63 14 [.tmp 2] (by kernel_rfl) (by decide +kernel) rfl ?_;refine aw ?_;refine b8 (fun h=>?_) (fun h=>?_)
 ·have:l=[]:=by simpa using h
  subst this;exact dt
 have hm:=mm hl (by omega);have hJ:((40:Nat):Int) * (l.length:Int)≤281474976710656∧(l.length:Int)≤9223372036854775807:=by unfold maxLen at hm;omega
 exact rN h hJ
theorem SM (l:List bE) {i:Nat}(h:i<l.length):mI (l.take (i+1))=mI (l.take i)++[cH l[i].aH]:=by
 unfold mI;rw[List.take_succ_eq_append_getElem h,List.map_append];rfl
theorem Ql (l:List bu) {i:Nat}(h:i<l.length):gH (l.take (i+1))=gH (l.take i)++[l[i].aP]:=by
 unfold gH;rw[List.take_succ_eq_append_getElem h,List.map_append];rfl
theorem Qk (L:List bh) (p:bh):List.map bh.cs L++[[vI p.size,vU p.root.a,vU p.root.b,vU p.root.c,vU p.root.d]]=List.map bh.cs (L++[p])∧L.length+1=(L++[p]).length:=⟨by rw[List.map_append];rfl,by rw[List.length_append];rfl⟩
theorem ago (s:cK) (l:List aJ) (hl:l.length≤maxLen):aR Tryz.prog 19 [.agg s.cs,.ro 4 (l.map aJ.aO)] (.au 0 0 [] 5 0 (tK (gn s l)).length) [([],⟨5,(tK (gn s l)).map bh.cs,2,false⟩)]:=by
 refine aA Dm false Tryz.f19 ?_;conv=>enter[1];reduce
 refine bf Tryz.f19 26 [.tmp 4] (by kernel_rfl) (by decide +kernel) rfl ?_;have hp:=Hy s l hl;have hf:=wN s l;unfold tK;generalize gn s l=w at *;have hn:=hf.n;have hm:w.ah.length≤maxLen:=by unfold maxLen;omega
 refine aw ?_;refine eP hp ?_;refine jX [(5,5)] (fun m z=>∃(i:Nat),i≤w.ah.length∧m=w.ah.length - i∧z=⟨26,[(5,.au 5 0 [] 5 0 (mI (w.ah.take i)).length),(11,.ro 15 (w.ah.map bE.rc)),(12,vI w.ah.length),(13,vI i)],[(5,0,one ⟨5,(mI (w.ah.take i)).map bh.cs,2,false⟩)],1⟩) w.ah.length ?_ ?_
 ·refine aw ?_;exact⟨0,aQ _,rfl,rfl⟩
 rintro m z ⟨i,hi,rfl,rfl⟩;rcases bm i w.ah.length with ab|bH
 ·have ae:(i:Int)<(w.ah.length:Int):=by omega
  have hg:w.ah[i]?=some w.ah[i]:=bz ab;have hw:=df ab hm;have hh:=Hw w.ah[i].aH (hf.d _ (List.getElem_mem ab));have ej:=zn (mI (w.ah.take i)) (by simp only[zX,uQ,List.length_take];omega);have jr:=SM w.ah ab;generalize w.ah[i]=y at *;generalize mI (w.ah.take i)=L at *;generalize cH y.aH=p at *;simp -implicitDefEqProofs only[go_sem,ae,hg,bE.rc];refine qG hh hw ej ?_;refine⟨_,by omega,i+1,ab,rfl,?_⟩;rw[jr];simp only[gj,bh.cs];try rfl
 have hi:i=w.ah.length:=by omega
 cases hi;have ae:¬((w.ah.length:Int)<(w.ah.length:Int)):=by omega
 rw[List.take_length];have hlen:(mI w.ah).length=w.ah.length:=zX _;have hc:=My (mI w.ah) (by rw[hlen];omega);generalize (mI w.ah)=L at *;refine aC ae ?_;refine aq.intro hc ?_;exact dt
theorem agB (s:cK) (l:List aJ) (hl:l.length≤maxLen):aR Tryz.prog 16 [.agg s.cs,.ro 4 (l.map aJ.aO)] (.au 0 0 [] 5 0 (tK (gn s l)).length) [([],⟨5,(tK (gn s l)).map bh.cs,2,false⟩)]:=by
 refine aA Dm false Tryz.f16 ?_;conv=>enter[1];reduce
 refine bf Tryz.f16 30 [.tmp 4] (by kernel_rfl) (by decide +kernel) rfl ?_;have hp:=Hx s l hl;have hf:=wN s l;unfold tK;generalize gn s l=w at *;have hn:=hf.n;have hm:w.ah.length≤maxLen:=by unfold maxLen;omega
 refine aw ?_;refine eP hp ?_;refine cR (fun m z=>∃(i:Nat),i≤w.ah.length∧m=w.ah.length - i∧z=⟨30,[(5,.ptr 5 0 [] 35 0 0),(6,.au 6 0 [] 5 0 (mI (w.ah.take i)).length),(7,vI i)],[(5,0,one ⟨35,[sU w (.ro 15 (w.ah.map bE.rc)) (.ro 15 (w.cls.map bu.rc)) (.ro 1 (w.up.map dq)) (.ro 1 (w.bx.map fun b=>[AV.ro 3 b])) (.ro 16 (w.book.map dy.cs))],0,false⟩),(6,0,one ⟨5,(mI (w.ah.take i)).map bh.cs,2,false⟩)],1⟩) w.ah.length ?_ ?_
 ·refine aw ?_;exact⟨0,aQ _,rfl,rfl⟩
 rintro m z ⟨i,hi,rfl,rfl⟩;rcases bm i w.ah.length with ab|bH
 ·have ae:(i:Int)<(w.ah.length:Int):=by omega
  have hg:w.ah[i]?=some w.ah[i]:=bz ab;have hw:=df ab hm;have hh:=Dw w.ah[i].aH (hf.d _ (List.getElem_mem ab));have ej:=zn (mI (w.ah.take i)) (by simp only[zX,uQ,List.length_take];omega);have jr:=SM w.ah ab;generalize w.ah[i]=y at *;generalize mI (w.ah.take i)=L at *;generalize cH y.aH=p at *;simp -implicitDefEqProofs only[go_sem,ae,hg,bE.rc];refine qG hh hw ej ?_;refine⟨_,by omega,i+1,ab,rfl,?_⟩;rw[jr];simp only[gj,bh.cs];try rfl
 have hi:i=w.ah.length:=by omega
 cases hi;have ae:¬((w.ah.length:Int)<(w.ah.length:Int)):=by omega
 rw[List.take_length];generalize (mI w.ah)=L at *;exact er ae
theorem U9 (s:cK) (l:List aJ) (hl:l.length≤maxLen):aR Tryz.prog 26 [.agg s.cs,.ro 4 (l.map aJ.aO)] (.au 0 0 [] 5 0 (oz (gn s l)).length) [([],⟨5,(oz (gn s l)).map bh.cs,2,false⟩)]:=by
 refine aA Dm false Tryz.f26 ?_;conv=>enter[1];reduce
 refine bf Tryz.f26 37 [.tmp 4] (by kernel_rfl) (by decide +kernel) rfl ?_;have hp:=Hy s l hl;have hf:=wN s l;unfold oz;generalize gn s l=w at *;have hn:=hf.c;have hm:w.cls.length≤maxLen:=by unfold maxLen;omega
 by_cases hz:w.cls=[]
 ·rw[if_pos hz];refine aw ?_;refine aD.intro hp ?_;have jd:(((0:Nat):Int)==0)=true:=rfl;exact dk hz jd
 rw[if_neg hz];have gZ:0<w.cls.length:=List.length_pos_iff.2 hz;have jd:((w.cls.length:Int)==0)=false:=by rw[beq_eq_false_iff_ne];omega
 refine aw ?_;refine il hp jd ?_;refine jX [(6,5)] (fun m z=>∃(i:Nat),i≤w.cls.length∧m=w.cls.length - i∧z=⟨37,[(5,.ptr 5 0 [] 35 0 0),(6,.au 6 0 [] 5 0 (gH (w.cls.take i)).length),(17,.ro 15 (w.cls.map bu.rc)),(18,vI w.cls.length),(19,vI i)],[(5,0,one ⟨35,[sU w (.ro 15 (w.ah.map bE.rc)) (.ro 15 (w.cls.map bu.rc)) (.ro 1 (w.up.map dq)) (.ro 1 (w.bx.map fun b=>[AV.ro 3 b])) (.ro 16 (w.book.map dy.cs))],0,false⟩),(6,0,one ⟨5,(gH (w.cls.take i)).map bh.cs,2,false⟩)],1⟩) w.cls.length ?_ ?_
 ·refine aw ?_;exact⟨0,aQ _,rfl,rfl⟩
 rintro m z ⟨i,hi,rfl,rfl⟩;rcases bm i w.cls.length with ab|bH
 ·have ae:(i:Int)<(w.cls.length:Int):=by omega
  have hg:w.cls[i]?=some w.cls[i]:=bz ab;have hw:=df ab hm;have ej:=zn (gH (w.cls.take i)) (by simp only[zX,uQ,List.length_take];omega);have jr:=Ql w.cls ab;generalize w.cls[i]=y at *;generalize gH (w.cls.take i)=L at *;simp -implicitDefEqProofs only[go_sem,ae,hg,bu.rc,hw,ej];refine⟨_,by omega,i+1,ab,rfl,?_⟩;rw[jr];simp only[gj,bh.cs];try rfl
 have hi:i=w.cls.length:=by omega
 cases hi;have ae:¬((w.cls.length:Int)<(w.cls.length:Int)):=by omega
 rw[List.take_length];have hlen:(gH w.cls).length=w.cls.length:=uQ _;have ej:=zn (gH w.cls) (by rw[hlen];omega);have hc:=My (gH w.cls++[w.cD.cl.aP]) (by rw[List.length_append,hlen];simp;omega);obtain⟨mH,jZ⟩:=Qk (gH w.cls) w.cD.cl.aP;have LK:(gH w.cls++[w.cD.cl.aP]).length≤maxLen∧(gH w.cls++[w.cD.cl.aP]).length * 40≤140737488355328:=by
  rw[←jZ,hlen];unfold maxLen;omega
 generalize gH w.cls++[w.cD.cl.aP]=R at *;generalize gH w.cls=L at *;refine eI ae mH jZ LK ?_;refine aq.intro hc ?_;exact dt
theorem Va (s:cK) (l:List aJ) (hl:l.length≤maxLen):aR Tryz.prog 25 [.agg s.cs,.ro 4 (l.map aJ.aO)] (.au 0 0 [] 5 0 (oz (gn s l)).length) [([],⟨5,(oz (gn s l)).map bh.cs,2,false⟩)]:=by
 refine aA Dm false Tryz.f25 ?_;conv=>enter[1];reduce
 refine bf Tryz.f25 39 [.tmp 4] (by kernel_rfl) (by decide +kernel) rfl ?_;have hp:=Hx s l hl;have hf:=wN s l;unfold oz;generalize gn s l=w at *;have hn:=hf.c;have hm:w.cls.length≤maxLen:=by unfold maxLen;omega
 refine aw ?_;refine eP hp ?_;refine cR (fun m z=>∃(i:Nat),i≤w.cls.length∧m=w.cls.length - i∧z=⟨39,[(5,.ptr 5 0 [] 35 0 0),(6,.au 6 0 [] 5 0 (gH (w.cls.take i)).length),(7,vI i)],[(5,0,one ⟨35,[sU w (.ro 15 (w.ah.map bE.rc)) (.ro 15 (w.cls.map bu.rc)) (.ro 1 (w.up.map dq)) (.ro 1 (w.bx.map fun b=>[AV.ro 3 b])) (.ro 16 (w.book.map dy.cs))],0,false⟩),(6,0,one ⟨5,(gH (w.cls.take i)).map bh.cs,2,false⟩)],1⟩) w.cls.length ?_ ?_
 ·refine aw ?_;exact⟨0,aQ _,rfl,rfl⟩
 rintro m z ⟨i,hi,rfl,rfl⟩;rcases bm i w.cls.length with ab|bH
 ·have ae:(i:Int)<(w.cls.length:Int):=by omega
  have hg:w.cls[i]?=some w.cls[i]:=bz ab;have hw:=df ab hm;have ej:=zn (gH (w.cls.take i)) (by simp only[zX,uQ,List.length_take];omega);have jr:=Ql w.cls ab;generalize w.cls[i]=y at *;generalize gH (w.cls.take i)=L at *;simp -implicitDefEqProofs only[go_sem,ae,hg,bu.rc,hw,ej];refine⟨_,by omega,i+1,ab,rfl,?_⟩;rw[jr];simp only[gj,bh.cs];try rfl
 have hi:i=w.cls.length:=by omega
 cases hi;have ae:¬((w.cls.length:Int)<(w.cls.length:Int)):=by omega
 rw[List.take_length];have hlen:(gH w.cls).length=w.cls.length:=uQ _;have ej:=zn (gH w.cls) (by rw[hlen];omega);by_cases hz:w.cls=[]
 ·rw[if_pos hz];have jd:¬(((0:Nat):Int)>0):=by decide
  have acT:¬(((0:Nat):Int)<((0:Nat):Int)):=by decide
  have sy:gH []=[]:=rfl;rw[hz];simp -implicitDefEqProofs only[go_sem,hz,acT,sy,jd];try rfl
 rw[if_neg hz];have gZ:0<w.cls.length:=List.length_pos_iff.2 hz;have jd:((gH w.cls).length:Int)>0:=by omega
 obtain⟨mH,jZ⟩:=Qk (gH w.cls) w.cD.cl.aP;have LK:(gH w.cls++[w.cD.cl.aP]).length≤maxLen∧(gH w.cls++[w.cD.cl.aP]).length * 40≤140737488355328:=by
  rw[←jZ,hlen];unfold maxLen;omega
 generalize gH w.cls++[w.cD.cl.aP]=R at *;generalize gH w.cls=L at *;simp -implicitDefEqProofs only[go_sem,ae,jd,mH,jZ,LK]
end
section
def Hi:bX:=⟨[(33,.cm [false,false]),(34,.cm [false,false]),(57,.cm [false]),(68,.cm [false]),(69,.cm [false,false])],[9,10,11],[24,26,30,44,47,50,51,52,57,58,59,62,76,88,138,185,186,187,253,254,297,311],false⟩
attribute [-go_sem] ei oS
@[go_sem] theorem fd1:oS Tryz.prog 64 1=some 49:=by kernel_rfl
@[go_sem] theorem ajg:oS Tryz.prog 49 0=some 47:=by kernel_rfl
@[go_sem] theorem fd4:oS Tryz.prog 64 4=some 56:=by kernel_rfl
@[go_sem] theorem ajf:oS Tryz.prog 56 2=some 41:=by kernel_rfl
def um (l:List bh):List bh:=l.take (l.length - 1)
def r9 (s:cK) (l:List aJ):List bh:=if l.length>600 then [] else um (oz (gn s (l++fH s)))
theorem Mv (l:List bh):(um l).length=l.length - 1:=by
 unfold um;rw[List.length_take];omega
theorem Gb {s:cK}{l:List aJ}(h:l.length≤600):l.length+(fH s).length≤1000000000000∧(l++fH s).length≤1000:=by
 have:=abq s;rw[List.length_append];omega
theorem Kd (s:cK) (l:List aJ):(oz (gn s l)).length≤100:=by
 have:=(wN s l).c;unfold oz;split
 ·exact aQ _
 rw[List.length_append,uQ];simp;omega
theorem aR.ro {P:Program}{n sz L:Nat}{args:List AV}{es:List (List AV)}(h:aR P n args (.au 0 0 [] sz 0 L) [([],⟨sz,es,2,false⟩)]) (ha:Pj args=true) (hL:es.length=L):bb P n [] args (.ro sz es) []:=by
 subst hL;have hs:sub 0 es.length es=es:=by simp[sub]
 have hf:∃σ',jg (kK [([],⟨sz,es,2,false⟩)]) (.au 0 0 [] sz 0 es.length)=some (σ',.ro sz es):=by
  have hb:Nat.ble es.length es.length=true:=Nat.ble_eq_true_of_le (Nat.le_refl _);simp[jg,ic,rk,kK,bI,kQ,hs,hb,lX]
 obtain⟨σ',hf⟩:=hf;exact aR.val h ha hf
theorem afH (s:cK) (l:List aJ) (hl:l.length≤maxLen):aR Tryz.prog 31 [.agg s.cs,.ro 4 (l.map aJ.aO)] (.au 0 0 [] 5 0 (r9 s l).length) [([],⟨5,(r9 s l).map bh.cs,2,false⟩)]:=by
 refine aA Hi false Tryz.f31 ?_;conv=>enter[1];reduce
 refine bf Tryz.f31 25 [.tmp 4] (by kernel_rfl) (by decide +kernel) rfl ?_;by_cases h:l.length>600
 ·have h':((l.length:Int)>600):=by omega
  have hm:r9 s l=[]:=if_pos h;exact dk h' hm
 have h':¬((l.length:Int)>600):=by omega
 obtain⟨hj,hb⟩:=Gb (s:=s) (Nat.le_of_not_gt h);have k1:bb Tryz.prog 57 [] [.agg s.cs] (.ro 4 ((fH s).map aJ.aO)) []:=(UT s).ro rfl (List.length_map _);have k2:bb Tryz.prog 68 [] [.ro 1 [[.ro 4 (l.map aJ.aO)],[.ro 4 ((fH s).map aJ.aO)]]] (.ro 4 ((l++fH s).map aJ.aO)) []:=(MI l (fH s) hj).ro rfl (List.length_map _);have k3:=U9 s (l++fH s) (by unfold maxLen;omega);have hn:=Kd s (l++fH s);unfold r9;rw[if_neg h];generalize oz (gn s (l++fH s))=R at *;generalize l++fH s=A at *;refine aC h' ?_;refine eP k1 ?_;refine eP k2 ?_;refine aq.intro k3 ?_;by_cases hz:R=[]
 ·subst hz;have jd:(((0:Nat):Int)==0)=true:=rfl;simp -implicitDefEqProofs only[go_sem,jd,um]
 have gZ:0<R.length:=List.length_pos_iff.2 hz;have jd:((R.length:Int)==0)=false:=by rw[beq_eq_false_iff_ne];omega
 have hw:IntKind.i64.wrap ((R.length:Int) - 1)=((R.length - 1:Nat):Int):=by rw[aV (by omega)];omega
 have tT:((R.length - 1:Nat):Int)≤(R.length:Int):=by omega
 have hc:=My (um R) (by rw[Mv];omega);have dT:(um R).length=R.length - 1:=Mv R;have t7:∀{α:Type} (x:Option α),kQ (R.length - 1) R.length x=x:=fun x=>by
  unfold kQ;rw[Nat.ble_eq_true_of_le (Nat.sub_le _ _)]
 have Ly:List.take (R.length - 1) R=um R:=rfl;simp -implicitDefEqProofs only[go_sem,jd,hw,tT,Nat.sub_zero,t7,Ly];rw[dT]at hc ⊢;refine aq.intro hc ?_;exact er dT
theorem afK (s:cK) (l:List aJ) (hl:l.length≤maxLen):bb Tryz.prog 30 [] [.agg s.cs,.ro 4 (l.map aJ.aO)] (.ro 5 ((r9 s l).map bh.cs)) []:=by
 refine aA Hi false Tryz.f30 ?_;conv=>enter[1];reduce
 refine bT Tryz.f30 25 [.tmp 4] (by kernel_rfl) (by decide +kernel) rfl ?_;by_cases h:l.length>600
 ·have h':((l.length:Int)>600):=by omega
  have hm:r9 s l=[]:=if_pos h;simp -implicitDefEqProofs only[go_sem,h',hm];try rfl
 have h':¬((l.length:Int)>600):=by omega
 obtain⟨hj,hb⟩:=Gb (s:=s) (Nat.le_of_not_gt h);have k1:=US s;have k2:=MJ l (fH s) hj;have k3:=Va s (l++fH s) (by unfold maxLen;omega);have hn:=Kd s (l++fH s);unfold r9;rw[if_neg h];generalize oz (gn s (l++fH s))=R at *;generalize l++fH s=A at *;refine aC h' ?_;refine cz k1 ?_;refine cz k2 ?_;refine aq.intro k3 ?_;by_cases hz:R=[]
 ·subst hz;have jd:(((0:Nat):Int)==0)=true:=rfl;simp -implicitDefEqProofs only[go_sem,jd,um];try rfl
 have gZ:0<R.length:=List.length_pos_iff.2 hz;have jd:((R.length:Int)==0)=false:=by rw[beq_eq_false_iff_ne];omega
 have hw:IntKind.i64.wrap ((R.length:Int) - 1)=((R.length - 1:Nat):Int):=by rw[aV (by omega)];omega
 have tT:((R.length - 1:Nat):Int)≤(R.length:Int):=by omega
 have t7:∀{α:Type} (x:Option α),kQ (R.length - 1) R.length x=x:=fun x=>by
  unfold kQ;rw[Nat.ble_eq_true_of_le (Nat.sub_le _ _)]
 have Ly:List.take (R.length - 1) R=um R:=rfl;simp -implicitDefEqProofs only[go_sem,jd,hw,tT,Nat.sub_zero,t7,Ly];try rfl
def xj (s:cK) (l:List aJ):bh:=if l.length>600 then⟨0,⟨0,0,0,0⟩⟩ else(gn s ((l++fH s)++jq s (gn s (l++fH s)).log.length)).cD.done
theorem Us {s:cK}{A:List aJ}{n:Int}(h:A.length≤1000):A.length+(jq s n).length≤1000000000000∧(A++jq s n).length≤10000:=by
 have:=abB s n;rw[List.length_append];omega
theorem afU (s:cK) (l:List aJ) (hl:l.length≤maxLen):aR Tryz.prog 28 [.agg s.cs,.ro 4 (l.map aJ.aO)] (.agg (xj s l).cs) []:=by
 refine aA Hi false Tryz.f28 ?_;conv=>enter[1];reduce
 refine bf Tryz.f28 32 [.cell 4 41] (by kernel_rfl) (by decide +kernel) rfl ?_;by_cases h:l.length>600
 ·have h':((l.length:Int)>600):=by omega
  have hm:xj s l=⟨0,⟨0,0,0,0⟩⟩:=if_pos h;simp -implicitDefEqProofs only[go_sem,h',hm];try rfl
 have h':¬((l.length:Int)>600):=by omega
 obtain⟨hj,hb⟩:=Gb (s:=s) (Nat.le_of_not_gt h);have k1:bb Tryz.prog 57 [] [.agg s.cs] (.ro 4 ((fH s).map aJ.aO)) []:=(UT s).ro rfl (List.length_map _);have k2:bb Tryz.prog 68 [] [.ro 1 [[.ro 4 (l.map aJ.aO)],[.ro 4 ((fH s).map aJ.aO)]]] (.ro 4 ((l++fH s).map aJ.aO)) []:=(MI l (fH s) hj).ro rfl (List.length_map _);unfold xj;rw[if_neg h];generalize l++fH s=A at *;have k3:=Hy s A (by unfold maxLen;omega);generalize gn s A=w at *;obtain⟨ql,j5⟩:=Us (s:=s) (n:=w.log.length) hb;have k4:bb Tryz.prog 69 [] [.agg s.cs,vI w.log.length] (.ro 4 ((jq s w.log.length).map aJ.aO)) []:=(afw s w.log.length).ro rfl (List.length_map _);have k5:bb Tryz.prog 68 [] [.ro 1 [[.ro 4 (A.map aJ.aO)],[.ro 4 ((jq s w.log.length).map aJ.aO)]]] (.ro 4 ((A++jq s w.log.length).map aJ.aO)) []:=(MI A (jq s w.log.length) ql).ro rfl (List.length_map _);have k6:=Hy s (A++jq s w.log.length) (by unfold maxLen;omega);generalize A++jq s w.log.length=D at *;generalize gn s D=v at *;refine aC h' ?_;refine eP k1 ?_;refine eP k2 ?_;refine eP k3 ?_;refine eP k4 ?_;refine eP k5 ?_;refine aD.intro k6 ?_;simp -implicitDefEqProofs only[go_sem,cQ.rc,cQ.cs,bu.cs,List.cons_append,List.nil_append];try rfl
theorem afW (s:cK) (l:List aJ) (hl:l.length≤maxLen):aR Tryz.prog 27 [.agg s.cs,.ro 4 (l.map aJ.aO)] (.agg (xj s l).cs) []:=by
 refine aA Hi false Tryz.f27 ?_;conv=>enter[1];reduce
 refine bf Tryz.f27 30 [.cell 4 41] (by kernel_rfl) (by decide +kernel) rfl ?_;by_cases h:l.length>600
 ·have h':((l.length:Int)>600):=by omega
  have hm:xj s l=⟨0,⟨0,0,0,0⟩⟩:=if_pos h;simp -implicitDefEqProofs only[go_sem,h',hm];try rfl
 have h':¬((l.length:Int)>600):=by omega
 obtain⟨hj,hb⟩:=Gb (s:=s) (Nat.le_of_not_gt h);have k1:=US s;have k2:=MJ l (fH s) hj;unfold xj;rw[if_neg h];generalize l++fH s=A at *;have k3:=Hx s A (by unfold maxLen;omega);generalize gn s A=w at *;obtain⟨ql,j5⟩:=Us (s:=s) (n:=w.log.length) hb;have k4:=afy s w.log.length;have k5:=MJ A (jq s w.log.length) ql;have k6:=Hx s (A++jq s w.log.length) (by unfold maxLen;omega);generalize A++jq s w.log.length=D at *;generalize gn s D=v at *;refine aC h' ?_;refine cz k1 ?_;refine cz k2 ?_;refine eP k3 ?_;refine cz k4 ?_;refine cz k5 ?_;refine aD.intro k6 ?_;simp -implicitDefEqProofs only[go_sem,cQ.rc,cQ.cs,bu.cs,List.cons_append,List.nil_append];try rfl
end
end Go.Proofs.YtobpfkgabdeefaaGreat.E
