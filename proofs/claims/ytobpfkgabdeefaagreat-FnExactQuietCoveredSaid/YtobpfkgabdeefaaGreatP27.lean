/- Contracts: what comes of a vouch; what comes of a growth, of a letter, in plain data; Plain law: witnesses that are ok, without places; what was taken of a growth; Plain law: wishes stay in order; Plain law: a witness stays ok, and never holds less; Plain law: the letters of a witness are read back; Plain law: sizes and words of what a witness hears; its raw writes are those of what it keeps; Cont -/
import Derived.Test.YtobpfkgabdeefaaGreatP23
import Derived.Test.YtobpfkgabdeefaaGreatP26
import Derived.Test.YtobpfkgabdeefaaGreatP18
import Derived.Test.YtobpfkgabdeefaaGreatP13
namespace Go.Proofs.YtobpfkgabdeefaaGreat.E
open Go Go.RowKit
set_option linter.unusedSimpArgs false
set_option linter.unusedVariables false
section
set_option maxHeartbeats 4000000
set_option maxRecDepth 10000
set_option linter.unusedSectionVars false
def T5:bX:=⟨[(238,.cm [false]),(274,.cm [false,false])],[9,10,11],[24,26,30,44,47,50,51,52,57,58,59,62,76,88,138,185,186,187,253,254,297,311],false⟩
structure iK where
 i4:bh
 new:bh
 proof:List aW
def iK.cs (k:iK) (a:AV):List AV:=k.i4.cs++(k.new.cs++[a])
structure eS where
 aH:cS
 aS:List bG
 eu:List cL
 kept:Option iK
 bM:List aB
 dI:List ec
def eS.av (h:eS):AV:=.agg (h.aH.cs++[.au 0 0 [] 7 0 h.aS.length,.au 1 0 [] 3 0 h.eu.length,.au 2 0 [] 11 0 h.kept.toList.length,.au 3 0 [] 3 0 h.bM.length,.au 4 0 [] 13 0 h.dI.length])
def Sa:Option iK→Row
 | none=>⟨11,[],2,false⟩
 | some k=>⟨11,[k.cs (.au 5 0 [] 4 0 k.proof.length)],0,false⟩
def R9:Option iK→aj
 | none=>[]
 | some k=>[(5,0,one ⟨4,k.proof.map aW.cs,2,false⟩)]
def eS.out (h:eS):aj:=[(0,0,one ⟨7,h.aS.map bG.cs,2,false⟩),(1,0,one ⟨3,h.eu.map cL.cs,2,false⟩),(2,0,one (Sa h.kept)),(3,0,one ⟨3,h.bM.map aB.cs,2,false⟩),(4,0,one ⟨13,h.dI.map ec.cs,2,false⟩)]++R9 h.kept
def eS.base (w:bE):eS:=⟨w.aH,w.aS,[],none,[],[]⟩
attribute [go_sem] iK.cs eS.av Sa R9 eS.out Option.toList_none Option.toList_some eS.base
def FU (me a b:Int):aB:=⟨me,0,i6 ⟨4,0,a,b,gr,0,[],[]⟩⟩
def jB (w:bE) (held:bh) (me br s:Int) (p:bh):eS:=
 if p.size=0∨p.size<held.size then .base w
 else if ed p held then {eS.base w with bM:=[qU me br s p]}
 else if p.size=held.size then {eS.base w with dI:=[⟨1,br,held,p,0⟩]}
 else if (lV w.aS ⟨br,s,p⟩).length≤8 then {eS.base w with aS:=lV w.aS ⟨br,s,p⟩,bM:=[FU me held.size p.size]}
 else .base w
theorem Kb {l:List bG}(h:l.length≤8) (x:bG):(lV l x).length≤17:=by
 have:=Iv x l;unfold lV;split
 ·omega
 rw[List.length_append];simp;omega
def Lq (w:bE):AV:=.agg (w.aH.cs++[.au 1000000 0 [] 7 0 w.aS.length,.aG,.aG,.aG,.aG])
attribute [go_sem] Lq
theorem agk (w:bE) (held:bh) (me br:Int) (m:aM) (hl:w.aS.length≤8):bb Tryz.prog 214 [(1000000,0,one ⟨7,w.aS.map bG.cs,2,false⟩)] [Lq w,.agg held.cs,vI me,vI br,m.ro] (jB w held me br m.bR ⟨m.size,m.root⟩).av (jB w held me br m.bR ⟨m.size,m.root⟩).out:=by
 refine aA T5 false Tryz.f214 ?_;conv=>enter[1];reduce
 refine bT Tryz.f214 80 [.cell 10 189] (by kernel_rfl) (by decide +kernel) rfl ?_;have sH:=Vb me br m.bR ⟨m.size,m.root⟩;have iG:=af7 w.aS ⟨br,m.bR,⟨m.size,m.root⟩⟩ hl;have gX:=Kb hl ⟨br,m.bR,⟨m.size,m.root⟩⟩;have g9:=Dz me 0 ⟨4,0,held.size,m.size,gr,0,[],[]⟩ rfl rfl;unfold jB;simp only;generalize hA:qU me br m.bR ⟨m.size,m.root⟩=A at *;generalize hW:lV w.aS ⟨br,m.bR,⟨m.size,m.root⟩⟩=W at *;refine aw ?_;by_cases c1:m.size=0
 ·have dU:(m.size==0)=true:=by rw[c1];rfl
  rw[if_pos (.inl c1)];simp -implicitDefEqProofs only[go_sem,dU,bc]
 have dU:(m.size==0)=false:=beq_eq_false_iff_ne.2 c1;by_cases c2:m.size<held.size
 ·rw[if_pos (.inr c2)];exact A1 dU c2
 rw[if_neg (fun h=>h.elim c1 c2)];cases c3:ed ⟨m.size,m.root⟩ held with
 | true=>
  have iJ:=c3;unfold ed at iJ;simp only at iJ;refine A3 dU c2 iJ ?_;refine aq.intro sH ?_;exact dt
 | false=>
  have iJ:=c3;unfold ed at iJ;simp only at iJ;by_cases c4:m.size=held.size
  ·have uq:(m.size==held.size)=true:=by rw[c4];simp
   rw[if_neg (by simp),if_pos c4];rw[uq,Bool.true_and]at iJ;simp -implicitDefEqProofs only[go_sem,dU,c2,iJ,uq,bc]
  have uq:(m.size==held.size)=false:=beq_eq_false_iff_ne.2 c4;rw[if_neg (by simp),if_neg c4];simp -implicitDefEqProofs only[go_sem,dU,c2,iJ,uq,bc];refine aq.intro iG ?_;by_cases c5:W.length≤8
  ·have yB:¬((W.length:Int)>8):=by omega
   rw[if_pos c5];refine uH yB ?_;refine cz (DJ W (by omega)) ?_;refine cz g9 ?_;rfl
  have yB:((W.length:Int)>8):=by omega
  rw[if_neg c5];simp -implicitDefEqProofs only[go_sem,yB,aZ,aY]
theorem agd (w:bE) (me br:Int) (m:aM) (hl:w.aS.length≤8) (hd:w.aH.ok) (hr:m.root.ok):bb Tryz.prog 236 [] [w.ro,vI me,vI br,m.ro] (jB w (cH w.aH) me br m.bR ⟨m.size,m.root⟩).av (jB w (cH w.aH) me br m.bR ⟨m.size,m.root⟩).out:=by
 refine aA T5 false Tryz.f236 ?_;conv=>enter[1];reduce
 refine bT Tryz.f236 91 [.cell 8 189] (by kernel_rfl) (by decide +kernel) rfl ?_;have l4:=M4 w (by omega);have x8:=Dw w.aH hd;have sH:=U7 me ⟨br,m.bR,⟨m.size,m.root⟩⟩ hr;have iG:=af1 w.aS ⟨br,m.bR,⟨m.size,m.root⟩⟩ hl;generalize cH w.aH=held at *;have gX:=Kb hl ⟨br,m.bR,⟨m.size,m.root⟩⟩;have g9:=yT ⟨4,0,held.size,m.size,gr,0,[],[]⟩ rfl rfl sO;unfold jB;simp only at sH ⊢;generalize hA:qU me br m.bR ⟨m.size,m.root⟩=A at *;generalize hW:lV w.aS ⟨br,m.bR,⟨m.size,m.root⟩⟩=W at *;refine aw ?_;refine eP l4 ?_;refine aq.intro x8 ?_;by_cases c1:m.size=0
 ·have dU:(m.size==0)=true:=by rw[c1];rfl
  rw[if_pos (.inl c1)];simp -implicitDefEqProofs only[go_sem,dU,bc]
 have dU:(m.size==0)=false:=beq_eq_false_iff_ne.2 c1;by_cases c2:m.size<held.size
 ·rw[if_pos (.inr c2)];exact A1 dU c2
 rw[if_neg (fun h=>h.elim c1 c2)];cases c3:ed ⟨m.size,m.root⟩ held with
 | true=>
  have iJ:=c3;unfold ed at iJ;simp only at iJ;refine A3 dU c2 iJ ?_;refine aq.intro sH ?_;exact dt
 | false=>
  have iJ:=c3;unfold ed at iJ;simp only at iJ;by_cases c4:m.size=held.size
  ·have uq:(m.size==held.size)=true:=by rw[c4];simp
   rw[if_neg (by simp),if_pos c4];rw[uq,Bool.true_and]at iJ;simp -implicitDefEqProofs only[go_sem,dU,c2,iJ,uq,bc]
  have uq:(m.size==held.size)=false:=beq_eq_false_iff_ne.2 c4;rw[if_neg (by simp),if_neg c4];simp -implicitDefEqProofs only[go_sem,dU,c2,iJ,uq,bc];refine aD.intro iG ?_;by_cases c5:W.length≤8
  ·have yB:decide (W.length≤8)=true:=decide_eq_true c5;rw[if_pos c5];refine Iq yB ?_;refine cz g9 ?_;rfl
  have yB:decide (W.length≤8)=false:=decide_eq_false c5;rw[if_neg c5];simp -implicitDefEqProofs only[go_sem,yB,Bool.not_false,aZ,aY]
theorem Uq {l:List aW}(h:∀d∈l,d.ok):(l.map aW.bd).map BD.cs=l.map aW.cs:=by
 rw[List.map_map];refine List.map_congr_left fun d hd=>?_
 show d.bd.c9.cs=d.cs
 rw[aW.ahz (h d hd)]
theorem af5 (o p:bh) (P:List aW) (h:∀d∈P,d.ok):aR Tryz.prog 261 [.agg o.cs,.agg p.cs,.ro 4 (P.map aW.cs)] (vI (lC o p (P.map aW.bd))) []:=by
 rw[←Uq h];exact af6 o p _
theorem afZ (o p:bh) (P:List aW) (h:∀d∈P,d.ok):aR Tryz.prog 275 [.agg o.cs,.agg p.cs,.ro 4 (P.map aW.cs)] (vI (lC o p (P.map aW.bd))) []:=by
 rw[←Uq h];exact af0 o p _
structure tg where
 left:List bG
 taken:Bool
 p:bh
 al:List ec
def hY (held:bh) (size:Int) (P:List aW) (s:tg) (x:bG):tg:=
 if s.taken=true∨x.pt.size≠size then {s with left:=s.left++[x]}
 else if lC held x.pt (P.map aW.bd)≠0 then {s with al:=s.al++[⟨2,x.br,held,x.pt,lC held x.pt (P.map aW.bd)⟩]}
 else {s with left:=s.left++[x],taken:=true,p:=x.pt}
def gF (held:bh) (size:Int) (P:List aW) (l:List bG):tg:=l.foldl (hY held size P) ⟨[],false,.zero,[]⟩
theorem Th {held:bh}{size:Int}{P:List aW}{l:List bG}{i:Nat}(h:i<l.length):gF held size P (l.take (i+1))=hY held size P (gF held size P (l.take i)) l[i]:=by
 unfold gF;rw[List.take_succ_eq_append_getElem h,List.foldl_append];rfl
theorem adE (held:bh) (size:Int) (P:List aW) (l:List bG):∀s:tg,(l.foldl (hY held size P) s).left.length+(l.foldl (hY held size P) s).al.length=s.left.length+s.al.length+l.length:=by
 induction l with
 | nil=>intro s;simp
 | cons a l ih=>
  intro s;rw[List.foldl_cons,ih,List.length_cons];have e:(hY held size P s a).left.length+(hY held size P s a).al.length=s.left.length+s.al.length+1:=by
   unfold hY
   repeat' split
   all_goals simp
   all_goals omega
  omega
theorem Ad (held:bh) (size:Int) (P:List aW) (l:List bG):(gF held size P l).left.length≤l.length∧(gF held size P l).al.length≤l.length:=by
 have:=adE held size P l ⟨[],false,.zero,[]⟩;unfold gF;simp only[List.length_nil]at this;omega
structure uA where
 le:List aB
 al:List ec
 rest:List bG
def lM (me:Int) (p:bh) (s:uA) (x:bG):uA:=
 if ed x.pt p=true then {s with le:=s.le++[qU me x.br x.bR p]}
 else if x.pt.size=p.size then {s with al:=s.al++[⟨1,x.br,p,x.pt,0⟩]}
 else if x.pt.size>p.size then {s with rest:=s.rest++[x]}
 else s
def lZ (me:Int) (p:bh) (al:List ec) (l:List bG):uA:=l.foldl (lM me p) ⟨[],al,[]⟩
theorem Sn {me:Int}{p:bh}{al:List ec}{l:List bG}{i:Nat}(h:i<l.length):lZ me p al (l.take (i+1))=lM me p (lZ me p al (l.take i)) l[i]:=by
 unfold lZ;rw[List.take_succ_eq_append_getElem h,List.foldl_append];rfl
theorem acy (me:Int) (p:bh) (l:List bG):∀s:uA,(l.foldl (lM me p) s).le.length+(l.foldl (lM me p) s).al.length+(l.foldl (lM me p) s).rest.length≤s.le.length+s.al.length+s.rest.length+l.length:=by
 induction l with
 | nil=>intro s;simp
 | cons a l ih=>
  intro s;rw[List.foldl_cons,List.length_cons];have:=ih (lM me p s a);have e:(lM me p s a).le.length+(lM me p s a).al.length+(lM me p s a).rest.length≤s.le.length+s.al.length+s.rest.length+1:=by
   unfold lM
   repeat' split
   all_goals simp
   all_goals omega
  omega
theorem Gk (me:Int) (p:bh) (al:List ec) (l:List bG):(lZ me p al l).le.length≤al.length+l.length∧(lZ me p al l).al.length≤al.length+l.length∧(lZ me p al l).rest.length≤al.length+l.length:=by
 have:=acy me p l ⟨[],al,[]⟩;unfold lZ;simp only[List.length_nil]at this;omega
def kO (w:bE) (held:bh) (me:Int) (m:aM):eS:=
 if m.from_≠held.size then .base w
 else if (gF held m.size m.proof w.aS).taken=false then {eS.base w with aS:=(gF held m.size m.proof w.aS).left,dI:=(gF held m.size m.proof w.aS).al}
 else if jA w.aH (gF held m.size m.proof w.aS).p.size (gF held m.size m.proof w.aS).p.root=[] then .base w
 else⟨ep w.aH (jA w.aH (gF held m.size m.proof w.aS).p.size (gF held m.size m.proof w.aS).p.root),(lZ me (gF held m.size m.proof w.aS).p (gF held m.size m.proof w.aS).al (gF held m.size m.proof w.aS).left).rest,jA w.aH (gF held m.size m.proof w.aS).p.size (gF held m.size m.proof w.aS).p.root,some ⟨held,(gF held m.size m.proof w.aS).p,m.proof⟩,(lZ me (gF held m.size m.proof w.aS).p (gF held m.size m.proof w.aS).al (gF held m.size m.proof w.aS).left).le,(lZ me (gF held m.size m.proof w.aS).p (gF held m.size m.proof w.aS).al (gF held m.size m.proof w.aS).left).al⟩
def jf (d:cS) (w r k l a:AV):List AV:=d.cs++[w,r,k,l,a]
attribute [go_sem] jf
inductive Ib (H:uA) (P:List aW) (k:Nat):AV→AV→aj→Nat→Prop
 | s00 (h1:H.le=[]) (h2:H.al=[]):Ib H P k .aG .aG [(40000+k,0,one ⟨4,P.map aW.cs,2,false⟩)] (40000+k)
 | s01 (h1:H.le=[]) (h2:H.al≠[]):Ib H P k .aG (.au (40000+k) 0 [] 13 0 H.al.length) [(40000+k,0,one ⟨13,H.al.map ec.cs,2,false⟩),(50000+k,0,one ⟨4,P.map aW.cs,2,false⟩)] (50000+k)
 | s10 (h1:H.le≠[]) (h2:H.al=[]):Ib H P k (.au (40000+k) 0 [] 3 0 H.le.length) .aG [(40000+k,0,one ⟨3,H.le.map aB.cs,2,false⟩),(50000+k,0,one ⟨4,P.map aW.cs,2,false⟩)] (50000+k)
 | s11 (h1:H.le≠[]) (h2:H.al≠[]):Ib H P k (.au (40000+k) 0 [] 3 0 H.le.length) (.au (50000+k) 0 [] 13 0 H.al.length) [(40000+k,0,one ⟨3,H.le.map aB.cs,2,false⟩),(50000+k,0,one ⟨13,H.al.map ec.cs,2,false⟩),(60000+k,0,one ⟨4,P.map aW.cs,2,false⟩)] (60000+k)
def eS.zero:eS:=⟨pN,[],[],none,[],[]⟩
attribute [go_sem] eS.zero
def fO (w:bE) (me:Int) (l:aB):eS:=
 if iE w&&(c8 l&&aT me 1 20) then
  (if ((bV l.text).2.1==0)&&(((bV l.text).1.kind==3)&&decide (l.from_>0)) then jB w (cH w.aH) me l.from_ (bV l.text).1.bR ⟨(bV l.text).1.size,(bV l.text).1.root⟩
   else if ((bV l.text).2.1==0)&&(((bV l.text).1.kind==5)&&(l.from_==0)) then kO w (cH w.aH) me (bV l.text).1
   else .base w)
 else .zero
theorem uI {w:bE}(h:iE w=true):w.aS.length≤8:=by
 unfold iE at h;rw[Bool.and_eq_true,decide_eq_true_eq]at h;exact h.1
theorem Xu (w:bE) (held:bh) (me br s:Int) (p:bh):(jB w held me br s p).bM.length≤100∧(jB w held me br s p).dI.length≤100:=by
 unfold jB
 repeat' split
 all_goals simp[eS.base]
theorem adt (w:bE) (held:bh) (me:Int) (m:aM) (h:w.aS.length≤8):(kO w held me m).bM.length≤100∧(kO w held me m).dI.length≤100:=by
 have h1:=Ad held m.size m.proof w.aS;have h2:=Gk me (gF held m.size m.proof w.aS).p (gF held m.size m.proof w.aS).al (gF held m.size m.proof w.aS).left;unfold kO
 repeat' split
 ·simp[eS.base]
 ·constructor
  ·simp[eS.base]
  show(gF held m.size m.proof w.aS).al.length≤100;omega
 ·simp[eS.base]
 constructor
 ·show(lZ me (gF held m.size m.proof w.aS).p (gF held m.size m.proof w.aS).al (gF held m.size m.proof w.aS).left).le.length≤100;omega
 show(lZ me (gF held m.size m.proof w.aS).p (gF held m.size m.proof w.aS).al (gF held m.size m.proof w.aS).left).al.length≤100;omega
end
def nB (h:Int) (x:bG):Bool:=aT x.br 1 20&&(aT x.bR 1 1000000&&aT x.pt.size (h+1) 256)
theorem Oz {h:Int}{l:List bG}(hi:0<l.length):gD h l 0=nB h l[0]:=by
 unfold gD nB;rw[bz hi];simp
theorem Iy {h:Int}{l:List bG}{j:Nat}(hi:j+1<l.length):gD h l (j+1)=(nB h l[j+1]&&decide (l[j].br<l[j+1].br)):=by
 unfold gD nB;rw[bz hi];simp only[bz (show j<l.length by omega)];cases aT l[j+1].br 1 20<;>cases decide (l[j].br<l[j+1].br)<;>simp
theorem rP {w:bE}:iE w=true↔w.aS.length≤8∧w.aS.Pairwise (fun x y=>x.br<y.br)∧∀x∈w.aS,nB (cH w.aH).size x=true:=by
 obtain⟨d,l⟩:=w;unfold iE;simp only[Bool.and_eq_true,decide_eq_true_eq,List.all_eq_true,List.mem_range];generalize (cH d).size=h;constructor
 ·rintro⟨h8,ha⟩;have Wv:∀j (hj:j+1<l.length),l[j].br<l[j+1].br:=fun j hj=>by
   have:=ha (j+1) hj;rw[Iy hj,Bool.and_eq_true,decide_eq_true_eq]at this;exact this.2
  refine⟨h8,List.pairwise_iff_getElem.2 fun i j hi hj oH=>?_,fun x hx=>?_⟩
  ·induction j with
   | zero=>omega
   | succ j ih=>
    rcases Nat.lt_succ_iff_lt_or_eq.1 oH with oH|rfl
    ·exact Int.lt_trans (ih (by omega) oH) (Wv j hj)
    exact Wv i hj
  obtain⟨i,hi,rfl⟩:=List.getElem_of_mem hx;cases i with
  | zero=>rw[←Oz hi];exact ha 0 hi
  | succ j=>
   have:=ha (j+1) hi;rw[Iy hi,Bool.and_eq_true]at this;exact this.1
 rintro⟨h8,hp,ha⟩;refine⟨h8,fun i hi=>?_⟩;cases i with
 | zero=>rw[Oz hi];exact ha _ (List.getElem_mem hi)
 | succ j=>
  rw[Iy hi,Bool.and_eq_true,decide_eq_true_eq];exact⟨ha _ (List.getElem_mem hi),List.pairwise_iff_getElem.1 hp j (j+1) (by omega) hi (by omega)⟩
theorem adF (held:bh) (size:Int) (P:List aW) (l:List bG):∀s:tg,s.taken=true→(l.foldl (hY held size P) s).taken=true∧(l.foldl (hY held size P) s).p=s.p:=by
 induction l with
 | nil=>intro s h;exact⟨h,rfl⟩
 | cons a l ih=>
  intro s h;have e:hY held size P s a={s with left:=s.left++[a]}:=by unfold hY;rw[if_pos (.inl h)]
  rw[List.foldl_cons,e];exact ih _ h
theorem LV (held:bh) (size:Int) (P:List aW) (l:List bG):∀s:tg,s.taken=false→(l.foldl (hY held size P) s).taken=true→∃x∈l,(l.foldl (hY held size P) s).p=x.pt∧x.pt.size=size∧lC held x.pt (P.map aW.bd)=0:=by
 induction l with
 | nil=>intro s h h2;rw[List.foldl_nil,h]at h2;cases h2
 | cons a l ih=>
  intro s h h2;rw[List.foldl_cons]at h2 ⊢;by_cases c:s.taken=true∨a.pt.size≠size
  ·have e:hY held size P s a={s with left:=s.left++[a]}:=by unfold hY;rw[if_pos c]
   rw[e]at h2 ⊢;obtain⟨x,hx,r⟩:=ih {s with left:=s.left++[a]} h h2;exact⟨x,List.mem_cons_of_mem _ hx,r⟩
  by_cases g:lC held a.pt (P.map aW.bd)≠0
  ·have e:hY held size P s a={s with al:=s.al++[⟨2,a.br,held,a.pt,lC held a.pt (P.map aW.bd)⟩]}:=by unfold hY;rw[if_neg c,if_pos g]
   rw[e]at h2 ⊢;obtain⟨x,hx,r⟩:=ih {s with al:=s.al++[⟨2,a.br,held,a.pt,lC held a.pt (P.map aW.bd)⟩]} h h2;exact⟨x,List.mem_cons_of_mem _ hx,r⟩
  have e:hY held size P s a={s with left:=s.left++[a],taken:=true,p:=a.pt}:=by unfold hY;rw[if_neg c,if_neg g]
  rw[e]at h2 ⊢;refine⟨a,List.mem_cons_self ..,(adF held size P l _ rfl).2,?_,?_⟩
  ·exact Classical.byContradiction fun h=>c (.inr h)
  exact Classical.byContradiction fun h=>g h
theorem GX (held:bh) (size:Int) (P:List aW) (l:List bG):∀s:tg,∃l',(l.foldl (hY held size P) s).left=s.left++l'∧l'.Sublist l:=by
 induction l with
 | nil=>intro s;exact⟨[],(List.append_nil _).symm,List.Sublist.refl _⟩
 | cons a l ih=>
  intro s;rw[List.foldl_cons];obtain⟨l',e,hs⟩:=ih (hY held size P s a);have:(hY held size P s a).left=s.left++[a]∨(hY held size P s a).left=s.left:=by
   unfold hY;split
   ·exact .inl rfl
   split
   ·exact .inr rfl
   exact .inl rfl
  rcases this with t|t
  ·exact⟨a::l',by rw[e,t,List.append_assoc];rfl,hs.cons_cons a⟩
  exact⟨l',by rw[e,t],hs.cons a⟩
theorem Sm (me:Int) (p:bh) (l:List bG):∀s:uA,∃l',(l.foldl (lM me p) s).rest=s.rest++l'∧l'.Sublist l∧∀x∈l',x.pt.size>p.size:=by
 induction l with
 | nil=>intro s;exact⟨[],(List.append_nil _).symm,List.Sublist.refl _,by simp⟩
 | cons a l ih=>
  intro s;rw[List.foldl_cons];obtain⟨l',e,hs,hg⟩:=ih (lM me p s a);have:((lM me p s a).rest=s.rest++[a]∧a.pt.size>p.size)∨(lM me p s a).rest=s.rest:=by
   unfold lM;split
   ·exact .inr rfl
   split
   ·exact .inr rfl
   split
   ·rename_i h;exact .inl ⟨rfl,h⟩
   exact .inr rfl
  rcases this with ⟨t,ha⟩|t
  ·exact⟨a::l',by rw[e,t,List.append_assoc];rfl,hs.cons_cons a,fun x hx=>by rcases List.mem_cons.1 hx with rfl|hx;exact ha;exact hg x hx⟩
  exact⟨l',by rw[e,t],hs.cons a,hg⟩
theorem IE (x:bG):∀(l:List bG) (out:List bG),(∀y∈l,x.br<y.br)→l.foldl (kF x) (out,true)=(out++l,true)
 | [],out,h=>by rw[List.append_nil];rfl
 | y::l,out,h=>by
  have hy:=h y (List.mem_cons_self ..);have e:kF x (out,true) y=(out++[y],true):=by
   unfold kF;rw[if_neg (by simp),if_neg (by omega)]
  rw[List.foldl_cons,e,IE x l _ fun z hz=>h z (List.mem_cons_of_mem _ hz),List.append_assoc];rfl
def ID (x:bG) (s:List bG × Bool):List bG:=if s.2 then s.1 else s.1++[x]
theorem OA (x:bG):∀(l out:List bG),l.Pairwise (fun a b=>a.br<b.br)→ID x (l.foldl (kF x) (out,false))=out++(l.filter (fun y=>decide (y.br<x.br))++x::l.filter fun y=>decide (x.br<y.br))
 | [],out,h=>rfl
 | y::l,out,h=>by
  obtain⟨h1,h2⟩:=List.pairwise_cons.1 h;rw[List.foldl_cons];by_cases c:y.br<x.br
  ·have e:kF x (out,false) y=(out++[y],false):=by
    unfold kF;rw[if_neg (fun q=>by have:=q.2;omega),if_neg (by omega)]
   rw[e,OA x l _ h2,List.filter_cons_of_pos (by simpa using c),List.filter_cons_of_neg (by simp;omega),List.append_assoc];rfl
  have ab:∀z∈l,x.br<z.br:=fun z hz=>by have:=h1 z hz;omega
  have f1:l.filter (fun y=>decide (y.br<x.br))=[]:=by
   rw[List.filter_eq_nil_iff];intro z hz;have:=ab z hz;simp;omega
  have f2:l.filter (fun y=>decide (x.br<y.br))=l:=by
   rw[List.filter_eq_self];intro z hz
   simpa using ab z hz
  rw[List.filter_cons_of_neg (by simpa using c),f1];by_cases g:y.br=x.br
  ·have e:kF x (out,false) y=(out++[x],true):=by
    unfold kF;rw[if_pos ⟨rfl,by omega⟩,if_pos g]
   rw[e,IE x l _ ab,List.filter_cons_of_neg (by simp;omega),f2];simp[ID]
  have e:kF x (out,false) y=(out++[x]++[y],true):=by
   unfold kF;rw[if_pos ⟨rfl,by omega⟩,if_neg g]
  rw[e,IE x l _ ab,List.filter_cons_of_pos (by simp;omega),f2];simp[ID]
theorem abk {l:List bG}(h:l.Pairwise fun a b=>a.br<b.br) (x:bG):lV l x=l.filter (fun y=>decide (y.br<x.br))++x::l.filter fun y=>decide (x.br<y.br):=by
 have:=OA x l [] h;rw[List.nil_append]at this;exact this
theorem Xf {l:List bG}(h:l.Pairwise fun a b=>a.br<b.br) (x:bG):(lV l x).Pairwise (fun a b=>a.br<b.br)∧∀y∈lV l x,y=x∨y∈l:=by
 rw[abk h];constructor
 ·refine List.pairwise_append.2 ⟨h.sublist List.filter_sublist,List.pairwise_cons.2 ⟨fun y hy=>?_,h.sublist List.filter_sublist⟩,fun a ha b hb=>?_⟩
  ·simpa using (List.mem_filter.1 hy).2
  have ha:=(List.mem_filter.1 ha).2;simp only[decide_eq_true_eq]at ha;rcases List.mem_cons.1 hb with rfl|hb
  ·exact ha
  have hb:=(List.mem_filter.1 hb).2;simp only[decide_eq_true_eq]at hb;omega
 intro y hy;rcases List.mem_append.1 hy with hy|hy
 ·exact .inr (List.mem_filter.1 hy).1
 rcases List.mem_cons.1 hy with rfl|hy
 ·exact .inl rfl
 exact .inr (List.mem_filter.1 hy).1
theorem Xb {w:bE}{me br s:Int}{p:bh}(h:iE w=true) (h1:aT br 1 20=true) (h2:aT s 1 1000000=true) (h3:p.size≤256):
  iE ⟨(jB w (cH w.aH) me br s p).aH,(jB w (cH w.aH) me br s p).aS⟩=true∧(jB w (cH w.aH) me br s p).aH=w.aH∧(jB w (cH w.aH) me br s p).kept=none∧(jB w (cH w.aH) me br s p).eu=[]:=by
 unfold jB;split
 ·exact⟨h,rfl,rfl,rfl⟩
 rename_i c1;split
 ·exact⟨h,rfl,rfl,rfl⟩
 split
 ·exact⟨h,rfl,rfl,rfl⟩
 rename_i c4;split
 ·rename_i h8;obtain⟨_,hp,ha⟩:=rP.1 h;obtain⟨q1,q2⟩:=Xf hp ⟨br,s,p⟩;refine⟨rP.2 ⟨h8,q1,fun x hx=>?_⟩,rfl,rfl,rfl⟩;rcases q2 x hx with rfl|hx
  ·show(aT br 1 20&&(aT s 1 1000000&&aT p.size ((cH w.aH).size+1) 256))=true
   rw[h1,h2,cf.2 ⟨by omega,h3⟩];rfl
  exact ha x hx
 exact⟨h,rfl,rfl,rfl⟩
theorem Xt {a b:Int}{x:bG}(h:nB a x=true) (hb:b+1≤x.pt.size):nB b x=true:=by
 simp only[nB,Bool.and_eq_true,cf]at h ⊢;exact⟨h.1,h.2.1,by omega⟩
structure Ed (w:bE) (H:eS):Prop where
 ok:iE ⟨H.aH,H.aS⟩=true
 no:H.kept=none→H.aH=w.aH∧H.eu=[]
 yes:∀k,H.kept=some k→(k.i4=cH w.aH∧k.new=cH H.aH)∧(lC k.i4 k.new (k.proof.map aW.bd)=0∧H.aH=ep w.aH H.eu)∧(cH w.aH).size<(cH H.aH).size
theorem adu {w:bE}{me:Int}{m:aM}(h:iE w=true):Ed w (kO w (cH w.aH) me m):=by
 obtain⟨h8,hp,ha⟩:=rP.1 h;have uc:Ed w (.base w):=⟨h,fun _=>⟨rfl,rfl⟩,fun k e=>(by cases e)⟩;obtain⟨l',e1,s1⟩:=GX (cH w.aH) m.size m.proof w.aS ⟨[],false,.zero,[]⟩;have tk:=LV (cH w.aH) m.size m.proof w.aS ⟨[],false,.zero,[]⟩ rfl;have e1:(gF (cH w.aH) m.size m.proof w.aS).left=l':=e1;have tk:(gF (cH w.aH) m.size m.proof w.aS).taken=true→∃x∈w.aS,(gF (cH w.aH) m.size m.proof w.aS).p=x.pt∧x.pt.size=m.size∧lC (cH w.aH) x.pt (m.proof.map aW.bd)=0:=tk;unfold kO;generalize gF (cH w.aH) m.size m.proof w.aS=S at *;split
 ·exact uc
 split
 ·refine⟨rP.2 ⟨?_,?_,?_⟩,fun _=>⟨rfl,rfl⟩,fun k e=>(by cases e)⟩
  ·show S.left.length≤8
   rw[e1];have:=s1.length_le;omega
  ·show S.left.Pairwise _
   rw[e1];exact hp.sublist s1
  show ∀x∈S.left,nB (cH w.aH).size x=true
  rw[e1];exact fun x hx=>ha x (s1.subset hx)
 rename_i ht;split
 ·exact uc
 rename_i hR;obtain⟨x,hx,p1,p2,p3⟩:=tk (by cases q:S.taken<;>simp_all);have hh:=SN hR;obtain⟨l2,e2,s2,g2⟩:=Sm me S.p S.left ⟨[],S.al,[]⟩;have e2:(lZ me S.p S.al S.left).rest=l2:=e2;generalize lZ me S.p S.al S.left=H2 at *;have fJ:=ha x hx;simp only[nB,Bool.and_eq_true,cf]at fJ;have dg:(cH w.aH).size<S.p.size:=by rw[p1];omega
 have s3:l2.Sublist w.aS:=s2.trans (e1▸s1);refine⟨rP.2 ⟨?_,?_,?_⟩,fun e=>(by cases e),fun k e=>?_⟩
 ·show H2.rest.length≤8
  rw[e2];have:=s3.length_le;omega
 ·show H2.rest.Pairwise _
  rw[e2];exact hp.sublist s3
 ·show ∀y∈H2.rest,nB (cH (ep w.aH (jA w.aH S.p.size S.p.root))).size y=true
  rw[e2,hh];intro y hy;have:=g2 y hy;exact Xt (ha y (s3.subset hy)) (by show S.p.size+1≤_;omega)
 cases e;refine⟨⟨rfl,?_⟩,⟨?_,rfl⟩,?_⟩
 ·show S.p=cH (ep w.aH (jA w.aH S.p.size S.p.root))
  rw[hh]
 ·show lC (cH w.aH) S.p (m.proof.map aW.bd)=0
  rw[p1];exact p3
 show _<(cH (ep w.aH (jA w.aH S.p.size S.p.root))).size
 rw[hh];exact dg
def tP (me:Int) (now:bh) (l:aB):Prop:=(bV l.text).2.1=0∧l.from_=me∧
 (((bV l.text).1.kind=6∧((bV l.text).1.size=now.size∧(bV l.text).1.root=now.root)∧1≤now.size)∨((bV l.text).1.kind=4∧l.jx=0))
theorem So (me:Int) (p:bh) (l:List bG) (Q:aB→Prop) (hq:∀x∈l,ed x.pt p=true→Q (qU me x.br x.bR p)):∀s:uA,(∀y∈s.le,Q y)→∀y∈(l.foldl (lM me p) s).le,Q y:=by
 induction l with
 | nil=>intro s h;exact h
 | cons a l ih=>
  intro s h;rw[List.foldl_cons];refine ih (fun x hx=>hq x (List.mem_cons_of_mem _ hx)) _ ?_;unfold lM;split
  ·rename_i e;intro y hy;rcases List.mem_append.1 hy with hy|hy
   ·exact h y hy
   rw[List.mem_singleton.1 hy];exact hq a (List.mem_cons_self ..) e
  split
  ·exact h
  split
  ·exact h
  exact h
theorem VS {m:aM}(aF:eQ m=true) (hr:m.root.ok) (hd:∀d∈m.proof,d.ok):bV (i6 m)=(m,0,0):=by
 unfold i6;rw[if_pos aF];exact Xi aF hr hd
theorem Wz {me br s:Int}{p:bh}(hs:1≤s∧s≤1000000) (hz:1≤p.size∧p.size≤256) (hr:p.root.ok):tP me p (qU me br s p):=by
 have h:=VS (m:=B9 s p) (QA hs ⟨by omega,hz.2⟩) hr (by intro d hd;cases hd);unfold tP;rw[show(qU me br s p).text=i6 (B9 s p) from rfl,h];exact⟨rfl,rfl,.inl ⟨rfl,⟨rfl,rfl⟩,hz.1⟩⟩
theorem aai {me a b:Int}{now:bh}(ha:0≤a∧a≤256) (hb:0≤b∧b≤256):tP me now (FU me a b):=by
 have h:=VS (m:=⟨4,0,a,b,gr,0,[],[]⟩) (QB ha hb) sO (by intro d hd;cases hd);unfold tP;rw[show(FU me a b).text=i6 ⟨4,0,a,b,gr,0,[],[]⟩ from rfl,h];exact⟨rfl,rfl,.inr ⟨rfl,rfl⟩⟩
theorem Xw {w:bE}{me br s:Int}{p:bh}(hs:1≤s∧s≤1000000) (hz:0≤p.size∧p.size≤256) (hr:p.root.ok):∀l∈(jB w (cH w.aH) me br s p).bM,tP me (cH w.aH) l:=by
 unfold jB;split
 ·intro l hl;cases hl
 rename_i c1;split
 ·rename_i e;intro l hl;have hp:p=cH w.aH:=by
   have e:=e;generalize cH w.aH=q at *;obtain⟨a,⟨a1,a2,a3,a4⟩⟩:=p;obtain⟨b,⟨b1,b2,b3,b4⟩⟩:=q;simp only[ed,Bool.and_eq_true,beq_iff_eq]at e;obtain⟨h1,h2,h3,h4,h5⟩:=e;have:a1=b1:=by omega
   have:a2=b2:=by omega
   have:a3=b3:=by omega
   have:a4=b4:=by omega
   subst_vars
   rfl
  have hl:l=qU me br s p:=List.mem_singleton.1 hl;rw[hl,←hp];exact Wz hs ⟨by omega,hz.2⟩ hr
 split
 ·intro l hl;cases hl
 split
 ·intro l hl;have hl:l=FU me (cH w.aH).size p.size:=List.mem_singleton.1 hl;rw[hl];exact aai (FX w.aH) hz
 intro l hl;cases hl
theorem adw {w:bE}{me:Int}{m:aM}(h:iE w=true) (nL:∀x∈w.aS,x.pt.root.ok):∀l∈(kO w (cH w.aH) me m).bM,tP me (cH (kO w (cH w.aH) me m).aH) l:=by
 obtain⟨h8,hp,ha⟩:=rP.1 h;obtain⟨l',e1,s1⟩:=GX (cH w.aH) m.size m.proof w.aS ⟨[],false,.zero,[]⟩;have tk:=LV (cH w.aH) m.size m.proof w.aS ⟨[],false,.zero,[]⟩ rfl;have e1:(gF (cH w.aH) m.size m.proof w.aS).left=l':=e1;have tk:(gF (cH w.aH) m.size m.proof w.aS).taken=true→∃x∈w.aS,(gF (cH w.aH) m.size m.proof w.aS).p=x.pt∧x.pt.size=m.size∧lC (cH w.aH) x.pt (m.proof.map aW.bd)=0:=tk;unfold kO;generalize gF (cH w.aH) m.size m.proof w.aS=S at *;split
 ·intro l hl;cases hl
 split
 ·intro l hl;cases hl
 rename_i ht;split
 ·intro l hl;cases hl
 rename_i hR;obtain⟨x,hx,p1,p2,p3⟩:=tk (by cases q:S.taken<;>simp_all);have fJ:=ha x hx;simp only[nB,Bool.and_eq_true,cf]at fJ;have hb:=FX w.aH;intro l hl;show tP me (cH (ep w.aH (jA w.aH S.p.size S.p.root))) l
 rw[SN hR];refine So me S.p S.left (tP me ⟨S.p.size,S.p.root⟩) (fun y hy e=>?_) ⟨[],S.al,[]⟩ (fun y hy=>by cases hy) l hl;rw[e1]at hy;have qi:=ha y (s1.subset hy);simp only[nB,Bool.and_eq_true,cf]at qi;exact Wz (by omega) ⟨by show 1≤S.p.size;rw[p1];omega,by show S.p.size≤256;rw[p1];omega⟩ (by show S.p.root.ok;rw[p1];exact nL x hx)
theorem Ed.Xx {w:bE}{H:eS}(h:iE ⟨H.aH,H.aS⟩=true∧H.aH=w.aH∧H.kept=none∧H.eu=[]):Ed w H:=
 ⟨h.1,fun _=>⟨h.2.1,h.2.2.2⟩,fun k e=>by rw[h.2.2.1]at e;cases e⟩
theorem IB {w:bE}{me:Int}{l:aB}(hw:iE w=true) (hl:c8 l=true) (hm:aT me 1 20=true) (nL:∀x∈w.aS,x.pt.root.ok):
  Ed w (fO w me l)∧∀x∈(fO w me l).bM,tP me (cH (fO w me l).aH) x:=by
 unfold fO;rw[if_pos (by rw[hw,hl,hm];rfl)];have hinv:=wq l.text;generalize bV l.text=W at *;obtain⟨x,code,at_⟩:=W;simp only at hinv ⊢;split
 ·rename_i c;simp only[Bool.and_eq_true,beq_iff_eq,decide_eq_true_eq]at c;obtain⟨c1,c2,c3⟩:=c;obtain⟨i1,i2,-,-⟩:=hinv c1;have ok:=nr.of i1;have hs:1≤x.bR∧x.bR≤1000000:=by
   simp only[eQ,Bool.and_eq_true]at i1;have h:=i1.2.1;rw[c2]at h;exact cf.1 h
  have hf:aT l.from_ 1 20=true:=by
   simp only[c8,Bool.and_eq_true,cf]at hl;exact cf.2 ⟨by omega,hl.1.2⟩
  have hv:=Xb (w:=w) (me:=me) (p:=⟨x.size,x.root⟩) hw hf (cf.2 hs) ok.z.2;refine⟨.Xx hv,?_⟩;rw[hv.2.1];exact Xw hs ok.z i2
 split
 ·exact⟨adu hw,adw hw nL⟩
 exact⟨⟨hw,fun _=>⟨rfl,rfl⟩,fun k e=>(by cases e)⟩,fun y hy=>(by cases hy)⟩
structure uB (w:bE) (H:eS):Prop where
 d:H.aH.ok
 ws:H.aS.length≤17
 r:H.eu.length≤8
 l:H.bM.length≤100
 a:H.dI.length≤100
 k:∀k,H.kept=some k→(∀d∈k.proof,d.ok)∧k.proof.length≤1000
 n:H.kept=none→H.eu=[]
 s:∀k,H.kept=some k→H.eu=jA w.aH k.new.size k.new.root∧H.eu≠[]
 x:(∀x∈w.aS,x.pt.root.ok)→∀x∈H.aS,x.pt.root.ok
 v:∀r∈H.eu,r.value<18446744073709551616
theorem W9 (d:cS) (size:Int) (root:aW):(jA d size root).length≤8:=by
 rw[uZ];split
 ·exact Nat.le_refl 8
 exact aQ _
theorem uB.base {w:bE}(hd:w.aH.ok) (h:w.aS.length≤17):uB w (.base w):=
 ⟨hd,h,aQ _,aQ _,aQ _,fun k e=>(by cases e),fun _=>rfl,fun k e=>(by cases e),fun h=>h,fun r hr=>(by cases hr)⟩
theorem Xv {w:bE}{held:bh}{me br s:Int}{p:bh}(hd:w.aH.ok) (h:w.aS.length≤8) (hp:p.root.ok):uB w (jB w held me br s p):=by
 have hb:=uB.base hd (show w.aS.length≤17 by omega);have hl:=Kb h ⟨br,s,p⟩;have hm:(∀x∈w.aS,x.pt.root.ok)→∀x∈lV w.aS ⟨br,s,p⟩,x.pt.root.ok:=by
  intro hw;unfold lV;have key:∀(l:List bG) (st:List bG × Bool),(∀x∈l,x.pt.root.ok)→(∀x∈st.1,x.pt.root.ok)→∀x∈(l.foldl (kF ⟨br,s,p⟩) st).1,x.pt.root.ok:=by
   intro l;induction l with
   | nil=>intro st _ h;exact h
   | cons a l ih=>
    intro st h1 h2;rw[List.foldl_cons];refine ih _ (fun x hx=>h1 x (List.mem_cons_of_mem _ hx)) ?_;have ha:=h1 a (List.mem_cons_self ..);unfold kF;intro x hx
    repeat' split at hx
    all_goals
     try simp only[List.mem_append,List.mem_singleton,List.mem_cons,List.not_mem_nil,or_false]at hx
    all_goals first
     | exact h2 x hx
     | (rcases hx with hx | rfl
        ·exact h2 x hx
        first|exact ha|exact hp)
     | (rcases hx with (hx | rfl) | rfl
        ·exact h2 x hx
        ·exact hp
        exact ha)
     | (rcases hx with hx | rfl | rfl
        ·exact h2 x hx
        ·exact hp
        exact ha)
  have hk:=key w.aS ([],false) hw (fun x hx=>by cases hx);split
  ·exact hk
  intro x hx;rcases List.mem_append.1 hx with hx|hx
  ·exact hk x hx
  rw[List.mem_singleton.1 hx];exact hp
 unfold jB;split
 ·exact hb
 split
 ·exact⟨hd,hb.ws,aQ _,by show 1≤100;omega,aQ _,fun k e=>(by cases e),fun _=>rfl,fun k e=>(by cases e),fun h=>h,fun r hr=>(by cases hr)⟩
 split
 ·exact⟨hd,hb.ws,aQ _,aQ _,by show 1≤100;omega,fun k e=>(by cases e),fun _=>rfl,fun k e=>(by cases e),fun h=>h,fun r hr=>(by cases hr)⟩
 split
 ·exact⟨hd,hl,aQ _,by show 1≤100;omega,aQ _,fun k e=>(by cases e),fun _=>rfl,fun k e=>(by cases e),hm,fun r hr=>(by cases hr)⟩
 exact hb
theorem adv {w:bE}{held:bh}{me:Int}{m:aM}(hd:w.aH.ok) (h:w.aS.length≤8) (hm:∀d∈m.proof,d.ok) (sA:m.proof.length≤1000) (nL:∀x∈w.aS,x.pt.root.ok):uB w (kO w held me m):=by
 have hb:=uB.base hd (show w.aS.length≤17 by omega);have h1:=Ad held m.size m.proof w.aS;have h2:=Gk me (gF held m.size m.proof w.aS).p (gF held m.size m.proof w.aS).al (gF held m.size m.proof w.aS).left;obtain⟨l',e1,s1⟩:=GX held m.size m.proof w.aS ⟨[],false,.zero,[]⟩;have tk:(gF held m.size m.proof w.aS).taken=true→∃x∈w.aS,(gF held m.size m.proof w.aS).p=x.pt∧x.pt.size=m.size∧lC held x.pt (m.proof.map aW.bd)=0:=LV held m.size m.proof w.aS ⟨[],false,.zero,[]⟩ rfl;have e1:(gF held m.size m.proof w.aS).left=l':=e1;obtain⟨l2,e2,s2,-⟩:=Sm me (gF held m.size m.proof w.aS).p (gF held m.size m.proof w.aS).left ⟨[],(gF held m.size m.proof w.aS).al,[]⟩;have e2:(lZ me (gF held m.size m.proof w.aS).p (gF held m.size m.proof w.aS).al (gF held m.size m.proof w.aS).left).rest=l2:=e2;unfold kO;generalize gF held m.size m.proof w.aS=S at *;split
 ·exact hb
 split
 ·exact⟨hd,by show S.left.length≤17;omega,aQ _,aQ _,by show S.al.length≤100;omega,fun k e=>(by cases e),fun _=>rfl,fun k e=>(by cases e),fun hw x hx=>hw x (s1.subset (e1▸hx)),fun r hr=>(by cases hr)⟩
 rename_i ht;split
 ·exact hb
 rename_i hR;obtain⟨x,hx,p1,p2,p3⟩:=tk (by cases q:S.taken<;>simp_all);generalize lZ me S.p S.al S.left=T at *;refine⟨abV hd (by rw[p1];exact nL x hx),by show T.rest.length≤17;omega,W9 _ _ _,by show T.le.length≤100;omega,by show T.al.length≤100;omega,fun k e=>?_,fun e=>(by cases e),fun k e=>?_,fun hw x hx=>hw x (s1.subset (e1▸s2.subset (e2▸hx))),Rt (by rw[p1];exact nL x hx)⟩
 ·cases e;exact⟨hm,sA⟩
 cases e;exact⟨rfl,hR⟩
theorem uL {w:bE}{me:Int}{l:aB}(hd:w.aH.ok) (nL:∀x∈w.aS,x.pt.root.ok):uB w (fO w me l):=by
 have hinv:=wq l.text;have pv:=Kc (s:=l.text);have jZ:=xi l.text;unfold fO;generalize bV l.text=W at *;obtain⟨x,code,at_⟩:=W;simp only at hinv pv jZ ⊢;split
 ·rename_i h;simp only[Bool.and_eq_true]at h;have h8:=uI h.1;split
  ·exact Xv hd h8 pv
  split
  ·rename_i c;simp only[Bool.and_eq_true,beq_iff_eq]at c;obtain⟨i1,i2,i3,-⟩:=hinv c.1;exact adv hd h8 i3 jZ.1 nL
  exact uB.base hd (by omega)
 exact⟨N7,aQ _,aQ _,aQ _,aQ _,fun k e=>(by cases e),fun _=>rfl,fun k e=>(by cases e),fun _ x hx=>(by cases hx),fun r hr=>(by cases hr)⟩
section
set_option maxHeartbeats 4000000
set_option maxRecDepth 10000
set_option linter.unusedSectionVars false
def aev:bX:=⟨[],[9,10,11],[24,26,30,44,47,50,51,52,57,58,59,62,76,88,138,185,186,187,253,254,297,311],false⟩
theorem abo (d:cS) (size:Int) (root:aW):(jA d size root).length≤8:=by
 rw[uZ];split
 ·exact Nat.le_refl 8
 exact aQ _
theorem agj (w:bE) (held:bh) (me:Int) (m:aM) (hl:w.aS.length≤8) (hd:w.aH.ok) (hp:∀d∈m.proof,d.ok) (g9:m.proof.length≤1000):bb Tryz.prog 215 [(1000000,0,one ⟨7,w.aS.map bG.cs,2,false⟩)] [Lq w,.agg held.cs,vI me,m.ro] (kO w held me m).av (kO w held me m).out:=by
 refine aA aev false Tryz.f215 ?_;conv=>enter[1];reduce
 refine bT Tryz.f215 171 [.cell 8 189] (by kernel_rfl) (by decide +kernel) rfl ?_;obtain⟨aH,l⟩:=w;simp only at hl hd;have lI:l.length≤maxLen:=by unfold maxLen;omega
 unfold kO;simp only;refine aw ?_;by_cases c1:m.from_=held.size
 ·have dU:(m.from_ != held.size)=false:=by rw[bne_eq_false_iff_eq];exact c1
  rw[if_neg (fun h=>h c1)];refine o4 dU ?_;refine jX [(10,7),(19004,13)] (fun n z=>∃(i:Nat) (S:tg),(i≤l.length∧S=gF held m.size m.proof (l.take i))∧n=l.length - i∧z=⟨171,[(2,vI me),(4,.ptr 4 0 [] 19 0 0),(5,.ptr 5 0 [] 5 0 0),(7,.ptr 7 0 [] 11 0 0),(8,.ptr 8 0 [] 19 0 0),(9,.ptr 9 0 [] 19 0 0),(10,.au 10 0 [] 7 0 S.left.length),(11,vB S.taken),(12,.ptr 12 0 [] 5 0 0),(29,.au 1000000 0 [] 7 0 l.length),(30,vI l.length),(31,vI i)],[(1000000,0,one ⟨7,l.map bG.cs,2,false⟩),(4,0,one ⟨19,[jf aH (.au 1000000 0 [] 7 0 l.length) .aG .aG .aG (.au 10004 0 [] 13 0 S.al.length)],0,false⟩),(10004,0,one ⟨13,S.al.map ec.cs,2,false⟩),(5,0,one ⟨5,[held.cs],0,false⟩),(7,0,one ⟨11,[m.pW],0,false⟩),(8,0,one ⟨19,[jf pN .aG .aG .aG .aG .aG],0,false⟩),(9,0,one ⟨19,[jf aH (.au 1000000 0 [] 7 0 l.length) .aG .aG .aG .aG],0,false⟩),(10,0,one ⟨7,S.left.map bG.cs,2,false⟩),(12,0,one ⟨5,[S.p.cs],0,false⟩)],1⟩) l.length ?_ ?_
  ·simp -implicitDefEqProofs only[go_sem,aM.pW];exact⟨0,_,⟨aQ _,rfl⟩,rfl,rfl⟩
  rintro n z ⟨i,S,⟨hi,hS⟩,rfl,rfl⟩;rcases bm i l.length with ab|bH
  ·have ae:(i:Int)<(l.length:Int):=by omega
   have hg:l[i]?=some l[i]:=bz ab;have hw:=df ab lI;have aE:=Th (held:=held) (size:=m.size) (P:=m.proof) ab;have hle:=Ad held m.size m.proof (l.take i);rw[List.length_take]at hle;rw[←hS]at aE hle;generalize l[i]=x at *;have Lf:=af5 held x.pt m.proof hp;obtain⟨left,tk,p,al⟩:=S;unfold hY at aE;simp only at aE hle;generalize lC held x.pt (m.proof.map aW.bd)=cd at *;have cN:∀v,_:=fun v=>mQ (L:=left.map bG.cs) (b:=56) (by rw[List.length_map];omega) (by omega) v
   have cA:∀v,_:=fun v=>mQ (L:=al.map ec.cs) (b:=104) (by rw[List.length_map];omega) (by omega) v
   cases tk with
   | true=>
    rw[if_pos (.inl rfl)]at aE;refine wi ae hg hw cN ?_;refine⟨_,by omega,i+1,_,⟨ab,aE.symm⟩,rfl,?_⟩;try simp only[nn]
    try rfl
   | false=>
    by_cases c2:x.pt.size=m.size
    ·have iA:(x.pt.size != m.size)=false:=by rw[bne_eq_false_iff_eq];exact c2
     rw[if_neg (fun h=>h.elim (by simp) (fun h=>h c2))]at aE;refine wi ae hg hw iA ?_;refine aq.intro Lf ?_;by_cases c3:cd=0
     ·have iJ:(cd != 0)=false:=by rw[bne_eq_false_iff_eq];exact c3
      rw[if_neg (fun h=>h c3)]at aE;refine yO hw cN iJ ?_;refine⟨_,by omega,i+1,_,⟨ab,aE.symm⟩,rfl,?_⟩;try simp only[nn]
      try rfl
     have iJ:(cd != 0)=true:=by rw[bne_iff_ne];exact c3
     rw[if_pos c3]at aE;refine yO hw cA iJ ?_;refine⟨_,by omega,i+1,_,⟨ab,aE.symm⟩,rfl,?_⟩;try simp only[nn]
     try rfl
    have iA:(x.pt.size != m.size)=true:=by rw[bne_iff_ne];exact c2
    rw[if_pos (.inr c2)]at aE;refine wj ae hg hw cN iA ?_;refine⟨_,by omega,i+1,_,⟨ab,aE.symm⟩,rfl,?_⟩;try simp only[nn]
    try rfl
  have hi:i=l.length:=by omega
  subst hi;have ae:¬((l.length:Int)<(l.length:Int)):=by omega
  have hle:=Ad held m.size m.proof l;rw[List.take_length]at hS;rw[←hS]at hle ⊢;obtain⟨left,tk,p,al⟩:=S;simp only at hle ⊢;have dT:=DJ left (by omega);cases tk with
  | false=>
   rw[if_pos rfl];refine o4 ae ?_;refine aq.intro dT ?_;simp -implicitDefEqProofs only[go_sem,eZ,Bool.false_eq_true]
  | true=>
   rw[if_neg (by simp)];have kT:=af4 aH p.size p.root hd;have hRl:=abo aH p.size p.root;generalize jA aH p.size p.root=R at *;by_cases hR:R=[]
   ·rw[if_pos hR];subst hR;have sJ:(((0:Nat):Int)==0)=true:=rfl;refine o4 ae ?_;refine aq.intro dT ?_;simp -implicitDefEqProofs only[go_sem,eZ];refine aq.intro kT ?_;exact A2 sJ
   rw[if_neg hR];have sJ:((R.length:Int)==0)=false:=by
    rw[beq_eq_false_iff_ne];intro h;exact hR (List.eq_nil_of_length_eq_zero (by omega))
   have Lu:=M7 aH R (by unfold maxLen;omega);have l4:=DI m.proof (by omega);refine o4 ae ?_;refine aq.intro dT ?_;simp -implicitDefEqProofs only[go_sem,eZ];refine aq.intro kT ?_;refine o4 sJ ?_;refine cz Lu ?_;refine cz l4 ?_;generalize ep aH R=D at *;refine jX [(16,7),(18004,3)] (fun n z=>∃(i:Nat) (H:uA),(i≤left.length∧H=lZ me p al (left.take i))∧n=left.length - i∧z=⟨171,[(2,vI me),(4,.ptr 4 0 [] 19 0 0),(8,.ptr 8 0 [] 19 0 0),(12,.ptr 12 0 [] 5 0 0),(16,.au 16 0 [] 7 0 H.rest.length),(113,.au 113 0 [] 7 0 left.length),(114,vI left.length),(115,vI i)],[(1000000,0,one ⟨7,l.map bG.cs,2,false⟩),(4,0,one ⟨19,[jf D (.au 10004 0 [] 7 0 left.length) (.au 20004 0 [] 3 0 R.length) (.au 30004 0 [] 11 0 1) (.au 40004 0 [] 3 0 H.le.length) (.au 50004 0 [] 13 0 H.al.length)],0,false⟩),(10004,0,one ⟨7,left.map bG.cs,2,false⟩),(20004,0,one ⟨3,R.map cL.cs,2,false⟩),(30004,0,one ⟨11,[iK.cs ⟨held,p,m.proof⟩ (.au 60004 0 [] 4 0 m.proof.length)],0,false⟩),(40004,0,one ⟨3,H.le.map aB.cs,2,false⟩),(50004,0,one ⟨13,H.al.map ec.cs,2,false⟩),(60004,0,one ⟨4,m.proof.map aW.cs,2,false⟩),(8,0,one ⟨19,[jf pN .aG .aG .aG .aG .aG],0,false⟩),(12,0,one ⟨5,[p.cs],0,false⟩),(16,0,one ⟨7,H.rest.map bG.cs,2,false⟩),(113,0,one ⟨7,left.map bG.cs,2,false⟩)],1⟩) left.length ?_ ?_
   ·refine aw ?_;exact⟨0,_,⟨aQ _,rfl⟩,rfl,rfl⟩
   rintro n z ⟨i,H,⟨hi,hS⟩,rfl,rfl⟩;have q5:=Gk me p al (left.take i);rw[List.length_take,←hS]at q5;rcases bm i left.length with ab|bH
   ·have ae:(i:Int)<(left.length:Int):=by omega
    have hg:left[i]?=some left[i]:=bz ab;have hw:=df ab (show left.length≤maxLen by unfold maxLen;omega);have aE:=Sn (me:=me) (p:=p) (al:=al) ab;rw[←hS]at aE;generalize left[i]=x at *;have sH:=Vb me x.br x.bR p;obtain⟨le,DU,rest⟩:=H;unfold lM at aE;simp only at aE q5;have cN:∀v,_:=fun v=>mQ (L:=le.map aB.cs) (b:=32) (by rw[List.length_map];omega) (by omega) v
    have cA:∀v,_:=fun v=>mQ (L:=DU.map ec.cs) (b:=104) (by rw[List.length_map];omega) (by omega) v
    have fZ:∀v,_:=fun v=>mQ (L:=rest.map bG.cs) (b:=56) (by rw[List.length_map];omega) (by omega) v
    cases e1:ed x.pt p with
    | true=>
     rw[if_pos e1]at aE;have gi:=e1;unfold ed at gi;refine wi ae hg hw gi ?_;refine aq.intro sH ?_;refine o0 cN hw ?_;refine⟨_,by omega,i+1,_,⟨ab,aE.symm⟩,rfl,?_⟩;try simp only[nn]
     try rfl
    | false=>
     rw[if_neg (by rw[e1];simp)]at aE;have gi:=e1;unfold ed at gi;by_cases e2:x.pt.size=p.size
     ·have fR:(x.pt.size==p.size)=true:=by rw[e2];simp
      rw[if_pos e2]at aE;rw[fR,Bool.true_and]at gi;simp -implicitDefEqProofs only[go_sem,ae,hg,hw,gi,fR,cA,eZ];refine⟨_,by omega,i+1,_,⟨ab,aE.symm⟩,rfl,?_⟩;try simp only[nn]
      try rfl
     have fR:(x.pt.size==p.size)=false:=beq_eq_false_iff_ne.2 e2;rw[if_neg e2]at aE;by_cases e3:x.pt.size>p.size
     ·rw[if_pos e3]at aE;simp -implicitDefEqProofs only[go_sem,ae,hg,hw,gi,fR,e3,fZ,eZ];refine⟨_,by omega,i+1,_,⟨ab,aE.symm⟩,rfl,?_⟩;try simp only[nn]
      try rfl
     rw[if_neg e3]at aE;simp -implicitDefEqProofs only[go_sem,ae,hg,hw,gi,fR,e3,eZ];refine⟨_,by omega,i+1,_,⟨ab,aE.symm⟩,rfl,?_⟩;try simp only[nn]
     try rfl
   have hi:i=left.length:=by omega
   subst hi;have ae:¬((left.length:Int)<(left.length:Int)):=by omega
   rw[List.take_length]at hS;rw[←hS];obtain⟨le,DU,rest⟩:=H;simp only at q5;have adk:=DJ rest (by omega);refine o4 ae ?_;refine aq.intro adk ?_;exact dt
 have dU:(m.from_ != held.size)=true:=by rw[bne_iff_ne];exact c1
 rw[if_pos c1];exact A2 dU
end
section
set_option maxHeartbeats 4000000
set_option maxRecDepth 10000
set_option linter.unusedSectionVars false
def Mp:bX:=⟨[],[9,10,11],[24,26,30,44,47,50,51,52,57,58,59,62,76,88,138,185,186,187,253,254,297,311],false⟩
theorem Ve (at_:Int) (S:dM) (h:S.ok):aR Tryz.prog 250 [vI at_,.agg S.cs] (.au 0 0 [] 3 0 (eL at_ S).length) [([],⟨3,(eL at_ S).map cL.cs,2,false⟩)]:=by
 refine aA Mp false Tryz.f250 ?_;conv=>enter[1];reduce
 refine bf Tryz.f250 46 [.tmp 4] (by kernel_rfl) (by decide +kernel) rfl ?_;have hS:=Ng S h;refine aw ?_;refine aq.intro hS ?_;cases hs:fX S with
 | true=>
  have e2:eL at_ S=[]:=by unfold eL;rw[hs];rfl
  rw[e2];exact dt
 | false=>
  have e2:eL at_ S=i5 at_ S.wl 7:=by unfold eL;rw[hs];rfl
  rw[e2];refine aw ?_;refine cR (fun n s=>∃k,k≤7∧n=7 - k∧s=⟨46,[(0,vI at_),(5,.au 5 0 [] 3 0 (i5 at_ S.wl k).length),(6,.ptr 6 0 [] 7 0 0),(7,vI k)],[(5,0,one ⟨3,(i5 at_ S.wl k).map cL.cs,2,false⟩),(6,0,one ⟨7,[S.cs],0,false⟩)],1⟩) 7 ?_ ?_
  ·refine aw ?_;exact⟨0,by omega,rfl,rfl⟩
  rintro n s ⟨k,hk,rfl,rfl⟩;have qm:=FM at_ S.wl k;have ej:=E8 (i5 at_ S.wl k) (by omega);rcases bm k 7 with ab|bH
  ·have kt:=J2 at_ S.wl k;have vj:([vU S.sum,vU S.seq,vU S.size,vU S.root.a,vU S.root.b,vU S.root.c,vU S.root.d]:List AV)[k]?=some (vU (S.wl.getD k 0)):=by
    have q9:k=0∨k=1∨k=2∨k=3∨k=4∨k=5∨k=6:=by omega
    rcases q9 with rfl|rfl|rfl|rfl|rfl|rfl|rfl<;>rfl
   have ae:(k:Int)<7:=by omega
   have mG:0≤(k:Int)∧(k:Int)<7:=by omega
   have SH:0≤(k:Int)∧(k:Int)<((7:Nat):Int):=by omega
   have w1:IntKind.i64.wrap ((k:Int)+1)=((k+1:Nat):Int):=by rw[aV (by omega)];omega
   generalize S.wl.getD k 0=v at *;by_cases z:v=0
   ·have hb:((v:Int) != 0)=false:=by rw[z];rfl
    rw[if_pos z,List.append_nil]at kt;simp -implicitDefEqProofs only[go_sem,ae,mG,SH,vj,Nat.mul_one,hb,w1];exact⟨_,by omega,k+1,ab,rfl,by first|(rw[kt];done)|(rw[kt];rfl)⟩
   have hb:((v:Int) != 0)=true:=by rw[bne_iff_ne];omega
   rw[if_neg z]at kt;simp -implicitDefEqProofs only[go_sem,ae,mG,SH,vj,Nat.mul_one,hb,ej,w1];refine⟨_,by omega,k+1,ab,rfl,?_⟩;rw[kt];simp only[List.length_append,List.length_map,List.map_append,List.length_cons,List.length_nil,List.map_cons,List.map_nil];try rfl
  have q9:k=7:=by omega
  subst q9;have y7:¬(((7:Nat):Int)<7):=by decide
  exact er y7
theorem Vv (d:cS) (h:d.ok):aR Tryz.prog 197 [.agg d.cs] (.au 0 0 [] 3 0 (gw d).length) [([],⟨3,(gw d).map cL.cs,2,false⟩)]:=by
 refine aA Mp false Tryz.f197 ?_;conv=>enter[1];reduce
 refine bf Tryz.f197 26 [.tmp 2] (by kernel_rfl) (by decide +kernel) rfl ?_;have h1:=Ve 1 d.one h.a;have h2:=Ve 2 d.two h.b;have l1:=B2 1 d.one;have l2:=B2 2 d.two;unfold gw;generalize eL 1 d.one=A at *;generalize eL 2 d.two=B at *;have hm:B.length≤maxLen:=by unfold maxLen;omega
 refine aw ?_;refine cz h1 ?_;refine cz h2 ?_;refine cR (fun n s=>∃i,i≤B.length∧n=B.length - i∧s=⟨26,[(3,.au 3 0 [] 3 0 (A++B.take i).length),(4,.au 4 0 [] 3 0 B.length),(5,vI i)],[(3,0,one ⟨3,(A++B.take i).map cL.cs,2,false⟩),(4,0,one ⟨3,B.map cL.cs,2,false⟩)],1⟩) B.length ?_ ?_
 ·refine aw ?_;refine⟨0,aQ _,rfl,?_⟩;rw[List.take_zero,List.append_nil];try rfl
 rintro n s ⟨i,hi,rfl,rfl⟩;rcases bm i B.length with ab|bH
 ·have ae:(i:Int)<(B.length:Int):=by omega
  have hg:B[i]?=some B[i]:=bz ab;have hw:=df ab hm;have ej:=E8 (A++B.take i) (by rw[List.length_append,List.length_take];omega);have jr:=Bh ab;refine eI ae hg hw ej ?_;refine⟨_,by omega,i+1,ab,rfl,?_⟩;rw[jr,←List.append_assoc];simp only[List.length_append,List.length_map,List.map_append,List.length_cons,List.length_nil,List.map_cons,List.map_nil];try rfl
 have hi:i=B.length:=by omega
 subst hi;have ae:¬((B.length:Int)<(B.length:Int)):=by omega
 rw[List.take_length];exact er ae
theorem Vw (d:cS) (l:List cL) (cut:Int) (hl:l.length≤maxLen):aR Tryz.prog 196 [.agg d.cs,.ro 3 (l.map cL.cs),vI cut] (.agg (eX d l cut).cs) []:=by
 refine aA Mp false Tryz.f196 ?_;conv=>enter[1];reduce
 refine bf Tryz.f196 20 [.cell 6 75] (by kernel_rfl) (by decide +kernel) rfl ?_;unfold eX;have yh:=M0 d (l.take cut.toNat) (by rw[List.length_take];omega);by_cases c1:cut<0
 ·have e:l.take cut.toNat=l.take 0:=by rw[show cut.toNat=0 by omega]
  rw[e]at yh ⊢;have c2:¬((0:Int)>(l.length:Int)):=by omega
  have c3:(0:Int)≤0∧(0:Int)≤(l.length:Int):=by omega
  simp -implicitDefEqProofs only[go_sem,c1,c2,c3,Nat.sub_zero];refine aq.intro yh ?_;exact dt
 by_cases c2:cut>(l.length:Int)
 ·have e:l.take cut.toNat=l:=List.take_of_length_le (by omega);rw[e]at yh ⊢;have c3:(0:Int)≤(l.length:Int)∧(l.length:Int)≤(l.length:Int):=by omega
  simp -implicitDefEqProofs only[go_sem,c1,c2,c3,Nat.sub_zero,List.take_length];refine aq.intro yh ?_;exact dt
 have c3:(0:Int)≤cut∧cut≤(l.length:Int):=by omega
 simp -implicitDefEqProofs only[go_sem,c1,c2,c3,Nat.sub_zero];refine aq.intro yh ?_;exact dt
end
end Go.Proofs.YtobpfkgabdeefaaGreat.E
