/- Contracts: what comes of a vouch; what comes of a growth, of a letter, in plain data; Plain law: witnesses that are ok, without places; what was taken of a growth; Plain law: wishes stay in order; Plain law: a witness stays ok, and never holds less; Plain law: the letters of a witness are read back; Plain law: sizes and words of what a witness hears; its raw writes are those of what it keeps; Cont -/
import Derived.Test.YtobpfkgabdeefaaGreatQ23
import Derived.Test.YtobpfkgabdeefaaGreatQ26
import Derived.Test.YtobpfkgabdeefaaGreatQ18
namespace Go.Proofs.YtobpfkgabdeefaaGreat.E
open Go Go.RowKit
set_option linter.unusedSimpArgs false
set_option linter.unusedVariables false
section
set_option maxHeartbeats 4000000
set_option maxRecDepth 10000
set_option linter.unusedSectionVars false
def Uf:cc:=⟨[(238,.cm [false]),(274,.cm [false,false])],cw,cz,false⟩
structure iZ where
 jn:cg
 new:cg
 proof:List aX
def iZ.cs (k:iZ) (a:AV):List AV:=k.jn.cs++(k.new.cs++[a])
structure fm where
 aH:cX
 aQ:List bD
 eG:List cR
 kept:Option iZ
 bR:List aC
 dN:List ez
def fm.av (h:fm):AV:=.agg (h.aH.cs++[.aw 0 0 [] 7 0 h.aQ.length,.aw 1 0 [] 3 0 h.eG.length,.aw 2 0 [] 11 0 h.kept.toList.length,.aw 3 0 [] 3 0 h.bR.length,.aw 4 0 [] 13 0 h.dN.length])
def Se:Option iZ->Row
 | none=>⟨11,[],2,false⟩
 | some k=>⟨11,[k.cs (.aw 5 0 [] 4 0 k.proof.length)],0,false⟩
def Sd:Option iZ->ak
 | none=>[]
 | some k=>[(5,0,one ⟨4,k.proof.map aX.cs,2,false⟩)]
def fm.out (h:fm):ak:=[(0,0,one ⟨7,h.aQ.map bD.cs,2,false⟩),(1,0,one ⟨3,h.eG.map cR.cs,2,false⟩),(2,0,one (Se h.kept)),(3,0,one ⟨3,h.bR.map aC.cs,2,false⟩),(4,0,one ⟨13,h.dN.map ez.cs,2,false⟩)]++Sd h.kept
def fm.base (w:bz):fm:=⟨w.aH,w.aQ,[],none,[],[]⟩
attribute [go_sem] iZ.cs fm.av Se Sd fm.out Option.toList_none Option.toList_some fm.base
def FT (me a b:Int):aC:=⟨me,0,gy ⟨4,0,a,b,gh,0,[],[]⟩⟩
def jR (w:bz) (held:cg) (me bh s:Int) (p:cg):fm:=
 if p.size=0\/p.size<held.size then .base w
 else if eu p held then {fm.base w with bR:=[rk me bh s p]}
 else if p.size=held.size then {fm.base w with dN:=[⟨1,bh,held,p,0⟩]}
 else if (mb w.aQ ⟨bh,s,p⟩).length<=8 then {fm.base w with aQ:=mb w.aQ ⟨bh,s,p⟩,bR:=[FT me held.size p.size]}
 else .base w
theorem J6 {l:List bD}(h:l.length<=8) (x:bD):(mb l x).length<=17:=by
 have:=Is x l;unfold mb;split
 ·omega
 rw[List.length_append];simp;omega
def Lh (w:bz):AV:=.agg (w.aH.cs++[.aw 1000000 0 [] 7 0 w.aQ.length,.aG,.aG,.aG,.aG])
attribute [go_sem] Lh
theorem agu (w:bz) (held:cg) (me bh:Int) (m:aJ) (hl:w.aQ.length<=8):aY Tryz.prog 214 [(1000000,0,one ⟨7,w.aQ.map bD.cs,2,false⟩)] [Lh w,.agg held.cs,vI me,vI bh,m.ro] (jR w held me bh m.bU ⟨m.size,m.root⟩).av (jR w held me bh m.bU ⟨m.size,m.root⟩).out:=by
 refine aF Uf false Tryz.f214 ?_;conv=>enter[1];reduce
 refine bI Tryz.f214 80 [.cell 10 189] (by kernel_rfl) (by decide +kernel) rfl ?_;have sZ:=Vc me bh m.bU ⟨m.size,m.root⟩;have iT:=agf w.aQ ⟨bh,m.bU,⟨m.size,m.root⟩⟩ hl;have ir:=J6 hl ⟨bh,m.bU,⟨m.size,m.root⟩⟩;have gU:=Dv me 0 ⟨4,0,held.size,m.size,gh,0,[],[]⟩ rfl rfl;unfold jR;simp only;generalize hA:rk me bh m.bU ⟨m.size,m.root⟩=A at *;generalize hW:mb w.aQ ⟨bh,m.bU,⟨m.size,m.root⟩⟩=W at *;refine au ?_;by_cases c1:m.size=0
 ·have d6:(m.size==0)=true:=by rw[c1];rfl
  rw[if_pos (.inl c1)];exact AU d6
 have d6:(m.size==0)=false:=beq_eq_false_iff_ne.2 c1;by_cases c2:m.size<held.size
 ·rw[if_pos (.inr c2)];exact AW d6 c2
 rw[if_neg (fun h=>h.elim c1 c2)];cases c3:eu ⟨m.size,m.root⟩ held with
 | true=>
  have iX:=c3;unfold eu at iX;simp only at iX;refine yO d6 c2 iX ?_;refine aq.intro sZ ?_;exact dy
 | false=>
  have iX:=c3;unfold eu at iX;simp only at iX;by_cases c4:m.size=held.size
  ·have uz:(m.size==held.size)=true:=by rw[c4];simp
   rw[if_neg (by simp),if_pos c4];rw[uz,Bool.true_and]at iX;simp -implicitDefEqProofs only[go_sem,d6,c2,iX,uz,bb]
  have uz:(m.size==held.size)=false:=beq_eq_false_iff_ne.2 c4;rw[if_neg (by simp),if_neg c4];simp -implicitDefEqProofs only[go_sem,d6,c2,iX,uz,bb];refine aq.intro iT ?_;by_cases c5:W.length<=8
  ·have yz:¬((W.length:Int)>8):=by omega
   rw[if_pos c5];refine yQ yz ?_;refine cT (DF W (by omega)) ?_;refine cT gU ?_;rfl
  have yz:((W.length:Int)>8):=by omega
  rw[if_neg c5];simp -implicitDefEqProofs only[go_sem,yz,aT,aV]
theorem ago (w:bz) (me bh:Int) (m:aJ) (hl:w.aQ.length<=8) (hd:w.aH.ok) (hr:m.root.ok):aY Tryz.prog 236 [] [w.ro,vI me,vI bh,m.ro] (jR w (cO w.aH) me bh m.bU ⟨m.size,m.root⟩).av (jR w (cO w.aH) me bh m.bU ⟨m.size,m.root⟩).out:=by
 refine aF Uf false Tryz.f236 ?_;conv=>enter[1];reduce
 refine bI Tryz.f236 91 [.cell 8 189] (by kernel_rfl) (by decide +kernel) rfl ?_;have my:=MP w (by omega);have xY:=Hz w.aH hd;have sZ:=U9 me ⟨bh,m.bU,⟨m.size,m.root⟩⟩ hr;have iT:=aga w.aQ ⟨bh,m.bU,⟨m.size,m.root⟩⟩ hl;generalize cO w.aH=held at *;have ir:=J6 hl ⟨bh,m.bU,⟨m.size,m.root⟩⟩;have gU:=wL ⟨4,0,held.size,m.size,gh,0,[],[]⟩ rfl rfl pX;unfold jR;simp only at sZ ⊢;generalize hA:rk me bh m.bU ⟨m.size,m.root⟩=A at *;generalize hW:mb w.aQ ⟨bh,m.bU,⟨m.size,m.root⟩⟩=W at *;refine au ?_;refine ep my ?_;refine aq.intro xY ?_;by_cases c1:m.size=0
 ·have d6:(m.size==0)=true:=by rw[c1];rfl
  rw[if_pos (.inl c1)];exact AU d6
 have d6:(m.size==0)=false:=beq_eq_false_iff_ne.2 c1;by_cases c2:m.size<held.size
 ·rw[if_pos (.inr c2)];exact AW d6 c2
 rw[if_neg (fun h=>h.elim c1 c2)];cases c3:eu ⟨m.size,m.root⟩ held with
 | true=>
  have iX:=c3;unfold eu at iX;simp only at iX;refine yO d6 c2 iX ?_;refine aq.intro sZ ?_;exact dy
 | false=>
  have iX:=c3;unfold eu at iX;simp only at iX;by_cases c4:m.size=held.size
  ·have uz:(m.size==held.size)=true:=by rw[c4];simp
   rw[if_neg (by simp),if_pos c4];rw[uz,Bool.true_and]at iX;simp -implicitDefEqProofs only[go_sem,d6,c2,iX,uz,bb]
  have uz:(m.size==held.size)=false:=beq_eq_false_iff_ne.2 c4;rw[if_neg (by simp),if_neg c4];simp -implicitDefEqProofs only[go_sem,d6,c2,iX,uz,bb];refine aE.intro iT ?_;by_cases c5:W.length<=8
  ·have yz:decide (W.length<=8)=true:=decide_eq_true c5;rw[if_pos c5];refine Im yz ?_;refine cT gU ?_;rfl
  have yz:decide (W.length<=8)=false:=decide_eq_false c5;rw[if_neg c5];simp -implicitDefEqProofs only[go_sem,yz,Bool.not_false,aT,aV]
theorem Uy {l:List aX}(h:∀d∈l,d.ok):(l.map aX.bd).map BD.cs=l.map aX.cs:=by
 rw[List.map_map];refine List.map_congr_left fun d hd=>?_
 show d.bd.dg.cs=d.cs
 rw[aX.ahN (h d hd)]
theorem agd (o p:cg) (P:List aX) (h:∀d∈P,d.ok):ba Tryz.prog 261 [.agg o.cs,.agg p.cs,.ro 4 (P.map aX.cs)] (vI (lO o p (P.map aX.bd))) []:=by
 rw[<-Uy h];exact age o p _
theorem af8 (o p:cg) (P:List aX) (h:∀d∈P,d.ok):ba Tryz.prog 275 [.agg o.cs,.agg p.cs,.ro 4 (P.map aX.cs)] (vI (lO o p (P.map aX.bd))) []:=by
 rw[<-Uy h];exact af9 o p _
structure tA where
 left:List bD
 taken:Bool
 p:cg
 al:List ez
def iv (held:cg) (size:Int) (P:List aX) (s:tA) (x:bD):tA:=
 if s.taken=true\/x.pt.size≠size then {s with left:=s.left++[x]}
 else if lO held x.pt (P.map aX.bd)≠0 then {s with al:=s.al++[⟨2,x.bh,held,x.pt,lO held x.pt (P.map aX.bd)⟩]}
 else {s with left:=s.left++[x],taken:=true,p:=x.pt}
def gF (held:cg) (size:Int) (P:List aX) (l:List bD):tA:=l.foldl (iv held size P) ⟨[],false,.zero,[]⟩
theorem Tm {held:cg}{size:Int}{P:List aX}{l:List bD}{i:Nat}(h:i<l.length):gF held size P (l.take (i+1))=iv held size P (gF held size P (l.take i)) l[i]:=by
 unfold gF;rw[List.take_succ_eq_append_getElem h,List.foldl_append];rfl
theorem adU (held:cg) (size:Int) (P:List aX) (l:List bD):∀s:tA,(l.foldl (iv held size P) s).left.length+(l.foldl (iv held size P) s).al.length=s.left.length+s.al.length+l.length:=by
 induction l with
 | nil=>intro s;simp
 | cons a l ih=>
  intro s;rw[List.foldl_cons,ih,List.length_cons];have e:(iv held size P s a).left.length+(iv held size P s a).al.length=s.left.length+s.al.length+1:=by
   unfold iv
   repeat' split
   all_goals simp
   all_goals omega
  omega
theorem zZ (held:cg) (size:Int) (P:List aX) (l:List bD):(gF held size P l).left.length<=l.length/\(gF held size P l).al.length<=l.length:=by
 have:=adU held size P l ⟨[],false,.zero,[]⟩;unfold gF;simp only[List.length_nil]at this;omega
structure wA where
 le:List aC
 al:List ez
 rest:List bD
def lW (me:Int) (p:cg) (s:wA) (x:bD):wA:=
 if eu x.pt p=true then {s with le:=s.le++[rk me x.bh x.bU p]}
 else if x.pt.size=p.size then {s with al:=s.al++[⟨1,x.bh,p,x.pt,0⟩]}
 else if x.pt.size>p.size then {s with rest:=s.rest++[x]}
 else s
def mm (me:Int) (p:cg) (al:List ez) (l:List bD):wA:=l.foldl (lW me p) ⟨[],al,[]⟩
theorem Sq {me:Int}{p:cg}{al:List ez}{l:List bD}{i:Nat}(h:i<l.length):mm me p al (l.take (i+1))=lW me p (mm me p al (l.take i)) l[i]:=by
 unfold mm;rw[List.take_succ_eq_append_getElem h,List.foldl_append];rfl
theorem acU (me:Int) (p:cg) (l:List bD):∀s:wA,(l.foldl (lW me p) s).le.length+(l.foldl (lW me p) s).al.length+(l.foldl (lW me p) s).rest.length<=s.le.length+s.al.length+s.rest.length+l.length:=by
 induction l with
 | nil=>intro s;simp
 | cons a l ih=>
  intro s;rw[List.foldl_cons,List.length_cons];have:=ih (lW me p s a);have e:(lW me p s a).le.length+(lW me p s a).al.length+(lW me p s a).rest.length<=s.le.length+s.al.length+s.rest.length+1:=by
   unfold lW
   repeat' split
   all_goals simp
   all_goals omega
  omega
theorem Gk (me:Int) (p:cg) (al:List ez) (l:List bD):(mm me p al l).le.length<=al.length+l.length/\(mm me p al l).al.length<=al.length+l.length/\(mm me p al l).rest.length<=al.length+l.length:=by
 have:=acU me p l ⟨[],al,[]⟩;unfold mm;simp only[List.length_nil]at this;omega
def k9 (w:bz) (held:cg) (me:Int) (m:aJ):fm:=
 if m.from_≠held.size then .base w
 else if (gF held m.size m.proof w.aQ).taken=false then {fm.base w with aQ:=(gF held m.size m.proof w.aQ).left,dN:=(gF held m.size m.proof w.aQ).al}
 else if jQ w.aH (gF held m.size m.proof w.aQ).p.size (gF held m.size m.proof w.aQ).p.root=[] then .base w
 else⟨eB w.aH (jQ w.aH (gF held m.size m.proof w.aQ).p.size (gF held m.size m.proof w.aQ).p.root),(mm me (gF held m.size m.proof w.aQ).p (gF held m.size m.proof w.aQ).al (gF held m.size m.proof w.aQ).left).rest,jQ w.aH (gF held m.size m.proof w.aQ).p.size (gF held m.size m.proof w.aQ).p.root,some ⟨held,(gF held m.size m.proof w.aQ).p,m.proof⟩,(mm me (gF held m.size m.proof w.aQ).p (gF held m.size m.proof w.aQ).al (gF held m.size m.proof w.aQ).left).le,(mm me (gF held m.size m.proof w.aQ).p (gF held m.size m.proof w.aQ).al (gF held m.size m.proof w.aQ).left).al⟩
def jA (d:cX) (w r k l a:AV):List AV:=d.cs++[w,r,k,l,a]
attribute [go_sem] jA
def fm.zero:fm:=⟨qb,[],[],none,[],[]⟩
attribute [go_sem] fm.zero
def fX (w:bz) (me:Int) (l:aC):fm:=
 if iQ w&&(df l&&aS me 1 20) then
  (if ((cf l.text).2.1==0)&&(((cf l.text).1.kind==3)&&decide (l.from_>0)) then jR w (cO w.aH) me l.from_ (cf l.text).1.bU ⟨(cf l.text).1.size,(cf l.text).1.root⟩
   else if ((cf l.text).2.1==0)&&(((cf l.text).1.kind==5)&&(l.from_==0)) then k9 w (cO w.aH) me (cf l.text).1
   else .base w)
 else .zero
theorem tH {w:bz}(h:iQ w=true):w.aQ.length<=8:=by
 unfold iQ at h;rw[Bool.and_eq_true,decide_eq_true_eq]at h;exact h.1
theorem XF (w:bz) (held:cg) (me bh s:Int) (p:cg):(jR w held me bh s p).bR.length<=100/\(jR w held me bh s p).dN.length<=100:=by
 unfold jR
 repeat' split
 all_goals simp[fm.base]
theorem adL (w:bz) (held:cg) (me:Int) (m:aJ) (h:w.aQ.length<=8):(k9 w held me m).bR.length<=100/\(k9 w held me m).dN.length<=100:=by
 have h1:=zZ held m.size m.proof w.aQ;have h2:=Gk me (gF held m.size m.proof w.aQ).p (gF held m.size m.proof w.aQ).al (gF held m.size m.proof w.aQ).left;unfold k9
 repeat' split
 ·simp[fm.base]
 ·constructor
  ·simp[fm.base]
  show(gF held m.size m.proof w.aQ).al.length<=100;omega
 ·simp[fm.base]
 constructor
 ·show(mm me (gF held m.size m.proof w.aQ).p (gF held m.size m.proof w.aQ).al (gF held m.size m.proof w.aQ).left).le.length<=100;omega
 show(mm me (gF held m.size m.proof w.aQ).p (gF held m.size m.proof w.aQ).al (gF held m.size m.proof w.aQ).left).al.length<=100;omega
end
def nU (h:Int) (x:bD):Bool:=aS x.bh 1 20&&(aS x.bU 1 1000000&&aS x.pt.size (h+1) 256)
theorem Oi {h:Int}{l:List bD}(hi:0<l.length):gW h l 0=nU h l[0]:=by
 unfold gW nU;rw[bm hi];simp
theorem Iv {h:Int}{l:List bD}{j:Nat}(hi:j+1<l.length):gW h l (j+1)=(nU h l[j+1]&&decide (l[j].bh<l[j+1].bh)):=by
 unfold gW nU;rw[bm hi];simp only[bm (show j<l.length by omega)];cases aS l[j+1].bh 1 20<;>cases decide (l[j].bh<l[j+1].bh)<;>simp
theorem sj {w:bz}:iQ w=true<->w.aQ.length<=8/\w.aQ.Pairwise (fun x y=>x.bh<y.bh)/\∀x∈w.aQ,nU (cO w.aH).size x=true:=by
 obtain⟨d,l⟩:=w;unfold iQ;simp only[Bool.and_eq_true,decide_eq_true_eq,List.all_eq_true,List.mem_range];generalize (cO d).size=h;constructor
 ·rintro⟨h8,ha⟩;have WB:∀j (hj:j+1<l.length),l[j].bh<l[j+1].bh:=fun j hj=>by
   have:=ha (j+1) hj;rw[Iv hj,Bool.and_eq_true,decide_eq_true_eq]at this;exact this.2
  refine⟨h8,List.pairwise_iff_getElem.2 fun i j hi hj oZ=>?_,fun x hx=>?_⟩
  ·induction j with
   | zero=>omega
   | succ j ih=>
    rcases Nat.lt_succ_iff_lt_or_eq.1 oZ with oZ|rfl
    ·exact Int.lt_trans (ih (by omega) oZ) (WB j hj)
    exact WB i hj
  obtain⟨i,hi,rfl⟩:=List.getElem_of_mem hx;cases i with
  | zero=>rw[<-Oi hi];exact ha 0 hi
  | succ j=>
   have:=ha (j+1) hi;rw[Iv hi,Bool.and_eq_true]at this;exact this.1
 rintro⟨h8,hp,ha⟩;refine⟨h8,fun i hi=>?_⟩;cases i with
 | zero=>rw[Oi hi];exact ha _ (List.getElem_mem hi)
 | succ j=>
  rw[Iv hi,Bool.and_eq_true,decide_eq_true_eq];exact⟨ha _ (List.getElem_mem hi),List.pairwise_iff_getElem.1 hp j (j+1) (by omega) hi (by omega)⟩
theorem adV (held:cg) (size:Int) (P:List aX) (l:List bD):∀s:tA,s.taken=true->(l.foldl (iv held size P) s).taken=true/\(l.foldl (iv held size P) s).p=s.p:=by
 induction l with
 | nil=>intro s h;exact⟨h,rfl⟩
 | cons a l ih=>
  intro s h;have e:iv held size P s a={s with left:=s.left++[a]}:=by unfold iv;rw[if_pos (.inl h)]
  rw[List.foldl_cons,e];exact ih _ h
theorem LJ (held:cg) (size:Int) (P:List aX) (l:List bD):∀s:tA,s.taken=false->(l.foldl (iv held size P) s).taken=true->∃x∈l,(l.foldl (iv held size P) s).p=x.pt/\x.pt.size=size/\lO held x.pt (P.map aX.bd)=0:=by
 induction l with
 | nil=>intro s h h2;rw[List.foldl_nil,h]at h2;cases h2
 | cons a l ih=>
  intro s h h2;rw[List.foldl_cons]at h2 ⊢;by_cases c:s.taken=true\/a.pt.size≠size
  ·have e:iv held size P s a={s with left:=s.left++[a]}:=by unfold iv;rw[if_pos c]
   rw[e]at h2 ⊢;obtain⟨x,hx,r⟩:=ih {s with left:=s.left++[a]} h h2;exact⟨x,List.mem_cons_of_mem _ hx,r⟩
  by_cases g:lO held a.pt (P.map aX.bd)≠0
  ·have e:iv held size P s a={s with al:=s.al++[⟨2,a.bh,held,a.pt,lO held a.pt (P.map aX.bd)⟩]}:=by unfold iv;rw[if_neg c,if_pos g]
   rw[e]at h2 ⊢;obtain⟨x,hx,r⟩:=ih {s with al:=s.al++[⟨2,a.bh,held,a.pt,lO held a.pt (P.map aX.bd)⟩]} h h2;exact⟨x,List.mem_cons_of_mem _ hx,r⟩
  have e:iv held size P s a={s with left:=s.left++[a],taken:=true,p:=a.pt}:=by unfold iv;rw[if_neg c,if_neg g]
  rw[e]at h2 ⊢;refine⟨a,List.mem_cons_self ..,(adV held size P l _ rfl).2,?_,?_⟩
  ·exact Classical.byContradiction fun h=>c (.inr h)
  exact Classical.byContradiction fun h=>g h
theorem G4 (held:cg) (size:Int) (P:List aX) (l:List bD):∀s:tA,∃l',(l.foldl (iv held size P) s).left=s.left++l'/\l'.Sublist l:=by
 induction l with
 | nil=>intro s;exact⟨[],(List.append_nil _).symm,List.Sublist.refl _⟩
 | cons a l ih=>
  intro s;rw[List.foldl_cons];obtain⟨l',e,hs⟩:=ih (iv held size P s a);have:(iv held size P s a).left=s.left++[a]\/(iv held size P s a).left=s.left:=by
   unfold iv;split
   ·exact .inl rfl
   split
   ·exact .inr rfl
   exact .inl rfl
  rcases this with t|t
  ·exact⟨a::l',by rw[e,t,List.append_assoc];rfl,hs.cons_cons a⟩
  exact⟨l',by rw[e,t],hs.cons a⟩
theorem Sp (me:Int) (p:cg) (l:List bD):∀s:wA,∃l',(l.foldl (lW me p) s).rest=s.rest++l'/\l'.Sublist l/\∀x∈l',x.pt.size>p.size:=by
 induction l with
 | nil=>intro s;exact⟨[],(List.append_nil _).symm,List.Sublist.refl _,by simp⟩
 | cons a l ih=>
  intro s;rw[List.foldl_cons];obtain⟨l',e,hs,hg⟩:=ih (lW me p s a);have:((lW me p s a).rest=s.rest++[a]/\a.pt.size>p.size)\/(lW me p s a).rest=s.rest:=by
   unfold lW;split
   ·exact .inr rfl
   split
   ·exact .inr rfl
   split
   ·rename_i h;exact .inl ⟨rfl,h⟩
   exact .inr rfl
  rcases this with ⟨t,ha⟩|t
  ·exact⟨a::l',by rw[e,t,List.append_assoc];rfl,hs.cons_cons a,fun x hx=>by rcases List.mem_cons.1 hx with rfl|hx;exact ha;exact hg x hx⟩
  exact⟨l',by rw[e,t],hs.cons a,hg⟩
theorem IB (x:bD):∀(l:List bD) (out:List bD),(∀y∈l,x.bh<y.bh)->l.foldl (kS x) (out,true)=(out++l,true)
 | [],out,h=>by rw[List.append_nil];rfl
 | y::l,out,h=>by
  have hy:=h y (List.mem_cons_self ..);have e:kS x (out,true) y=(out++[y],true):=by
   unfold kS;rw[if_neg (by simp),if_neg (by omega)]
  rw[List.foldl_cons,e,IB x l _ fun z hz=>h z (List.mem_cons_of_mem _ hz),List.append_assoc];rfl
def IA (x:bD) (s:List bD × Bool):List bD:=if s.2 then s.1 else s.1++[x]
theorem Oj (x:bD):∀(l out:List bD),l.Pairwise (fun a b=>a.bh<b.bh)->IA x (l.foldl (kS x) (out,false))=out++(l.filter (fun y=>decide (y.bh<x.bh))++x::l.filter fun y=>decide (x.bh<y.bh))
 | [],out,h=>rfl
 | y::l,out,h=>by
  obtain⟨h1,h2⟩:=List.pairwise_cons.1 h;rw[List.foldl_cons];by_cases c:y.bh<x.bh
  ·have e:kS x (out,false) y=(out++[y],false):=by
    unfold kS;rw[if_neg (fun q=>by have:=q.2;omega),if_neg (by omega)]
   rw[e,Oj x l _ h2,List.filter_cons_of_pos (by simpa using c),List.filter_cons_of_neg (by simp;omega),List.append_assoc];rfl
  have ab:∀z∈l,x.bh<z.bh:=fun z hz=>by have:=h1 z hz;omega
  have f1:l.filter (fun y=>decide (y.bh<x.bh))=[]:=by
   rw[List.filter_eq_nil_iff];intro z hz;have:=ab z hz;simp;omega
  have f2:l.filter (fun y=>decide (x.bh<y.bh))=l:=by
   rw[List.filter_eq_self];intro z hz
   simpa using ab z hz
  rw[List.filter_cons_of_neg (by simpa using c),f1];by_cases g:y.bh=x.bh
  ·have e:kS x (out,false) y=(out++[x],true):=by
    unfold kS;rw[if_pos ⟨rfl,by omega⟩,if_pos g]
   rw[e,IB x l _ ab,List.filter_cons_of_neg (by simp;omega),f2];simp[IA]
  have e:kS x (out,false) y=(out++[x]++[y],true):=by
   unfold kS;rw[if_pos ⟨rfl,by omega⟩,if_neg g]
  rw[e,IB x l _ ab,List.filter_cons_of_pos (by simp;omega),f2];simp[IA]
theorem abB {l:List bD}(h:l.Pairwise fun a b=>a.bh<b.bh) (x:bD):mb l x=l.filter (fun y=>decide (y.bh<x.bh))++x::l.filter fun y=>decide (x.bh<y.bh):=by
 have:=Oj x l [] h;rw[List.nil_append]at this;exact this
theorem Xo {l:List bD}(h:l.Pairwise fun a b=>a.bh<b.bh) (x:bD):(mb l x).Pairwise (fun a b=>a.bh<b.bh)/\∀y∈mb l x,y=x\/y∈l:=by
 rw[abB h];constructor
 ·refine List.pairwise_append.2 ⟨h.sublist List.filter_sublist,List.pairwise_cons.2 ⟨fun y hy=>?_,h.sublist List.filter_sublist⟩,fun a ha b hb=>?_⟩
  ·simpa using (List.mem_filter.1 hy).2
  have ha:=(List.mem_filter.1 ha).2;simp only[decide_eq_true_eq]at ha;rcases List.mem_cons.1 hb with rfl|hb
  ·exact ha
  have hb:=(List.mem_filter.1 hb).2;simp only[decide_eq_true_eq]at hb;omega
 intro y hy;rcases List.mem_append.1 hy with hy|hy
 ·exact .inr (List.mem_filter.1 hy).1
 rcases List.mem_cons.1 hy with rfl|hy
 ·exact .inl rfl
 exact .inr (List.mem_filter.1 hy).1
theorem Xk {w:bz}{me bh s:Int}{p:cg}(h:iQ w=true) (h1:aS bh 1 20=true) (h2:aS s 1 1000000=true) (h3:p.size<=256):
  iQ ⟨(jR w (cO w.aH) me bh s p).aH,(jR w (cO w.aH) me bh s p).aQ⟩=true/\(jR w (cO w.aH) me bh s p).aH=w.aH/\(jR w (cO w.aH) me bh s p).kept=none/\(jR w (cO w.aH) me bh s p).eG=[]:=by
 unfold jR;split
 ·exact⟨h,rfl,rfl,rfl⟩
 rename_i c1;split
 ·exact⟨h,rfl,rfl,rfl⟩
 split
 ·exact⟨h,rfl,rfl,rfl⟩
 rename_i c4;split
 ·rename_i h8;obtain⟨_,hp,ha⟩:=sj.1 h;obtain⟨q1,q2⟩:=Xo hp ⟨bh,s,p⟩;refine⟨sj.2 ⟨h8,q1,fun x hx=>?_⟩,rfl,rfl,rfl⟩;rcases q2 x hx with rfl|hx
  ·show(aS bh 1 20&&(aS s 1 1000000&&aS p.size ((cO w.aH).size+1) 256))=true
   rw[h1,h2,cr.2 ⟨by omega,h3⟩];rfl
  exact ha x hx
 exact⟨h,rfl,rfl,rfl⟩
theorem XD {a b:Int}{x:bD}(h:nU a x=true) (hb:b+1<=x.pt.size):nU b x=true:=by
 simp only[nU,Bool.and_eq_true,cr]at h ⊢;exact⟨h.1,h.2.1,by omega⟩
structure Ea (w:bz) (H:fm):Prop where
 ok:iQ ⟨H.aH,H.aQ⟩=true
 no:H.kept=none->H.aH=w.aH/\H.eG=[]
 yes:∀k,H.kept=some k->(k.jn=cO w.aH/\k.new=cO H.aH)/\(lO k.jn k.new (k.proof.map aX.bd)=0/\H.aH=eB w.aH H.eG)/\(cO w.aH).size<(cO H.aH).size
theorem adM {w:bz}{me:Int}{m:aJ}(h:iQ w=true):Ea w (k9 w (cO w.aH) me m):=by
 obtain⟨h8,hp,ha⟩:=sj.1 h;have uj:Ea w (.base w):=⟨h,fun _=>⟨rfl,rfl⟩,fun k e=>(by cases e)⟩;obtain⟨l',e1,s1⟩:=G4 (cO w.aH) m.size m.proof w.aQ ⟨[],false,.zero,[]⟩;have tk:=LJ (cO w.aH) m.size m.proof w.aQ ⟨[],false,.zero,[]⟩ rfl;have e1:(gF (cO w.aH) m.size m.proof w.aQ).left=l':=e1;have tk:(gF (cO w.aH) m.size m.proof w.aQ).taken=true->∃x∈w.aQ,(gF (cO w.aH) m.size m.proof w.aQ).p=x.pt/\x.pt.size=m.size/\lO (cO w.aH) x.pt (m.proof.map aX.bd)=0:=tk;unfold k9;generalize gF (cO w.aH) m.size m.proof w.aQ=S at *;split
 ·exact uj
 split
 ·refine⟨sj.2 ⟨?_,?_,?_⟩,fun _=>⟨rfl,rfl⟩,fun k e=>(by cases e)⟩
  ·show S.left.length<=8
   rw[e1];have:=s1.length_le;omega
  ·show S.left.Pairwise _
   rw[e1];exact hp.sublist s1
  show ∀x∈S.left,nU (cO w.aH).size x=true
  rw[e1];exact fun x hx=>ha x (s1.subset hx)
 rename_i ht;split
 ·exact uj
 rename_i hR;obtain⟨x,hx,p1,p2,p3⟩:=tk (by cases q:S.taken<;>simp_all);have hh:=SQ hR;obtain⟨l2,e2,s2,g2⟩:=Sp me S.p S.left ⟨[],S.al,[]⟩;have e2:(mm me S.p S.al S.left).rest=l2:=e2;generalize mm me S.p S.al S.left=H2 at *;have fQ:=ha x hx;simp only[nU,Bool.and_eq_true,cr]at fQ;have dv:(cO w.aH).size<S.p.size:=by rw[p1];omega
 have s3:l2.Sublist w.aQ:=s2.trans (e1▸s1);refine⟨sj.2 ⟨?_,?_,?_⟩,fun e=>(by cases e),fun k e=>?_⟩
 ·show H2.rest.length<=8
  rw[e2];have:=s3.length_le;omega
 ·show H2.rest.Pairwise _
  rw[e2];exact hp.sublist s3
 ·show ∀y∈H2.rest,nU (cO (eB w.aH (jQ w.aH S.p.size S.p.root))).size y=true
  rw[e2,hh];intro y hy;have:=g2 y hy;exact XD (ha y (s3.subset hy)) (by show S.p.size+1<=_;omega)
 cases e;refine⟨⟨rfl,?_⟩,⟨?_,rfl⟩,?_⟩
 ·show S.p=cO (eB w.aH (jQ w.aH S.p.size S.p.root))
  rw[hh]
 ·show lO (cO w.aH) S.p (m.proof.map aX.bd)=0
  rw[p1];exact p3
 show _<(cO (eB w.aH (jQ w.aH S.p.size S.p.root))).size
 rw[hh];exact dv
def t0 (me:Int) (now:cg) (l:aC):Prop:=(cf l.text).2.1=0/\l.from_=me/\
 (((cf l.text).1.kind=6/\((cf l.text).1.size=now.size/\(cf l.text).1.root=now.root)/\1<=now.size)\/((cf l.text).1.kind=4/\l.iB=0))
theorem Sr (me:Int) (p:cg) (l:List bD) (Q:aC->Prop) (hq:∀x∈l,eu x.pt p=true->Q (rk me x.bh x.bU p)):∀s:wA,(∀y∈s.le,Q y)->∀y∈(l.foldl (lW me p) s).le,Q y:=by
 induction l with
 | nil=>intro s h;exact h
 | cons a l ih=>
  intro s h;rw[List.foldl_cons];refine ih (fun x hx=>hq x (List.mem_cons_of_mem _ hx)) _ ?_;unfold lW;split
  ·rename_i e;intro y hy;rcases List.mem_append.1 hy with hy|hy
   ·exact h y hy
   rw[List.mem_singleton.1 hy];exact hq a (List.mem_cons_self ..) e
  split
  ·exact h
  split
  ·exact h
  exact h
theorem VW {m:aJ}(aI:fi m=true) (hr:m.root.ok) (hd:∀d∈m.proof,d.ok):cf (gy m)=(m,0,0):=by
 unfold gy;rw[if_pos aI];exact Xr aI hr hd
theorem WH {me bh s:Int}{p:cg}(hs:1<=s/\s<=1000000) (hz:1<=p.size/\p.size<=256) (hr:p.root.ok):t0 me p (rk me bh s p):=by
 have h:=VW (m:=B4 s p) (QG hs ⟨by omega,hz.2⟩) hr (by intro d hd;cases hd);unfold t0;rw[show(rk me bh s p).text=gy (B4 s p) from rfl,h];exact⟨rfl,rfl,.inl ⟨rfl,⟨rfl,rfl⟩,hz.1⟩⟩
theorem aar {me a b:Int}{now:cg}(ha:0<=a/\a<=256) (hb:0<=b/\b<=256):t0 me now (FT me a b):=by
 have h:=VW (m:=⟨4,0,a,b,gh,0,[],[]⟩) (QH ha hb) pX (by intro d hd;cases hd);unfold t0;rw[show(FT me a b).text=gy ⟨4,0,a,b,gh,0,[],[]⟩ from rfl,h];exact⟨rfl,rfl,.inr ⟨rfl,rfl⟩⟩
theorem XH {w:bz}{me bh s:Int}{p:cg}(hs:1<=s/\s<=1000000) (hz:0<=p.size/\p.size<=256) (hr:p.root.ok):∀l∈(jR w (cO w.aH) me bh s p).bR,t0 me (cO w.aH) l:=by
 unfold jR;split
 ·intro l hl;cases hl
 rename_i c1;split
 ·rename_i e;intro l hl;have hp:p=cO w.aH:=by
   have e:=e;generalize cO w.aH=q at *;obtain⟨a,⟨a1,a2,a3,a4⟩⟩:=p;obtain⟨b,⟨b1,b2,b3,b4⟩⟩:=q;simp only[eu,Bool.and_eq_true,beq_iff_eq]at e;obtain⟨h1,h2,h3,h4,h5⟩:=e;have:a1=b1:=by omega
   have:a2=b2:=by omega
   have:a3=b3:=by omega
   have:a4=b4:=by omega
   subst_vars
   rfl
  have hl:l=rk me bh s p:=List.mem_singleton.1 hl;rw[hl,<-hp];exact WH hs ⟨by omega,hz.2⟩ hr
 split
 ·intro l hl;cases hl
 split
 ·intro l hl;have hl:l=FT me (cO w.aH).size p.size:=List.mem_singleton.1 hl;rw[hl];exact aar (FW w.aH) hz
 intro l hl;cases hl
theorem adO {w:bz}{me:Int}{m:aJ}(h:iQ w=true) (ml:∀x∈w.aQ,x.pt.root.ok):∀l∈(k9 w (cO w.aH) me m).bR,t0 me (cO (k9 w (cO w.aH) me m).aH) l:=by
 obtain⟨h8,hp,ha⟩:=sj.1 h;obtain⟨l',e1,s1⟩:=G4 (cO w.aH) m.size m.proof w.aQ ⟨[],false,.zero,[]⟩;have tk:=LJ (cO w.aH) m.size m.proof w.aQ ⟨[],false,.zero,[]⟩ rfl;have e1:(gF (cO w.aH) m.size m.proof w.aQ).left=l':=e1;have tk:(gF (cO w.aH) m.size m.proof w.aQ).taken=true->∃x∈w.aQ,(gF (cO w.aH) m.size m.proof w.aQ).p=x.pt/\x.pt.size=m.size/\lO (cO w.aH) x.pt (m.proof.map aX.bd)=0:=tk;unfold k9;generalize gF (cO w.aH) m.size m.proof w.aQ=S at *;split
 ·intro l hl;cases hl
 split
 ·intro l hl;cases hl
 rename_i ht;split
 ·intro l hl;cases hl
 rename_i hR;obtain⟨x,hx,p1,p2,p3⟩:=tk (by cases q:S.taken<;>simp_all);have fQ:=ha x hx;simp only[nU,Bool.and_eq_true,cr]at fQ;have hb:=FW w.aH;intro l hl;show t0 me (cO (eB w.aH (jQ w.aH S.p.size S.p.root))) l
 rw[SQ hR];refine Sr me S.p S.left (t0 me ⟨S.p.size,S.p.root⟩) (fun y hy e=>?_) ⟨[],S.al,[]⟩ (fun y hy=>by cases hy) l hl;rw[e1]at hy;have qy:=ha y (s1.subset hy);simp only[nU,Bool.and_eq_true,cr]at qy;exact WH (by omega) ⟨by show 1<=S.p.size;rw[p1];omega,by show S.p.size<=256;rw[p1];omega⟩ (by show S.p.root.ok;rw[p1];exact ml x hx)
theorem Ea.XI {w:bz}{H:fm}(h:iQ ⟨H.aH,H.aQ⟩=true/\H.aH=w.aH/\H.kept=none/\H.eG=[]):Ea w H:=
 ⟨h.1,fun _=>⟨h.2.1,h.2.2.2⟩,fun k e=>by rw[h.2.2.1]at e;cases e⟩
theorem Iy {w:bz}{me:Int}{l:aC}(hw:iQ w=true) (hl:df l=true) (hm:aS me 1 20=true) (ml:∀x∈w.aQ,x.pt.root.ok):
  Ea w (fX w me l)/\∀x∈(fX w me l).bR,t0 me (cO (fX w me l).aH) x:=by
 unfold fX;rw[if_pos (by rw[hw,hl,hm];rfl)];have hinv:=wI l.text;generalize cf l.text=W at *;obtain⟨x,code,at_⟩:=W;simp only at hinv ⊢;split
 ·rename_i c;simp only[Bool.and_eq_true,beq_iff_eq,decide_eq_true_eq]at c;obtain⟨c1,c2,c3⟩:=c;obtain⟨i1,i2,-,-⟩:=hinv c1;have ok:=nR.of i1;have hs:1<=x.bU/\x.bU<=1000000:=by
   simp only[fi,Bool.and_eq_true]at i1;have h:=i1.2.1;rw[c2]at h;exact cr.1 h
  have hf:aS l.from_ 1 20=true:=by
   simp only[df,Bool.and_eq_true,cr]at hl;exact cr.2 ⟨by omega,hl.1.2⟩
  have hv:=Xk (w:=w) (me:=me) (p:=⟨x.size,x.root⟩) hw hf (cr.2 hs) ok.z.2;refine⟨.XI hv,?_⟩;rw[hv.2.1];exact XH hs ok.z i2
 split
 ·exact⟨adM hw,adO hw ml⟩
 exact⟨⟨hw,fun _=>⟨rfl,rfl⟩,fun k e=>(by cases e)⟩,fun y hy=>(by cases hy)⟩
structure uF (w:bz) (H:fm):Prop where
 d:H.aH.ok
 ws:H.aQ.length<=17
 r:H.eG.length<=8
 l:H.bR.length<=100
 a:H.dN.length<=100
 k:∀k,H.kept=some k->(∀d∈k.proof,d.ok)/\k.proof.length<=1000
 n:H.kept=none->H.eG=[]
 s:∀k,H.kept=some k->H.eG=jQ w.aH k.new.size k.new.root/\H.eG≠[]
 x:(∀x∈w.aQ,x.pt.root.ok)->∀x∈H.aQ,x.pt.root.ok
 v:∀r∈H.eG,r.value<18446744073709551616
theorem Xi (d:cX) (size:Int) (root:aX):(jQ d size root).length<=8:=by
 rw[vd];split
 ·exact Nat.le_refl 8
 exact aR _
theorem uF.base {w:bz}(hd:w.aH.ok) (h:w.aQ.length<=17):uF w (.base w):=
 ⟨hd,h,aR _,aR _,aR _,fun k e=>(by cases e),fun _=>rfl,fun k e=>(by cases e),fun h=>h,fun r hr=>(by cases hr)⟩
theorem XG {w:bz}{held:cg}{me bh s:Int}{p:cg}(hd:w.aH.ok) (h:w.aQ.length<=8) (hp:p.root.ok):uF w (jR w held me bh s p):=by
 have hb:=uF.base hd (show w.aQ.length<=17 by omega);have hl:=J6 h ⟨bh,s,p⟩;have hm:(∀x∈w.aQ,x.pt.root.ok)->∀x∈mb w.aQ ⟨bh,s,p⟩,x.pt.root.ok:=by
  intro hw;unfold mb;have key:∀(l:List bD) (st:List bD × Bool),(∀x∈l,x.pt.root.ok)->(∀x∈st.1,x.pt.root.ok)->∀x∈(l.foldl (kS ⟨bh,s,p⟩) st).1,x.pt.root.ok:=by
   intro l;induction l with
   | nil=>intro st _ h;exact h
   | cons a l ih=>
    intro st h1 h2;rw[List.foldl_cons];refine ih _ (fun x hx=>h1 x (List.mem_cons_of_mem _ hx)) ?_;have ha:=h1 a (List.mem_cons_self ..);unfold kS;intro x hx
    repeat' split at hx
    all_goals
     try simp only[List.mem_append,List.mem_singleton,List.mem_cons,List.not_mem_nil,or_false]at hx
    all_goals first
     | exact h2 x hx
     | (rcases hx with hx | rfl
        ·exact h2 x hx
        first|exact ha|exact hp)
     | (rcases hx with (hx | rfl) | rfl
        ·exact h2 x hx
        ·exact hp
        exact ha)
     | (rcases hx with hx | rfl | rfl
        ·exact h2 x hx
        ·exact hp
        exact ha)
  have hk:=key w.aQ ([],false) hw (fun x hx=>by cases hx);split
  ·exact hk
  intro x hx;rcases List.mem_append.1 hx with hx|hx
  ·exact hk x hx
  rw[List.mem_singleton.1 hx];exact hp
 unfold jR;split
 ·exact hb
 split
 ·exact⟨hd,hb.ws,aR _,by show 1<=100;omega,aR _,fun k e=>(by cases e),fun _=>rfl,fun k e=>(by cases e),fun h=>h,fun r hr=>(by cases hr)⟩
 split
 ·exact⟨hd,hb.ws,aR _,aR _,by show 1<=100;omega,fun k e=>(by cases e),fun _=>rfl,fun k e=>(by cases e),fun h=>h,fun r hr=>(by cases hr)⟩
 split
 ·exact⟨hd,hl,aR _,by show 1<=100;omega,aR _,fun k e=>(by cases e),fun _=>rfl,fun k e=>(by cases e),hm,fun r hr=>(by cases hr)⟩
 exact hb
theorem adN {w:bz}{held:cg}{me:Int}{m:aJ}(hd:w.aH.ok) (h:w.aQ.length<=8) (hm:∀d∈m.proof,d.ok) (rB:m.proof.length<=1000) (ml:∀x∈w.aQ,x.pt.root.ok):uF w (k9 w held me m):=by
 have hb:=uF.base hd (show w.aQ.length<=17 by omega);have h1:=zZ held m.size m.proof w.aQ;have h2:=Gk me (gF held m.size m.proof w.aQ).p (gF held m.size m.proof w.aQ).al (gF held m.size m.proof w.aQ).left;obtain⟨l',e1,s1⟩:=G4 held m.size m.proof w.aQ ⟨[],false,.zero,[]⟩;have tk:(gF held m.size m.proof w.aQ).taken=true->∃x∈w.aQ,(gF held m.size m.proof w.aQ).p=x.pt/\x.pt.size=m.size/\lO held x.pt (m.proof.map aX.bd)=0:=LJ held m.size m.proof w.aQ ⟨[],false,.zero,[]⟩ rfl;have e1:(gF held m.size m.proof w.aQ).left=l':=e1;obtain⟨l2,e2,s2,-⟩:=Sp me (gF held m.size m.proof w.aQ).p (gF held m.size m.proof w.aQ).left ⟨[],(gF held m.size m.proof w.aQ).al,[]⟩;have e2:(mm me (gF held m.size m.proof w.aQ).p (gF held m.size m.proof w.aQ).al (gF held m.size m.proof w.aQ).left).rest=l2:=e2;unfold k9;generalize gF held m.size m.proof w.aQ=S at *;split
 ·exact hb
 split
 ·exact⟨hd,by show S.left.length<=17;omega,aR _,aR _,by show S.al.length<=100;omega,fun k e=>(by cases e),fun _=>rfl,fun k e=>(by cases e),fun hw x hx=>hw x (s1.subset (e1▸hx)),fun r hr=>(by cases hr)⟩
 rename_i ht;split
 ·exact hb
 rename_i hR;obtain⟨x,hx,p1,p2,p3⟩:=tk (by cases q:S.taken<;>simp_all);generalize mm me S.p S.al S.left=T at *;refine⟨ach hd (by rw[p1];exact ml x hx),by show T.rest.length<=17;omega,Xi _ _ _,by show T.le.length<=100;omega,by show T.al.length<=100;omega,fun k e=>?_,fun e=>(by cases e),fun k e=>?_,fun hw x hx=>hw x (s1.subset (e1▸s2.subset (e2▸hx))),Ru (by rw[p1];exact ml x hx)⟩
 ·cases e;exact⟨hm,rB⟩
 cases e;exact⟨rfl,hR⟩
theorem uR {w:bz}{me:Int}{l:aC}(hd:w.aH.ok) (ml:∀x∈w.aQ,x.pt.root.ok):uF w (fX w me l):=by
 have hinv:=wI l.text;have pH:=J7 (s:=l.text);have nG:=xv l.text;unfold fX;generalize cf l.text=W at *;obtain⟨x,code,at_⟩:=W;simp only at hinv pH nG ⊢;split
 ·rename_i h;simp only[Bool.and_eq_true]at h;have h8:=tH h.1;split
  ·exact XG hd h8 pH
  split
  ·rename_i c;simp only[Bool.and_eq_true,beq_iff_eq]at c;obtain⟨i1,i2,i3,-⟩:=hinv c.1;exact adN hd h8 i3 nG.1 ml
  exact uF.base hd (by omega)
 exact⟨NR,aR _,aR _,aR _,aR _,fun k e=>(by cases e),fun _=>rfl,fun k e=>(by cases e),fun _ x hx=>(by cases hx),fun r hr=>(by cases hr)⟩
section
set_option maxHeartbeats 4000000
set_option maxRecDepth 10000
set_option linter.unusedSectionVars false
def aeK:cc:=⟨[],cw,cz,false⟩
theorem abF (d:cX) (size:Int) (root:aX):(jQ d size root).length<=8:=by
 rw[vd];split
 ·exact Nat.le_refl 8
 exact aR _
theorem agt (w:bz) (held:cg) (me:Int) (m:aJ) (hl:w.aQ.length<=8) (hd:w.aH.ok) (hp:∀d∈m.proof,d.ok) (gU:m.proof.length<=1000):aY Tryz.prog 215 [(1000000,0,one ⟨7,w.aQ.map bD.cs,2,false⟩)] [Lh w,.agg held.cs,vI me,m.ro] (k9 w held me m).av (k9 w held me m).out:=by
 refine aF aeK false Tryz.f215 ?_;conv=>enter[1];reduce
 refine bI Tryz.f215 171 [.cell 8 189] (by kernel_rfl) (by decide +kernel) rfl ?_;obtain⟨aH,l⟩:=w;simp only at hl hd;have pK:l.length<=maxLen:=by unfold maxLen;omega
 unfold k9;simp only;refine au ?_;by_cases c1:m.from_=held.size
 ·have d6:(m.from_ != held.size)=false:=by rw[bne_eq_false_iff_eq];exact c1
  rw[if_neg (fun h=>h c1)];refine pn d6 ?_;refine mj [(10,7),(19004,13)] (fun n z=>∃(i:Nat) (S:tA),(i<=l.length/\S=gF held m.size m.proof (l.take i))/\n=l.length - i/\z=⟨171,[(2,vI me),(4,.ptr 4 0 [] 19 0 0),(5,.ptr 5 0 [] 5 0 0),(7,.ptr 7 0 [] 11 0 0),(8,.ptr 8 0 [] 19 0 0),(9,.ptr 9 0 [] 19 0 0),(10,.aw 10 0 [] 7 0 S.left.length),(11,vB S.taken),(12,.ptr 12 0 [] 5 0 0),(29,.aw 1000000 0 [] 7 0 l.length),(30,vI l.length),(31,vI i)],[(1000000,0,one ⟨7,l.map bD.cs,2,false⟩),(4,0,one ⟨19,[jA aH (.aw 1000000 0 [] 7 0 l.length) .aG .aG .aG (.aw 10004 0 [] 13 0 S.al.length)],0,false⟩),(10004,0,one ⟨13,S.al.map ez.cs,2,false⟩),(5,0,one ⟨5,[held.cs],0,false⟩),(7,0,one ⟨11,[m.qj],0,false⟩),(8,0,one ⟨19,[jA qb .aG .aG .aG .aG .aG],0,false⟩),(9,0,one ⟨19,[jA aH (.aw 1000000 0 [] 7 0 l.length) .aG .aG .aG .aG],0,false⟩),(10,0,one ⟨7,S.left.map bD.cs,2,false⟩),(12,0,one ⟨5,[S.p.cs],0,false⟩)],1⟩) l.length ?_ ?_
  ·simp -implicitDefEqProofs only[go_sem,aJ.qj];exact⟨0,_,⟨aR _,rfl⟩,rfl,rfl⟩
  rintro n z ⟨i,S,⟨hi,hS⟩,rfl,rfl⟩;rcases bp i l.length with ab|bM
  ·have ah:(i:Int)<(l.length:Int):=by omega
   have hg:l[i]?=some l[i]:=bm ab;have hw:=dx ab pK;have aD:=Tm (held:=held) (size:=m.size) (P:=m.proof) ab;have hle:=zZ held m.size m.proof (l.take i);rw[List.length_take]at hle;rw[<-hS]at aD hle;generalize l[i]=x at *;have K6:=agd held x.pt m.proof hp;obtain⟨left,tk,p,al⟩:=S;unfold iv at aD;simp only at aD hle;generalize lO held x.pt (m.proof.map aX.bd)=cd at *;have cQ:∀v,_:=fun v=>nh (L:=left.map bD.cs) (b:=56) (by rw[List.length_map];omega) (by omega) v
   have cN:∀v,_:=fun v=>nh (L:=al.map ez.cs) (b:=104) (by rw[List.length_map];omega) (by omega) v
   cases tk with
   | true=>
    rw[if_pos (.inl rfl)]at aD;simp -implicitDefEqProofs only[go_sem,ah,hg,hw,cQ,d7];refine⟨_,by omega,i+1,_,⟨ab,aD.symm⟩,rfl,?_⟩;try simp only[nO]
    try rfl
   | false=>
    by_cases c2:x.pt.size=m.size
    ·have iK:(x.pt.size != m.size)=false:=by rw[bne_eq_false_iff_eq];exact c2
     rw[if_neg (fun h=>h.elim (by simp) (fun h=>h c2))]at aD;simp -implicitDefEqProofs only[go_sem,ah,hg,hw,iK,d7];refine aq.intro K6 ?_;by_cases c3:cd=0
     ·have iX:(cd != 0)=false:=by rw[bne_eq_false_iff_eq];exact c3
      rw[if_neg (fun h=>h c3)]at aD;simp -implicitDefEqProofs only[go_sem,hw,cQ,iX,d7];refine⟨_,by omega,i+1,_,⟨ab,aD.symm⟩,rfl,?_⟩;try simp only[nO]
      try rfl
     have iX:(cd != 0)=true:=by rw[bne_iff_ne];exact c3
     rw[if_pos c3]at aD;simp -implicitDefEqProofs only[go_sem,hw,cN,iX,d7];refine⟨_,by omega,i+1,_,⟨ab,aD.symm⟩,rfl,?_⟩;try simp only[nO]
     try rfl
    have iK:(x.pt.size != m.size)=true:=by rw[bne_iff_ne];exact c2
    rw[if_pos (.inr c2)]at aD;simp -implicitDefEqProofs only[go_sem,ah,hg,hw,cQ,iK,d7];refine⟨_,by omega,i+1,_,⟨ab,aD.symm⟩,rfl,?_⟩;try simp only[nO]
    try rfl
  have hi:i=l.length:=by omega
  subst hi;have ah:¬((l.length:Int)<(l.length:Int)):=by omega
  have hle:=zZ held m.size m.proof l;rw[List.take_length]at hS;rw[<-hS]at hle ⊢;obtain⟨left,tk,p,al⟩:=S;simp only at hle ⊢;have eo:=DF left (by omega);cases tk with
  | false=>
   rw[if_pos rfl];refine pn ah ?_;refine aq.intro eo ?_;simp -implicitDefEqProofs only[go_sem,d7,Bool.false_eq_true]
  | true=>
   rw[if_neg (by simp)];have lh:=agc aH p.size p.root hd;have hRl:=abF aH p.size p.root;generalize jQ aH p.size p.root=R at *;by_cases hR:R=[]
   ·rw[if_pos hR];subst hR;have s8:(((0:Nat):Int)==0)=true:=rfl;refine pn ah ?_;refine aq.intro eo ?_;simp -implicitDefEqProofs only[go_sem,d7];refine aq.intro lh ?_;exact AX s8
   rw[if_neg hR];have s8:((R.length:Int)==0)=false:=by
    rw[beq_eq_false_iff_ne];intro h;exact hR (List.eq_nil_of_length_eq_zero (by omega))
   have Ll:=MS aH R (by unfold maxLen;omega);have my:=DE m.proof (by omega);refine pn ah ?_;refine aq.intro eo ?_;simp -implicitDefEqProofs only[go_sem,d7];refine aq.intro lh ?_;refine pn s8 ?_;refine cT Ll ?_;refine cT my ?_;generalize eB aH R=D at *;refine mj [(16,7),(18004,3)] (fun n z=>∃(i:Nat) (H:wA),(i<=left.length/\H=mm me p al (left.take i))/\n=left.length - i/\z=⟨171,[(2,vI me),(4,.ptr 4 0 [] 19 0 0),(8,.ptr 8 0 [] 19 0 0),(12,.ptr 12 0 [] 5 0 0),(16,.aw 16 0 [] 7 0 H.rest.length),(113,.aw 113 0 [] 7 0 left.length),(114,vI left.length),(115,vI i)],[(1000000,0,one ⟨7,l.map bD.cs,2,false⟩),(4,0,one ⟨19,[jA D (.aw 10004 0 [] 7 0 left.length) (.aw 20004 0 [] 3 0 R.length) (.aw 30004 0 [] 11 0 1) (.aw 40004 0 [] 3 0 H.le.length) (.aw 50004 0 [] 13 0 H.al.length)],0,false⟩),(10004,0,one ⟨7,left.map bD.cs,2,false⟩),(20004,0,one ⟨3,R.map cR.cs,2,false⟩),(30004,0,one ⟨11,[iZ.cs ⟨held,p,m.proof⟩ (.aw 60004 0 [] 4 0 m.proof.length)],0,false⟩),(40004,0,one ⟨3,H.le.map aC.cs,2,false⟩),(50004,0,one ⟨13,H.al.map ez.cs,2,false⟩),(60004,0,one ⟨4,m.proof.map aX.cs,2,false⟩),(8,0,one ⟨19,[jA qb .aG .aG .aG .aG .aG],0,false⟩),(12,0,one ⟨5,[p.cs],0,false⟩),(16,0,one ⟨7,H.rest.map bD.cs,2,false⟩),(113,0,one ⟨7,left.map bD.cs,2,false⟩)],1⟩) left.length ?_ ?_
   ·refine au ?_;exact⟨0,_,⟨aR _,rfl⟩,rfl,rfl⟩
   rintro n z ⟨i,H,⟨hi,hS⟩,rfl,rfl⟩;have rz:=Gk me p al (left.take i);rw[List.length_take,<-hS]at rz;rcases bp i left.length with ab|bM
   ·have ah:(i:Int)<(left.length:Int):=by omega
    have hg:left[i]?=some left[i]:=bm ab;have hw:=dx ab (show left.length<=maxLen by unfold maxLen;omega);have aD:=Sq (me:=me) (p:=p) (al:=al) ab;rw[<-hS]at aD;generalize left[i]=x at *;have sZ:=Vc me x.bh x.bU p;obtain⟨le,DP,rest⟩:=H;unfold lW at aD;simp only at aD rz;have cQ:∀v,_:=fun v=>nh (L:=le.map aC.cs) (b:=32) (by rw[List.length_map];omega) (by omega) v
    have cN:∀v,_:=fun v=>nh (L:=DP.map ez.cs) (b:=104) (by rw[List.length_map];omega) (by omega) v
    have gw:∀v,_:=fun v=>nh (L:=rest.map bD.cs) (b:=56) (by rw[List.length_map];omega) (by omega) v
    cases e1:eu x.pt p with
    | true=>
     rw[if_pos e1]at aD;have gH:=e1;unfold eu at gH;simp -implicitDefEqProofs only[go_sem,ah,hg,hw,gH,d7];refine aq.intro sZ ?_;refine AR cQ hw ?_;refine⟨_,by omega,i+1,_,⟨ab,aD.symm⟩,rfl,?_⟩;try simp only[nO]
     try rfl
    | false=>
     rw[if_neg (by rw[e1];simp)]at aD;have gH:=e1;unfold eu at gH;by_cases e2:x.pt.size=p.size
     ·have gb:(x.pt.size==p.size)=true:=by rw[e2];simp
      rw[if_pos e2]at aD;rw[gb,Bool.true_and]at gH;simp -implicitDefEqProofs only[go_sem,ah,hg,hw,gH,gb,cN,d7];refine⟨_,by omega,i+1,_,⟨ab,aD.symm⟩,rfl,?_⟩;try simp only[nO]
      try rfl
     have gb:(x.pt.size==p.size)=false:=beq_eq_false_iff_ne.2 e2;rw[if_neg e2]at aD;by_cases e3:x.pt.size>p.size
     ·rw[if_pos e3]at aD;simp -implicitDefEqProofs only[go_sem,ah,hg,hw,gH,gb,e3,gw,d7];refine⟨_,by omega,i+1,_,⟨ab,aD.symm⟩,rfl,?_⟩;try simp only[nO]
      try rfl
     rw[if_neg e3]at aD;simp -implicitDefEqProofs only[go_sem,ah,hg,hw,gH,gb,e3,d7];refine⟨_,by omega,i+1,_,⟨ab,aD.symm⟩,rfl,?_⟩;try simp only[nO]
     try rfl
   have hi:i=left.length:=by omega
   subst hi;have ah:¬((left.length:Int)<(left.length:Int)):=by omega
   rw[List.take_length]at hS;rw[<-hS];obtain⟨le,DP,rest⟩:=H;simp only at rz;have adC:=DF rest (by omega);refine pn ah ?_;refine aq.intro adC ?_;exact dy
 have d6:(m.from_ != held.size)=true:=by rw[bne_iff_ne];exact c1
 rw[if_pos c1];exact AX d6
end
section
set_option maxHeartbeats 4000000
set_option maxRecDepth 10000
set_option linter.unusedSectionVars false
def Mg:cc:=⟨[],cw,cz,false⟩
theorem Vf (at_:Int) (S:dT) (h:S.ok):ba Tryz.prog 250 [vI at_,.agg S.cs] (.aw 0 0 [] 3 0 (eY at_ S).length) [([],⟨3,(eY at_ S).map cR.cs,2,false⟩)]:=by
 refine aF Mg false Tryz.f250 ?_;conv=>enter[1];reduce
 refine bu Tryz.f250 46 [.tmp 4] (by kernel_rfl) (by decide +kernel) rfl ?_;have hS:=MZ S h;refine au ?_;refine aq.intro hS ?_;cases hs:gr S with
 | true=>
  have e2:eY at_ S=[]:=by unfold eY;rw[hs];rfl
  rw[e2];exact dy
 | false=>
  have e2:eY at_ S=jo at_ S.wl 7:=by unfold eY;rw[hs];rfl
  rw[e2];refine au ?_;refine dq (fun n s=>∃k,k<=7/\n=7 - k/\s=⟨46,[(0,vI at_),(5,.aw 5 0 [] 3 0 (jo at_ S.wl k).length),(6,.ptr 6 0 [] 7 0 0),(7,vI k)],[(5,0,one ⟨3,(jo at_ S.wl k).map cR.cs,2,false⟩),(6,0,one ⟨7,[S.cs],0,false⟩)],1⟩) 7 ?_ ?_
  ·refine au ?_;exact⟨0,by omega,rfl,rfl⟩
  rintro n s ⟨k,hk,rfl,rfl⟩;have qB:=FM at_ S.wl k;have gv:=Fb (jo at_ S.wl k) (by omega);rcases bp k 7 with ab|bM
  ·have kF:=JX at_ S.wl k;have vu:([vU S.sum,vU S.seq,vU S.size,vU S.root.a,vU S.root.b,vU S.root.c,vU S.root.d]:List AV)[k]?=some (vU (S.wl.getD k 0)):=by
    have rE:k=0\/k=1\/k=2\/k=3\/k=4\/k=5\/k=6:=by omega
    rcases rE with rfl|rfl|rfl|rfl|rfl|rfl|rfl<;>rfl
   have ah:(k:Int)<7:=by omega
   have mV:0<=(k:Int)/\(k:Int)<7:=by omega
   have SK:0<=(k:Int)/\(k:Int)<((7:Nat):Int):=by omega
   have w1:IntKind.i64.wrap ((k:Int)+1)=((k+1:Nat):Int):=by rw[aN (by omega)];omega
   generalize S.wl.getD k 0=v at *;by_cases z:v=0
   ·have hb:((v:Int) != 0)=false:=by rw[z];rfl
    rw[if_pos z,List.append_nil]at kF;simp -implicitDefEqProofs only[go_sem,ah,mV,SK,vu,Nat.mul_one,hb,w1];exact⟨_,by omega,k+1,ab,rfl,by first|(rw[kF];done)|(rw[kF];rfl)⟩
   have hb:((v:Int) != 0)=true:=by rw[bne_iff_ne];omega
   rw[if_neg z]at kF;simp -implicitDefEqProofs only[go_sem,ah,mV,SK,vu,Nat.mul_one,hb,gv,w1];refine⟨_,by omega,k+1,ab,rfl,?_⟩;rw[kF];simp only[List.length_append,List.length_map,List.map_append,List.length_cons,List.length_nil,List.map_cons,List.map_nil];try rfl
  have rE:k=7:=by omega
  subst rE;have y7:¬(((7:Nat):Int)<7):=by decide
  exact eE y7
theorem Vx (d:cX) (h:d.ok):ba Tryz.prog 197 [.agg d.cs] (.aw 0 0 [] 3 0 (gQ d).length) [([],⟨3,(gQ d).map cR.cs,2,false⟩)]:=by
 refine aF Mg false Tryz.f197 ?_;conv=>enter[1];reduce
 refine bu Tryz.f197 26 [.tmp 2] (by kernel_rfl) (by decide +kernel) rfl ?_;have h1:=Vf 1 d.one h.a;have h2:=Vf 2 d.two h.b;have l1:=BU 1 d.one;have l2:=BU 2 d.two;unfold gQ;generalize eY 1 d.one=A at *;generalize eY 2 d.two=B at *;have hm:B.length<=maxLen:=by unfold maxLen;omega
 refine au ?_;refine cT h1 ?_;refine cT h2 ?_;refine dq (fun n s=>∃i,i<=B.length/\n=B.length - i/\s=⟨26,[(3,.aw 3 0 [] 3 0 (A++B.take i).length),(4,.aw 4 0 [] 3 0 B.length),(5,vI i)],[(3,0,one ⟨3,(A++B.take i).map cR.cs,2,false⟩),(4,0,one ⟨3,B.map cR.cs,2,false⟩)],1⟩) B.length ?_ ?_
 ·refine au ?_;refine⟨0,aR _,rfl,?_⟩;rw[List.take_zero,List.append_nil];try rfl
 rintro n s ⟨i,hi,rfl,rfl⟩;rcases bp i B.length with ab|bM
 ·have ah:(i:Int)<(B.length:Int):=by omega
  have hg:B[i]?=some B[i]:=bm ab;have hw:=dx ab hm;have gv:=Fb (A++B.take i) (by rw[List.length_append,List.length_take];omega);have oi:=Bb ab;refine dP ah hg hw gv ?_;refine⟨_,by omega,i+1,ab,rfl,?_⟩;rw[oi,<-List.append_assoc];simp only[List.length_append,List.length_map,List.map_append,List.length_cons,List.length_nil,List.map_cons,List.map_nil];try rfl
 have hi:i=B.length:=by omega
 subst hi;have ah:¬((B.length:Int)<(B.length:Int)):=by omega
 rw[List.take_length];exact eE ah
theorem Vy (d:cX) (l:List cR) (cut:Int) (hl:l.length<=maxLen):ba Tryz.prog 196 [.agg d.cs,.ro 3 (l.map cR.cs),vI cut] (.agg (fu d l cut).cs) []:=by
 refine aF Mg false Tryz.f196 ?_;conv=>enter[1];reduce
 refine bu Tryz.f196 20 [.cell 6 75] (by kernel_rfl) (by decide +kernel) rfl ?_;unfold fu;have yf:=MN d (l.take cut.toNat) (by rw[List.length_take];omega);by_cases c1:cut<0
 ·have e:l.take cut.toNat=l.take 0:=by rw[show cut.toNat=0 by omega]
  rw[e]at yf ⊢;have c2:¬((0:Int)>(l.length:Int)):=by omega
  have c3:(0:Int)<=0/\(0:Int)<=(l.length:Int):=by omega
  simp -implicitDefEqProofs only[go_sem,c1,c2,c3,Nat.sub_zero];refine aq.intro yf ?_;exact dy
 by_cases c2:cut>(l.length:Int)
 ·have e:l.take cut.toNat=l:=List.take_of_length_le (by omega);rw[e]at yf ⊢;have c3:(0:Int)<=(l.length:Int)/\(l.length:Int)<=(l.length:Int):=by omega
  simp -implicitDefEqProofs only[go_sem,c1,c2,c3,Nat.sub_zero,List.take_length];refine aq.intro yf ?_;exact dy
 have c3:(0:Int)<=cut/\cut<=(l.length:Int):=by omega
 simp -implicitDefEqProofs only[go_sem,c1,c2,c3,Nat.sub_zero];refine aq.intro yf ?_;exact dy
end
end Go.Proofs.YtobpfkgabdeefaaGreat.E
