/- Contracts: messages without lists, in bytes; letters; Contracts: what comes of letters to clients, in the reference; Contracts: wishes; witnesses that are ok; Contracts: wishes put in; acknowledgements; witnesses copied; Contracts: drawn witnesses; Contracts: drawn letters to a witness; what is drawn for WitnessHear; Contracts: how many peaks, how long a growth's proof is, in the reference; Digest -/
import Derived.Test.YtpjpkmhaffmbmaaGreatK1e
section
namespace Go.Proofs.YtpjpkmhaffmbmaaGreat.E
open Go Go.RowKit
set_option maxHeartbeats 4000000
set_option maxRecDepth 10000
set_option linter.unusedSimpArgs false
set_option linter.unusedVariables false
set_option linter.unusedSectionVars false
def dcF3:Dec:=⟨[],[9,10,11],[22,30,37,38,39,40,49,56,76,80,87,141,143,159,237,250,259],false⟩
theorem CallR.arg {P:Program} {n:Nat} {args args':List AV} {res:AV} {rf:List (List Nat × Row)} (h:CallR P n args res rf) (hw:∀(rd:RD) (vs:List Value),PW rd (fun _ _ _=>none) args' vs→PW rd (fun _ _ _=>none) args vs):CallR P n args' res rf:=
 ⟨h.1,fun w rd cargs h1 h2=>h.2 w rd cargs h1 (hw _ _ h2)⟩
def Wk (c c':AV):Prop:=c=c'∨(c'=.nilS∧∃sz,c=.ro sz [])
theorem VRel.wk {rd:RD} {φ:Phi} {c c':AV} {v:Value} (h:Wk c c') (hv:VRel rd φ c' v):VRel rd φ c v:=by
 rcases h with rfl | ⟨rfl,sz,rfl⟩
 ·exact hv
 ·cases hv
  exact .ro0 _ _ _
inductive WkL:List AV→List AV→Prop
 | nil:WkL [] []
 | cons {c c':AV} {l l':List AV} (h:Wk c c') (t:WkL l l'):WkL (c::l) (c'::l')
theorem WkL.len {l l':List AV} (h:WkL l l'):l.length=l'.length:=by
 induction h with
 | nil=>rfl
 | cons _ _ ih=>simp [ih]
theorem WkL.get {l l':List AV} (h:WkL l l'):∀(j:Nat) (c:AV),l[j]?=some c→∃c',l'[j]?=some c'∧Wk c c':=by
 induction h with
 | nil=>intro j c hc;simp at hc
 | cons h t ih=>
  intro j c hc
  cases j with
  | zero=>simp at hc;subst hc;exact ⟨_,rfl,h⟩
  | succ j=>simpa using ih j c (by simpa using hc)
theorem WkL.refl:∀l:List AV,WkL l l
 | []=>.nil
 | c::l=>.cons (.inl rfl) (WkL.refl l)
theorem VRel.wkA {rd:RD} {φ:Phi} {cs cs':List AV} {v:Value} (h:WkL cs cs') (hv:VRel rd φ (.agg cs') v):VRel rd φ (.agg cs) v:=by
 cases hv with
 | agg _ arr f hs hg hv=>
  refine .agg cs arr f (by rw [hs,h.len]) (fun j c hc=>?_) (fun j c hc=>?_)
  ·obtain ⟨c',h1,h2⟩:=h.get j c hc
   exact hg j c' h1
  ·obtain ⟨c',h1,h2⟩:=h.get j c hc
   exact (hv j c' h1).wk h2
theorem zmf {rd:RD} {φ:Phi} {cs cs':List AV} {vs:List Value} (h:WkL cs cs') (hp:PW rd φ [.agg cs'] vs):PW rd φ [.agg cs] vs:=by
 obtain ⟨v,us,rfl,hr,hp⟩:=hp.uncons
 have:us=[]:=List.eq_nil_of_length_eq_zero hp.1.symm
 subst this
 exact PW.cons (hr.wkA h) PW.nil
def MMsg.roN (m:MMsg):AV:=.agg [vI m.kind,vI m.session,vI m.from_,vI m.size,vU m.root.a,vU m.root.b,vU m.root.c,vU m.root.d,vI m.count,.nilS,.nilS]
attribute [go_sem] MMsg.roN
theorem zme {m:MMsg} (hp:m.proof=[]) (hl:m.leaves=[]):∀(rd:RD) (vs:List Value),PW rd (fun _ _ _=>none) [m.roN] vs→PW rd (fun _ _ _=>none) [m.ro] vs:=by
 intro rd vs h
 refine zmf ?_ h
 rw [hp,hl]
 exact .cons (.inl rfl) (.cons (.inl rfl) (.cons (.inl rfl) (.cons (.inl rfl) (.cons (.inl rfl) (.cons (.inl rfl) (.cons (.inl rfl) (.cons (.inl rfl) (.cons (.inl rfl) (.cons (.inr ⟨rfl,_,rfl⟩) (.cons (.inr ⟨rfl,_,rfl⟩) .nil))))))))))
theorem wbS (m:MMsg) (hp:m.proof=[]) (hl:m.leaves=[]) (hr:m.root.ok):CallR Tryz.prog 23 [m.roN] (vS (zF m)) []:=
 (zoq m (by rw [hp];exact Nat.zero_le _) (by rw [hl];exact Nat.zero_le _) hr (by rw [hp];simp)).arg (zme hp hl)
theorem wbI (m:MMsg) (hp:m.proof=[]) (hl:m.leaves=[]):CallR Tryz.prog 153 [m.roN] (vS (zF m)) []:=
 (zrr m (by rw [hl];exact Nat.zero_le _)).arg (zme hp hl)
theorem zmR (f t:Int) (m:MMsg) (hp:m.proof=[]) (hl:m.leaves=[]):CallR Tryz.prog 108 [vI f,vI t,m.roN] (.agg (MLet.mk f t (zF m)).cs) []:=by
 refine zj dcF3 false Tryz.f108 ?_
 conv=>enter [1];reduce
 refine jvR Tryz.f108 12 [.cell 6 34] (by kernel_rfl) (by decide +kernel) rfl ?_
 simp -implicitDefEqProofs only [go_sem]
 refine Want.intro (wbI m hp hl) ?_
 simp -implicitDefEqProofs only [go_sem]
end Go.Proofs.YtpjpkmhaffmbmaaGreat.E
end
section
namespace Go.Proofs.YtpjpkmhaffmbmaaGreat.E
open Go Go.RowKit
set_option maxHeartbeats 4000000
set_option maxRecDepth 10000
set_option linter.unusedSimpArgs false
set_option linter.unusedVariables false
set_option linter.unusedSectionVars false
structure MAl where
 kind:Int
 who:Int
 held:MPt
 told:MPt
 code:Int
def MAl.cs (a:MAl):List AV:=[vI a.kind,vI a.who,vI a.held.size,vU a.held.root.a,vU a.held.root.b,vU a.held.root.c,vU a.held.root.d,vI a.told.size,vU a.told.root.a,vU a.told.root.b,vU a.told.root.c,vU a.told.root.d,vI a.code]
structure MTold where
 cl:MCl
 letters:List MLet
 alarms:List MAl
 acc:List MPt
def MCl.av (c:MCl) (p:List Nat):AV:=.agg (c.cs (.blk 0 0 p 1 0 c.acks.length))
def MTold.cs (t:MTold) (a l x p:AV):List AV:=t.cl.cs a++[l,x,p]
def MTold.av (t:MTold):AV:=.agg (t.cs (.blk 0 0 [9] 1 0 t.cl.acks.length) (.blk 0 0 [15] 3 0 t.letters.length) (.blk 0 0 [16] 13 0 t.alarms.length) (.blk 0 0 [17] 5 0 t.acc.length))
def MCl.ar (c:MCl):Row:=⟨1,c.acks.map intC,2,false⟩
def MTold.lr (t:MTold):Row:=⟨3,t.letters.map MLet.cs,2,false⟩
def MTold.xr (t:MTold):Row:=⟨13,t.alarms.map MAl.cs,2,false⟩
def MTold.pr (t:MTold):Row:=⟨5,t.acc.map MPt.cs,2,false⟩
def MTold.rf (t:MTold):List (List Nat × Row):=[([9],t.cl.ar),([15],t.lr),([16],t.xr),([17],t.pr)]
def zCl:List AV:=[vI 0,vI 0,vI 0,vI 0,vI 0,.sc (.int .u64 0),.sc (.int .u64 0),.sc (.int .u64 0),.sc (.int .u64 0),.nilS,vI 0,.sc (.int .u64 0),.sc (.int .u64 0),.sc (.int .u64 0),.sc (.int .u64 0)]
attribute [go_sem] zCl MAl.cs MCl.av MTold.cs MTold.av MCl.ar MTold.lr MTold.xr MTold.pr MTold.rf
def MTold.avQ (t:MTold):AV:=.agg (t.cs (.blk 0 0 [] 1 0 t.cl.acks.length) (.blk 1 0 [] 3 0 t.letters.length) (.blk 2 0 [] 13 0 t.alarms.length) (.blk 3 0 [] 5 0 t.acc.length))
def MTold.outQ (t:MTold):Sig:=[(0,0,one t.cl.ar),(1,0,one t.lr),(2,0,one t.xr),(3,0,one t.pr)]
attribute [go_sem] MTold.avQ MTold.outQ
theorem zpL {α:Type} {l:List α} {i:Nat} (h:i<l.length):l.take (i+1)=l.take i++[l[i]]:=List.take_succ_eq_append_getElem h
def zgm (w:Int):List Int→Bool→List Int
 | [],put=>if put then [] else [w]
 | a::l,put=>(if !put&&decide (a≥w) then [w] else [])++((if a != w then [a] else [])++zgm w l (put||decide (a≥w)))
def zqf (l:List Int) (w:Int):List Int:=zgm w l false
theorem zkE (w:Int):∀(l:List Int) (put:Bool),(zgm w l put).length≤2 * l.length+1
 | [],put=>by cases put<;>simp [zgm]
 | a::l,put=>by
  have:=zkE w l (put||decide (a≥w))
  simp only [zgm,List.length_append,List.length_cons]
  split<;>split<;>simp only [List.length_cons,List.length_nil]<;>omega
theorem zpx {w:Int} {l:List Int} {i:Nat} (h:i<l.length) (put:Bool):zgm w (l.drop i) put=(if !put&&decide (l[i]≥w) then [w] else [])++((if l[i] != w then [l[i]] else [])++zgm w (l.drop (i+1)) (put||decide (l[i]≥w))):=by
 rw [List.drop_eq_getElem_cons h];rfl
def zTd:List AV:=[vI 0,vI 0,vI 0,vI 0,vI 0,.sc (.int .u64 0),.sc (.int .u64 0),.sc (.int .u64 0),.sc (.int .u64 0),.nilS,vI 0,.sc (.int .u64 0),.sc (.int .u64 0),.sc (.int .u64 0),.sc (.int .u64 0),.nilS,.nilS,.nilS]
attribute [go_sem] zTd
def MTold.base (c:MCl):MTold:=⟨c,[],[],[]⟩
def mAck (c:MCl) (w:Int):MTold:=
 if ((zqf c.acks w).length:Int)<c.need then ⟨{c with acks:=zqf c.acks w},[],[],[]⟩
 else ⟨{c with phase:=0,goal:=.zero,acks:=[],pin:=c.goal},[],[],[c.goal]⟩
def eqP (a b:MPt):Bool:=a.size==b.size&&(((a.root.a:Int)==b.root.a)&&(((a.root.b:Int)==b.root.b)&&(((a.root.c:Int)==b.root.c)&&((a.root.d:Int)==b.root.d))))
def zp9 (c:MCl) (p:MPt):MMsg:=⟨3,c.session,0,p.size,p.root,0,[],[]⟩
def mHead (c:MCl) (me:Int) (p:MPt):MTold:=
 if p.size=0∨p.size<c.pin.size∨eqP p c.pin=true then .base c
 else if p.size=c.pin.size then ⟨c,[],[⟨1,0,c.pin,p,0⟩],[]⟩
 else ⟨{c with phase:=2,goal:=p},(List.range c.many.toNat).map (fun i:Nat=>MLet.mk me ((i:Int)+1) (zF (zp9 c p))),[],[]⟩
end Go.Proofs.YtpjpkmhaffmbmaaGreat.E
end
section
namespace Go.Proofs.YtpjpkmhaffmbmaaGreat.E
open Go Go.RowKit
set_option maxHeartbeats 4000000
set_option maxRecDepth 10000
set_option linter.unusedSimpArgs false
set_option linter.unusedVariables false
set_option linter.unusedSectionVars false
def dcW4:Dec:=⟨[],[9,10,11],[22,30,37,38,39,40,49,56,76,80,87,141,143,159,237,250,259],false⟩
structure MWish where
 who:Int
 session:Int
 pt:MPt
def MWish.cs (x:MWish):List AV:=[vI x.who,vI x.session,vI x.pt.size,vU x.pt.root.a,vU x.pt.root.b,vU x.pt.root.c,vU x.pt.root.d]
attribute [go_sem] MWish.cs
theorem MWish.wide (l:List MWish):xT 7 (l.map MWish.cs)=true:=by
 induction l with
 | nil=>rfl
 | cons a l ih=>simp only [List.map_cons,xT,ih,MWish.cs];rfl
theorem MWish.flat (l:List MWish):flL (l.map MWish.cs)=2:=by
 induction l with
 | nil=>rfl
 | cons a l ih=>simp only [List.map_cons,flL,ih,MWish.cs];rfl
attribute [go_sem] MWish.wide MWish.flat
theorem MAl.wide (l:List MAl):xT 13 (l.map MAl.cs)=true:=by
 induction l with
 | nil=>rfl
 | cons a l ih=>simp only [List.map_cons,xT,ih,MAl.cs];rfl
theorem MAl.flat (l:List MAl):flL (l.map MAl.cs)=2:=by
 induction l with
 | nil=>rfl
 | cons a l ih=>simp only [List.map_cons,flL,ih,MAl.cs];rfl
attribute [go_sem] MAl.wide MAl.flat
theorem zh0 (l:List MWish) (hl:l.length * 56≤140737488355328):CallR Tryz.prog 42 [.ro 7 (l.map MWish.cs)] (.blk 0 0 [] 7 0 l.length) [([],⟨7,l.map MWish.cs,2,false⟩)]:=by
 refine zj dcW4 false Tryz.f42 ?_
 conv=>enter [1];reduce
 refine jvR Tryz.f42 14 [.tmp 2] (by kernel_rfl) (by decide +kernel) rfl ?_
 simp -implicitDefEqProofs only [go_sem]
 refine zi (fun h=>?_) (fun h=>?_)
 ·have:l=[]:=by simpa using h
  subst this
  simp -implicitDefEqProofs only [go_sem]
 ·have hm:=zbs hl (by omega)
  have hmk:((56:Nat):Int) * (l.length:Int)≤281474976710656∧(l.length:Int)≤9223372036854775807:=by unfold maxLen at hm;omega
  simp -implicitDefEqProofs only [go_sem,h,hmk,List.length_replicate]
theorem copWN:CallR Tryz.prog 42 [.nilS] (.blk 0 0 [] 7 0 0) [([],⟨7,[],2,false⟩)]:=
 (zh0 [] (by simp)).arg fun rd vs h=>by
  obtain ⟨v,us,rfl,hr,hp⟩:=h.uncons
  have:us=[]:=List.eq_nil_of_length_eq_zero hp.1.symm
  subst this
  exact PW.cons (hr.wk (.inr ⟨rfl,7,rfl⟩)) PW.nil
theorem zki (l:List MAl) (hl:l.length * 104≤140737488355328):CallR Tryz.prog 47 [.ro 13 (l.map MAl.cs)] (.blk 0 0 [] 13 0 l.length) [([],⟨13,l.map MAl.cs,2,false⟩)]:=by
 refine zj dcW4 false Tryz.f47 ?_
 conv=>enter [1];reduce
 refine jvR Tryz.f47 14 [.tmp 2] (by kernel_rfl) (by decide +kernel) rfl ?_
 simp -implicitDefEqProofs only [go_sem]
 refine zi (fun h=>?_) (fun h=>?_)
 ·have:l=[]:=by simpa using h
  subst this
  simp -implicitDefEqProofs only [go_sem]
 ·have hm:=zbs hl (by omega)
  have hmk:((104:Nat):Int) * (l.length:Int)≤281474976710656∧(l.length:Int)≤9223372036854775807:=by unfold maxLen at hm;omega
  simp -implicitDefEqProofs only [go_sem,h,hmk,List.length_replicate]
theorem copAN:CallR Tryz.prog 47 [.nilS] (.blk 0 0 [] 13 0 0) [([],⟨13,[],2,false⟩)]:=
 (zki [] (by simp)).arg fun rd vs h=>by
  obtain ⟨v,us,rfl,hr,hp⟩:=h.uncons
  have:us=[]:=List.eq_nil_of_length_eq_zero hp.1.symm
  subst this
  exact PW.cons (hr.wk (.inr ⟨rfl,13,rfl⟩)) PW.nil
structure MWit where
 disk:MDisk
 wishes:List MWish
def MWit.cs (w:MWit) (l:AV):List AV:=w.disk.cs++[l]
def MWit.ro (w:MWit):AV:=.agg (w.cs (.ro 7 (w.wishes.map MWish.cs)))
attribute [go_sem] MWit.cs MWit.ro
def yY (h:Int) (l:List MWish) (i:Nat):Bool:=match l[i]? with
 | some x=>mIn x.who 1 20&&((match i with
  | 0=>true
  | j+1=>match l[j]? with
   | some y=>decide (y.who<x.who)
   | none=>true)&&(mIn x.session 1 1000000&&mIn x.pt.size (h+1) 256))
 | none=>true
def yy (w:MWit):Bool:=decide (w.wishes.length≤8)&&(List.range w.wishes.length).all fun i=>yY (zA w.disk).size w.wishes i
theorem zij {w:MWit} {i:Nat} (hi:i<w.wishes.length) (h:yY (zA w.disk).size w.wishes i=false):yy w=false:=by
 unfold yy
 rw [Bool.and_eq_false_iff]
 right
 rw [List.all_eq_false]
 exact ⟨i,List.mem_range.2 hi,by rw [h];decide⟩
theorem zgq {w:MWit} (h:∀j,j<w.wishes.length→yY (zA w.disk).size w.wishes j=true):yy w=decide (w.wishes.length≤8):=by
 unfold yy
 have:((List.range w.wishes.length).all fun i=>yY (zA w.disk).size w.wishes i)=true:=by
  rw [List.all_eq_true]
  exact fun j hj=>h j (List.mem_range.1 hj)
 rw [this,Bool.and_true]
theorem c40_c (w:MWit) (h:w.disk.ok) (hl:w.wishes.length≤maxLen):CallR Tryz.prog 40 [w.ro] (vB (yy w)) []:=by
 refine zj dcW4 false Tryz.f40 ?_
 conv=>enter [1];reduce
 refine jvR Tryz.f40 58 [.tmp 2] (by kernel_rfl) (by decide +kernel) rfl ?_
 have hH:=zos w.disk h
 have hbd:=zaY w.disk
 have hbad:=@zij w
 have hgood:=@zgq w
 obtain ⟨disk,l⟩:=w
 simp only at *
 generalize zA disk=H at *
 obtain ⟨hs,hr⟩:=H
 simp only at *
 have w1:IntKind.i64.wrap (hs+1)=hs+1:=wrS (by omega)
 simp -implicitDefEqProofs only [go_sem]
 refine Want.intro hH ?_
 simp -implicitDefEqProofs only [go_sem]
 refine zU (fun m z=>∃i,(i≤l.length∧∀j,j<i→yY hs l j=true)∧m=l.length - i∧z=⟨58,[(1,.ptr 1 0 [] 15 0 0),(3,.ptr 3 0 [] 5 0 0),(10,.ro 7 (l.map MWish.cs)),(11,vI l.length),(12,vI i)],[(1,0,one ⟨15,[MWit.cs ⟨disk,l⟩ (.ro 7 (l.map MWish.cs))],0,false⟩),(3,0,one ⟨5,[MPt.cs ⟨hs,hr⟩],0,false⟩)],1⟩) l.length ?_ ?_
 ·simp -implicitDefEqProofs only [go_sem]
  exact ⟨0,⟨Nat.zero_le _,fun j hj=>absurd hj (Nat.not_lt_zero _)⟩,rfl,rfl⟩
 ·rintro m z ⟨i,⟨hi,hall⟩,rfl,rfl⟩
  rcases Nat.lt_or_ge i l.length with hlt | hge
  ·have hlt':(i:Int)<(l.length:Int):=by omega
   have hg:l[i]?=some l[i]:=List.getElem?_eq_getElem hlt
   have hw:=zB hlt hl
   have hb:=hbad hlt
   have hat:yY hs l i=yY hs l i:=rfl
   conv at hat=>rhs;unfold yY
   rw [hg] at hat
   simp only at hat
   generalize l[i]=x at *
   simp -implicitDefEqProofs only [go_sem,hlt',hg,zb,za]
   refine Want.intro (qq x.who 1 20) ?_
   cases a1:mIn x.who 1 20 with
   | false=>
    have hf:yY hs l i=false:=by rw [hat];simp [a1]
    rw [hb hf]
    simp -implicitDefEqProofs only [go_sem,a1,ze,zf,zg,zc,zb,za,Bool.not_true,Bool.not_false,Bool.false_eq_true]
   | true=>
    cases i with
    | zero=>
     have q0:¬(((0:Nat):Int)>0):=by decide
     simp -implicitDefEqProofs only [go_sem,a1,q0,ze,zf,zg,zc,zb,za,Bool.not_true,Bool.not_false,Bool.false_eq_true]
     refine Want.intro (qq x.session 1 1000000) ?_
     cases a3:mIn x.session 1 1000000 with
     | false=>
      have hf:yY hs l 0=false:=by rw [hat];simp [a1,a3]
      rw [hb hf]
      simp -implicitDefEqProofs only [go_sem,a3,q0,ze,zf,zg,zc,zb,za,Bool.not_true,Bool.not_false,Bool.false_eq_true]
     | true=>
      simp -implicitDefEqProofs only [go_sem,a3,w1,ze,zf,zg,zc,zb,za,Bool.not_true,Bool.not_false]
      refine Want.intro (qq x.pt.size (hs+1) 256) ?_
      cases a4:mIn x.pt.size (hs+1) 256 with
      | false=>
       have hf:yY hs l 0=false:=by rw [hat];simp [a1,a3,a4]
       rw [hb hf]
       simp -implicitDefEqProofs only [go_sem,a4,ze,zf,zg,zc,zb,za,Bool.not_true,Bool.not_false,Bool.false_eq_true]
      | true=>
       have hf:yY hs l 0=true:=by rw [hat];simp [a1,a3,a4]
       simp -implicitDefEqProofs only [go_sem,a4,w1,hw,q0,ze,zf,zg,zc,zb,za,Bool.not_true,Bool.not_false,Bool.false_eq_true]
       exact ⟨_,by omega,0+1,⟨hlt,fun k hk=>by rcases Nat.lt_succ_iff_lt_or_eq.1 hk with hk | rfl;exact hall k hk;exact hf⟩,rfl,rfl⟩
    | succ j=>
     have q0:(((j+1:Nat):Int)>0):=by omega
     have w5:IntKind.i64.wrap (((j+1:Nat):Int) - 1)=(j:Int):=by rw [wrS (by unfold maxLen at hl;omega)];omega
     have hj:j<l.length:=by omega
     have hj':(j:Int)<(l.length:Int):=by omega
     have hgj:l[j]?=some l[j]:=List.getElem?_eq_getElem hj
     simp only [hgj] at hat
     generalize l[j]=y at *
     by_cases a2:y.who≥x.who
     ·have a2':decide (y.who<x.who)=false:=decide_eq_false (by omega)
      have hf:yY hs l (j+1)=false:=by rw [hat];simp [a1,a2']
      rw [hb hf]
      simp -implicitDefEqProofs only [go_sem,a1,q0,w5,hj',hgj,a2,ze,zf,zg,zc,zb,za,Bool.not_true,Bool.not_false,Bool.false_eq_true]
     ·have a2':decide (y.who<x.who)=true:=decide_eq_true (by omega)
      simp -implicitDefEqProofs only [go_sem,a1,q0,w5,hj',hgj,a2,ze,zf,zg,zc,zb,za,Bool.not_true,Bool.not_false,Bool.false_eq_true]
      refine Want.intro (qq x.session 1 1000000) ?_
      cases a3:mIn x.session 1 1000000 with
      | false=>
       have hf:yY hs l (j+1)=false:=by rw [hat];simp [a1,a2',a3]
       rw [hb hf]
       simp -implicitDefEqProofs only [go_sem,a3,a1,ze,zf,zg,zc,zb,za,Bool.not_true,Bool.not_false,Bool.false_eq_true]
      | true=>
       simp -implicitDefEqProofs only [go_sem,a3,w1,ze,zf,zg,zc,zb,za,Bool.not_true,Bool.not_false]
       refine Want.intro (qq x.pt.size (hs+1) 256) ?_
       cases a4:mIn x.pt.size (hs+1) 256 with
       | false=>
        have hf:yY hs l (j+1)=false:=by rw [hat];simp [a1,a2',a3,a4]
        rw [hb hf]
        simp -implicitDefEqProofs only [go_sem,a4,ze,zf,zg,zc,zb,za,Bool.not_true,Bool.not_false,Bool.false_eq_true]
       | true=>
        have hf:yY hs l (j+1)=true:=by rw [hat];simp [a1,a2',a3,a4]
        simp -implicitDefEqProofs only [go_sem,a4,w1,hw,a1,ze,zf,zg,zc,zb,za,Bool.not_true,Bool.not_false,Bool.false_eq_true]
        exact ⟨_,by omega,(j+1)+1,⟨hlt,fun k hk=>by rcases Nat.lt_succ_iff_lt_or_eq.1 hk with hk | rfl;exact hall k hk;exact hf⟩,rfl,rfl⟩
  ·have hi:i=l.length:=by omega
   subst hi
   have hlt':¬((l.length:Int)<(l.length:Int)):=by omega
   rw [hgood hall]
   have e8:decide ((l.length:Int)≤8)=decide (l.length≤8):=by simp only [decide_eq_decide];omega
   simp -implicitDefEqProofs only [go_sem,hlt',e8]
theorem zot (w:MWit) (h:w.disk.ok) (hl:w.wishes.length≤maxLen):CallR Tryz.prog 10 [w.ro] (vB (yy w)) []:=by
 refine zj dcW4 false Tryz.f10 ?_
 conv=>enter [1];reduce
 refine jvR Tryz.f10 59 [.tmp 2] (by kernel_rfl) (by decide +kernel) rfl ?_
 have hH:=zl0 w.disk h
 have hbd:=zaY w.disk
 have hbad:=@zij w
 have hgood:=@zgq w
 obtain ⟨disk,l⟩:=w
 simp only at *
 generalize zA disk=H at *
 obtain ⟨hs,hr⟩:=H
 simp only at *
 have w1:IntKind.i64.wrap (hs+1)=hs+1:=wrS (by omega)
 rcases Nat.lt_or_ge 8 l.length with h8 | h8
 ·have h8':(l.length:Int)>8:=by omega
  have e8:yy ⟨disk,l⟩=false:=by unfold yy;rw [decide_eq_false (by show ¬l.length≤8;omega)];rfl
  rw [e8]
  simp -implicitDefEqProofs only [go_sem,h8',ze,zf,zg,zc,zb,za,Bool.not_true,Bool.not_false]
 have h8':¬((l.length:Int)>8):=by omega
 simp -implicitDefEqProofs only [go_sem,h8',ze,zf,zg,zc,zb,za,Bool.not_true,Bool.not_false]
 refine Want.intro hH ?_
 simp -implicitDefEqProofs only [go_sem]
 refine zU (fun m z=>∃i,(i≤l.length∧∀j,j<i→yY hs l j=true)∧m=l.length - i∧z=⟨59,[(1,.ptr 1 0 [] 15 0 0),(3,.ptr 3 0 [] 5 0 0),(4,vI i)],[(1,0,one ⟨15,[MWit.cs ⟨disk,l⟩ (.ro 7 (l.map MWish.cs))],0,false⟩),(3,0,one ⟨5,[MPt.cs ⟨hs,hr⟩],0,false⟩)],1⟩) l.length ?_ ?_
 ·simp -implicitDefEqProofs only [go_sem]
  exact ⟨0,⟨Nat.zero_le _,fun j hj=>absurd hj (Nat.not_lt_zero _)⟩,rfl,rfl⟩
 ·rintro m z ⟨i,⟨hi,hall⟩,rfl,rfl⟩
  rcases Nat.lt_or_ge i l.length with hlt | hge
  ·have hlt':(i:Int)<(l.length:Int):=by omega
   have hg:l[i]?=some l[i]:=List.getElem?_eq_getElem hlt
   have hw:=zB hlt hl
   have hb:=hbad hlt
   have hat:yY hs l i=yY hs l i:=rfl
   conv at hat=>rhs;unfold yY
   rw [hg] at hat
   simp only at hat
   generalize l[i]=x at *
   simp -implicitDefEqProofs only [go_sem,hlt',hg,zb,za]
   refine Want.intro (zao x.who 1 20) ?_
   cases a1:mIn x.who 1 20 with
   | false=>
    have hf:yY hs l i=false:=by rw [hat];simp [a1]
    rw [hb hf]
    simp -implicitDefEqProofs only [go_sem,a1,ze,zf,zg,zc,zb,za,Bool.not_true,Bool.not_false,Bool.false_eq_true]
   | true=>
    simp -implicitDefEqProofs only [go_sem,a1,ze,zf,zg,zc,zb,za,Bool.not_true,Bool.not_false]
    refine Want.intro (zao x.session 1 1000000) ?_
    cases a3:mIn x.session 1 1000000 with
    | false=>
     have hf:yY hs l i=false:=by rw [hat];simp [a1,a3]
     rw [hb hf]
     simp -implicitDefEqProofs only [go_sem,a3,ze,zf,zg,zc,zb,za,Bool.not_true,Bool.not_false,Bool.false_eq_true]
    | true=>
     simp -implicitDefEqProofs only [go_sem,a3,w1,ze,zf,zg,zc,zb,za,Bool.not_true,Bool.not_false]
     refine Want.intro (zao x.pt.size (hs+1) 256) ?_
     cases a4:mIn x.pt.size (hs+1) 256 with
     | false=>
      have hf:yY hs l i=false:=by rw [hat];simp [a1,a3,a4]
      rw [hb hf]
      simp -implicitDefEqProofs only [go_sem,a4,ze,zf,zg,zc,zb,za,Bool.not_true,Bool.not_false,Bool.false_eq_true]
     | true=>
      cases i with
      | zero=>
       have q0:¬(((0:Nat):Int)>0):=by decide
       have hf:yY hs l 0=true:=by rw [hat];simp [a1,a3,a4]
       simp -implicitDefEqProofs only [go_sem,a4,q0,hw,ze,zf,zg,zc,zb,za,Bool.not_true,Bool.not_false,Bool.false_eq_true]
       exact ⟨_,by omega,0+1,⟨hlt,fun k hk=>by rcases Nat.lt_succ_iff_lt_or_eq.1 hk with hk | rfl;exact hall k hk;exact hf⟩,rfl,rfl⟩
      | succ j=>
       have q0:(((j+1:Nat):Int)>0):=by omega
       have w5:IntKind.i64.wrap (((j+1:Nat):Int) - 1)=(j:Int):=by rw [wrS (by unfold maxLen at hl;omega)];omega
       have hj:j<l.length:=by omega
       have hj':(j:Int)<(l.length:Int):=by omega
       have hgj:l[j]?=some l[j]:=List.getElem?_eq_getElem hj
       simp only [hgj] at hat
       generalize l[j]=y at *
       by_cases a2:y.who≥x.who
       ·have a2':decide (y.who<x.who)=false:=decide_eq_false (by omega)
        have hf:yY hs l (j+1)=false:=by rw [hat];simp [a1,a2',a3,a4]
        rw [hb hf]
        simp -implicitDefEqProofs only [go_sem,a4,q0,w5,hj',hgj,a2,ze,zf,zg,zc,zb,za,Bool.not_true,Bool.not_false,Bool.false_eq_true]
       ·have a2':decide (y.who<x.who)=true:=decide_eq_true (by omega)
        have hf:yY hs l (j+1)=true:=by rw [hat];simp [a1,a2',a3,a4]
        simp -implicitDefEqProofs only [go_sem,a4,q0,w5,hj',hgj,a2,hw,ze,zf,zg,zc,zb,za,Bool.not_true,Bool.not_false,Bool.false_eq_true]
        exact ⟨_,by omega,j+1+1,⟨hlt,fun k hk=>by rcases Nat.lt_succ_iff_lt_or_eq.1 hk with hk | rfl;exact hall k hk;exact hf⟩,rfl,rfl⟩
  ·have hi:i=l.length:=by omega
   subst hi
   have hlt':¬((l.length:Int)<(l.length:Int)):=by omega
   rw [hgood hall,decide_eq_true h8]
   simp -implicitDefEqProofs only [go_sem,hlt']
end Go.Proofs.YtpjpkmhaffmbmaaGreat.E
end
section
namespace Go.Proofs.YtpjpkmhaffmbmaaGreat.E
open Go Go.RowKit
set_option maxHeartbeats 4000000
set_option maxRecDepth 10000
set_option linter.unusedSimpArgs false
set_option linter.unusedVariables false
set_option linter.unusedSectionVars false
def zqW:Dec:=⟨[],[9,10,11],[22,30,37,38,39,40,49,56,76,80,87,141,143,159,237,250,259],false⟩
theorem zb9 {L:List (List AV)} {b:Nat} (h:L.length≤9000) (hb:b≤1000) (v:List AV):(L++[v]).length≤maxLen∧(L++[v]).length * b≤140737488355328:=by
 rw [List.length_append]
 have e:L.length+[v].length≤9001:=by simp;omega
 have:=Nat.mul_le_mul e hb
 unfold maxLen
 omega
theorem zgN {n:Nat}:decide ((n:Int)≤8)=decide (n≤8):=by simp only [decide_eq_decide];omega
def zV (x:MWish) (st:List MWish × Bool) (y:MWish):List MWish × Bool:=
 if st.2=false∧y.who≥x.who then (if y.who=x.who then (st.1++[x],true) else (st.1++[x]++[y],true)) else (if y.who=x.who then st else (st.1++[y],st.2))
def qU (x:MWish) (l:List MWish):List MWish × Bool:=l.foldl (zV x) ([],false)
def yu (l:List MWish) (x:MWish):List MWish:=if (qU x l).2 then (qU x l).1 else (qU x l).1++[x]
theorem zcy {x:MWish} {l:List MWish} {i:Nat} (h:i<l.length):qU x (l.take (i+1))=zV x (qU x (l.take i)) l[i]:=by
 unfold qU
 rw [List.take_succ_eq_append_getElem h,List.foldl_append]
 rfl
theorem zik (x:MWish) (l:List MWish):∀st:List MWish × Bool,(l.foldl (zV x) st).1.length≤st.1.length+2 * l.length:=by
 induction l with
 | nil=>intro st;simp
 | cons a l ih=>
  intro st
  have:=ih (zV x st a)
  simp only [List.foldl_cons,List.length_cons]
  have e:(zV x st a).1.length≤st.1.length+2:=by
   unfold zV
   split
   ·split<;>simp
   ·split<;>simp
  omega
theorem zde (x:MWish) (l:List MWish):(qU x l).1.length≤2 * l.length:=by
 have:=zik x l ([],false)
 simp only [List.length_nil,Nat.zero_add] at this
 exact this
theorem zrI (l:List MWish) (x:MWish) (hl:l.length≤8):CallR Tryz.prog 107 [.ro 7 (l.map MWish.cs),.agg x.cs] (.blk 0 0 [] 7 0 (yu l x).length) [([],⟨7,(yu l x).map MWish.cs,2,false⟩)]:=by
 refine zj zqW false Tryz.f107 ?_
 conv=>enter [1];reduce
 refine jvR Tryz.f107 45 [.tmp 4] (by kernel_rfl) (by decide +kernel) rfl ?_
 have hlm:l.length≤maxLen:=by unfold maxLen;omega
 simp -implicitDefEqProofs only [go_sem]
 refine qO [(5,7)] (fun m z=>∃i,i≤l.length∧m=l.length - i∧z=⟨45,[(3,.ptr 3 0 [] 7 0 0),(5,.blk 5 0 [] 7 0 (qU x (l.take i)).1.length),(6,vB (qU x (l.take i)).2),(9,.ro 7 (l.map MWish.cs)),(10,vI l.length),(11,vI i)],[(3,0,one ⟨7,[x.cs],0,false⟩),(5,0,one ⟨7,(qU x (l.take i)).1.map MWish.cs,2,false⟩)],1⟩) l.length ?_ ?_
 ·simp -implicitDefEqProofs only [go_sem]
  exact ⟨0,Nat.zero_le _,rfl,rfl⟩
 ·rintro m z ⟨i,hi,rfl,rfl⟩
  have hle:=zde x (l.take i)
  rw [List.length_take] at hle
  rcases Nat.lt_or_ge i l.length with hlt | hge
  ·have hlt':(i:Int)<(l.length:Int):=by omega
   have hg:l[i]?=some l[i]:=List.getElem?_eq_getElem hlt
   have hw:=zB hlt hlm
   have hst:=zcy (x:=x) hlt
   generalize l[i]=y at *
   generalize qU x (l.take i)=S at *
   obtain ⟨out,put⟩:=S
   unfold zV at hst
   simp only at hle hst
   have ha1:∀v,_:=fun v=>zb9 (L:=out.map MWish.cs) (b:=56) (by rw [List.length_map];omega) (by omega) v
   have ha2:∀c v,_:=fun c v=>zb9 (L:=out.map MWish.cs++[c]) (b:=56) (by simp;omega) (by omega) v
   by_cases q2:y.who=x.who
   ·have f2:(y.who != x.who)=false:=by rw [bne_eq_false_iff_eq];exact q2
    have q1:y.who≥x.who:=by omega
    cases put with
    | true=>
     rw [if_neg (by simp),if_pos q2] at hst
     simp -implicitDefEqProofs only [go_sem,hlt',hg,hw,q1,f2,Bool.not_true,Bool.not_false,ze,zf,zg,zc,zb,za]
     exact ⟨_,by omega,i+1,hlt,rfl,by rw [hst]⟩
    | false=>
     rw [if_pos ⟨rfl,q1⟩,if_pos q2] at hst
     simp -implicitDefEqProofs only [go_sem,hlt',hg,hw,q1,f2,ha1,Bool.not_true,Bool.not_false,ze,zf,zg,zc,zb,za]
     exact ⟨_,by omega,i+1,hlt,rfl,by rw [hst];simp only [List.map_append,List.length_append,List.length_map,List.map_cons,List.map_nil,List.length_cons,List.length_nil];try rfl⟩
   ·have f2:(y.who != x.who)=true:=by rw [bne_iff_ne];exact q2
    cases put with
    | true=>
     rw [if_neg (by simp),if_neg q2] at hst
     simp -implicitDefEqProofs only [go_sem,hlt',hg,hw,f2,ha1,Bool.not_true,Bool.not_false,ze,zf,zg,zc,zb,za]
     exact ⟨_,by omega,i+1,hlt,rfl,by rw [hst];simp only [List.map_append,List.length_append,List.length_map,List.map_cons,List.map_nil,List.length_cons,List.length_nil];try rfl⟩
    | false=>
     by_cases q1:y.who≥x.who
     ·rw [if_pos ⟨rfl,q1⟩,if_neg q2] at hst
      simp -implicitDefEqProofs only [go_sem,hlt',hg,hw,q1,f2,ha1,ha2,Bool.not_true,Bool.not_false,ze,zf,zg,zc,zb,za]
      exact ⟨_,by omega,i+1,hlt,rfl,by rw [hst];simp only [List.map_append,List.length_append,List.length_map,List.map_cons,List.map_nil,List.length_cons,List.length_nil];try rfl⟩
     ·rw [if_neg (fun h=>q1 h.2),if_neg q2] at hst
      simp -implicitDefEqProofs only [go_sem,hlt',hg,hw,q1,f2,ha1,Bool.not_true,Bool.not_false,ze,zf,zg,zc,zb,za]
      exact ⟨_,by omega,i+1,hlt,rfl,by rw [hst];simp only [List.map_append,List.length_append,List.length_map,List.map_cons,List.map_nil,List.length_cons,List.length_nil];try rfl⟩
  ·have hi:i=l.length:=by omega
   subst hi
   have hlt':¬((l.length:Int)<(l.length:Int)):=by omega
   rw [List.take_length] at hle ⊢
   unfold yu
   generalize qU x l=S at *
   obtain ⟨out,put⟩:=S
   simp only at hle
   have ha1:∀v,_:=fun v=>zb9 (L:=out.map MWish.cs) (b:=56) (by rw [List.length_map];omega) (by omega) v
   cases put with
   | true=>
    simp -implicitDefEqProofs only [go_sem,hlt',Bool.not_true,zb,za]
    all_goals
     simp only [List.map_append,List.length_append,List.length_map,List.map_cons,List.map_nil,List.length_cons,List.length_nil,zgN]
     first | done | exact ⟨rfl,rfl⟩ | exact ⟨trivial,rfl⟩ | exact ⟨rfl,trivial⟩
   | false=>
    simp -implicitDefEqProofs only [go_sem,hlt',ha1,Bool.not_false,zb,za,Bool.false_eq_true]
    all_goals
     simp only [List.map_append,List.length_append,List.length_map,List.map_cons,List.map_nil,List.length_cons,List.length_nil,zgN]
     first | done | exact ⟨rfl,rfl⟩ | exact ⟨trivial,rfl⟩ | exact ⟨rfl,trivial⟩
theorem zrE (l:List MWish) (x:MWish) (hl:l.length≤8):zS Tryz.prog 112 [] [.ro 7 (l.map MWish.cs),.agg x.cs] (.tup [.blk 0 0 [] 7 0 (yu l x).length,vB (decide ((yu l x).length≤8))]) [(0,0,one ⟨7,(yu l x).map MWish.cs,2,false⟩)]:=by
 refine zj zqW false Tryz.f112 ?_
 conv=>enter [1];reduce
 refine jvM Tryz.f112 57 [.tmp 4,.tmp 5] (by kernel_rfl) (by decide +kernel) rfl ?_
 have hlm:l.length≤maxLen:=by unfold maxLen;omega
 simp -implicitDefEqProofs only [go_sem]
 refine zU (fun m z=>∃i,i≤l.length∧m=l.length - i∧z=⟨57,[(0,.ro 7 (l.map MWish.cs)),(3,.ptr 3 0 [] 7 0 0),(6,.blk 6 0 [] 7 0 (qU x (l.take i)).1.length),(7,vB (qU x (l.take i)).2),(8,vI i)],[(3,0,one ⟨7,[x.cs],0,false⟩),(6,0,one ⟨7,(qU x (l.take i)).1.map MWish.cs,2,false⟩)],1⟩) l.length ?_ ?_
 ·simp -implicitDefEqProofs only [go_sem]
  exact ⟨0,Nat.zero_le _,rfl,rfl⟩
 ·rintro m z ⟨i,hi,rfl,rfl⟩
  have hle:=zde x (l.take i)
  rw [List.length_take] at hle
  rcases Nat.lt_or_ge i l.length with hlt | hge
  ·have hlt':(i:Int)<(l.length:Int):=by omega
   have hg:l[i]?=some l[i]:=List.getElem?_eq_getElem hlt
   have hw:=zB hlt hlm
   have hst:=zcy (x:=x) hlt
   generalize l[i]=y at *
   generalize qU x (l.take i)=S at *
   obtain ⟨out,put⟩:=S
   unfold zV at hst
   simp only at hle hst
   have ha1:∀v,_:=fun v=>zb9 (L:=out.map MWish.cs) (b:=56) (by rw [List.length_map];omega) (by omega) v
   have ha2:∀c v,_:=fun c v=>zb9 (L:=out.map MWish.cs++[c]) (b:=56) (by simp;omega) (by omega) v
   by_cases q2:y.who=x.who
   ·have f2:(y.who != x.who)=false:=by rw [bne_eq_false_iff_eq];exact q2
    have q1:y.who≥x.who:=by omega
    cases put with
    | true=>
     rw [if_neg (by simp),if_pos q2] at hst
     simp -implicitDefEqProofs only [go_sem,hlt',hg,hw,q1,f2,Bool.not_true,Bool.not_false,ze,zf,zg,zc,zb,za]
     exact ⟨_,by omega,i+1,hlt,rfl,by rw [hst]⟩
    | false=>
     rw [if_pos ⟨rfl,q1⟩,if_pos q2] at hst
     simp -implicitDefEqProofs only [go_sem,hlt',hg,hw,q1,f2,ha1,Bool.not_true,Bool.not_false,ze,zf,zg,zc,zb,za]
     exact ⟨_,by omega,i+1,hlt,rfl,by rw [hst];simp only [List.map_append,List.length_append,List.length_map,List.map_cons,List.map_nil,List.length_cons,List.length_nil];try rfl⟩
   ·have f2:(y.who != x.who)=true:=by rw [bne_iff_ne];exact q2
    cases put with
    | true=>
     rw [if_neg (by simp),if_neg q2] at hst
     simp -implicitDefEqProofs only [go_sem,hlt',hg,hw,f2,ha1,Bool.not_true,Bool.not_false,ze,zf,zg,zc,zb,za]
     exact ⟨_,by omega,i+1,hlt,rfl,by rw [hst];simp only [List.map_append,List.length_append,List.length_map,List.map_cons,List.map_nil,List.length_cons,List.length_nil];try rfl⟩
    | false=>
     by_cases q1:y.who≥x.who
     ·rw [if_pos ⟨rfl,q1⟩,if_neg q2] at hst
      simp -implicitDefEqProofs only [go_sem,hlt',hg,hw,q1,f2,ha1,ha2,Bool.not_true,Bool.not_false,ze,zf,zg,zc,zb,za]
      exact ⟨_,by omega,i+1,hlt,rfl,by rw [hst];simp only [List.map_append,List.length_append,List.length_map,List.map_cons,List.map_nil,List.length_cons,List.length_nil];try rfl⟩
     ·rw [if_neg (fun h=>q1 h.2),if_neg q2] at hst
      simp -implicitDefEqProofs only [go_sem,hlt',hg,hw,q1,f2,ha1,Bool.not_true,Bool.not_false,ze,zf,zg,zc,zb,za]
      exact ⟨_,by omega,i+1,hlt,rfl,by rw [hst];simp only [List.map_append,List.length_append,List.length_map,List.map_cons,List.map_nil,List.length_cons,List.length_nil];try rfl⟩
  ·have hi:i=l.length:=by omega
   subst hi
   have hlt':¬((l.length:Int)<(l.length:Int)):=by omega
   rw [List.take_length] at hle ⊢
   unfold yu
   generalize qU x l=S at *
   obtain ⟨out,put⟩:=S
   simp only at hle
   have ha1:∀v,_:=fun v=>zb9 (L:=out.map MWish.cs) (b:=56) (by rw [List.length_map];omega) (by omega) v
   cases put with
   | true=>
    simp -implicitDefEqProofs only [go_sem,hlt',Bool.not_true,zb,za]
    all_goals
     simp only [List.map_append,List.length_append,List.length_map,List.map_cons,List.map_nil,List.length_cons,List.length_nil,zgN]
     first | done | exact ⟨rfl,rfl⟩ | exact ⟨trivial,rfl⟩ | exact ⟨rfl,trivial⟩
   | false=>
    simp -implicitDefEqProofs only [go_sem,hlt',ha1,Bool.not_false,zb,za,Bool.false_eq_true]
    all_goals
     simp only [List.map_append,List.length_append,List.length_map,List.map_cons,List.map_nil,List.length_cons,List.length_nil,zgN]
     first | done | exact ⟨rfl,rfl⟩ | exact ⟨trivial,rfl⟩ | exact ⟨rfl,trivial⟩
def zjC (s:Int) (p:MPt):MMsg:=⟨6,s,0,p.size,p.root,0,[],[]⟩
def zaP (me who s:Int) (p:MPt):MLet:=⟨me,who,zF (zjC s p)⟩
theorem zkr (me who s:Int) (p:MPt):CallR Tryz.prog 106 [vI me,vI who,vI s,.agg p.cs] (.agg (zaP me who s p).cs) []:=by
 refine zj zqW false Tryz.f106 ?_
 conv=>enter [1];reduce
 refine jvR Tryz.f106 18 [.cell 8 34] (by kernel_rfl) (by decide +kernel) rfl ?_
 have hl:=zmR me who (zjC s p) rfl rfl
 simp -implicitDefEqProofs only [go_sem]
 refine Want.intro hl ?_
 simp -implicitDefEqProofs only [go_sem]
 rfl
theorem zkq (me:Int) (x:MWish) (h:x.pt.root.ok):CallR Tryz.prog 111 [vI me,.agg x.cs] (.agg (zaP me x.who x.session x.pt).cs) []:=by
 refine zj zqW false Tryz.f111 ?_
 conv=>enter [1];reduce
 refine jvR Tryz.f111 21 [.cell 4 34] (by kernel_rfl) (by decide +kernel) rfl ?_
 have hl:=wbS (zjC x.session x.pt) rfl rfl h
 simp -implicitDefEqProofs only [go_sem]
 refine Want.intro hl ?_
 simp -implicitDefEqProofs only [go_sem]
 rfl
theorem zop (w:MWit) (hl:w.wishes.length≤100):zS Tryz.prog 51 [] [w.ro] (.agg (w.cs (.blk 0 0 [] 7 0 w.wishes.length))) [(0,0,one ⟨7,w.wishes.map MWish.cs,2,false⟩)]:=by
 refine zj zqW false Tryz.f51 ?_
 conv=>enter [1];reduce
 refine jvM Tryz.f51 26 [.cell 2 32] (by kernel_rfl) (by decide +kernel) rfl ?_
 obtain ⟨disk,l⟩:=w
 simp only at hl
 have hlm:l.length≤maxLen:=by unfold maxLen;omega
 simp -implicitDefEqProofs only [go_sem]
 refine zU (fun m z=>∃(i:Nat) (c:AV) (R:Sig),(i≤l.length∧(i=0∧c=.nilS∧R=[]∨0<i∧c=.blk 10003 0 [] 7 0 (l.take i).length∧R=[(10003,0,one ⟨7,(l.take i).map MWish.cs,2,false⟩)]))∧m=l.length - i∧z=⟨26,[(1,.ptr 1 0 [] 15 0 0),(2,.ptr 2 0 [] 15 0 0),(3,.ptr 3 0 [] 15 0 0),(4,vI i)],[(1,0,one ⟨15,[MWit.cs ⟨disk,l⟩ (.ro 7 (l.map MWish.cs))],0,false⟩),(2,0,one ⟨15,[MWit.cs ⟨zdisk,l⟩ .nilS],0,false⟩),(3,0,one ⟨15,[MWit.cs ⟨disk,l⟩ c],0,false⟩)]++R,1⟩) l.length ?_ ?_
 ·simp -implicitDefEqProofs only [go_sem]
  exact ⟨0,.nilS,[],⟨Nat.zero_le _,.inl ⟨rfl,rfl,rfl⟩⟩,rfl,rfl⟩
 ·rintro m z ⟨i,c,R,⟨hi,hc⟩,rfl,rfl⟩
  rcases Nat.lt_or_ge i l.length with hlt | hge
  ·have hlt':(i:Int)<(l.length:Int):=by omega
   have hg:l[i]?=some l[i]:=List.getElem?_eq_getElem hlt
   have hw:=zB hlt hlm
   have hlx:(l.take (i+1)).map MWish.cs=(l.take i).map MWish.cs++[l[i].cs]:=by rw [List.take_succ_eq_append_getElem hlt,List.map_append];rfl
   have hll:(l.take (i+1)).length=(l.take i).length+1:=by rw [List.take_succ_eq_append_getElem hlt,List.length_append];rfl
   have ha:∀v,_:=fun v=>zb9 (L:=(l.take i).map MWish.cs) (b:=56) (by rw [List.length_map,List.length_take];omega) (by omega) v
   rcases hc with ⟨rfl,rfl,rfl⟩ | ⟨h0,rfl,rfl⟩
   ·have h1m:1≤maxLen:=by unfold maxLen;omega
    simp -implicitDefEqProofs only [go_sem,hlt',hg,hw,h1m,zb,za]
    refine ⟨_,by omega,0+1,_,_,⟨hlt,.inr ⟨by omega,rfl,rfl⟩⟩,rfl,?_⟩
    rw [hlx,hll]
    try simp only [List.length_append,List.length_map,List.length_cons,List.length_nil]
    rfl
   ·simp -implicitDefEqProofs only [go_sem,hlt',hg,hw,ha,zb,za]
    refine ⟨_,by omega,i+1,_,_,⟨hlt,.inr ⟨by omega,rfl,rfl⟩⟩,rfl,?_⟩
    rw [hlx,hll]
    try simp only [List.length_append,List.length_map,List.length_cons,List.length_nil]
    rfl
  ·have hi:i=l.length:=by omega
   subst hi
   have hlt':¬((l.length:Int)<(l.length:Int)):=by omega
   rcases hc with ⟨e0,rfl,rfl⟩ | ⟨h0,rfl,rfl⟩
   ·have:l=[]:=List.eq_nil_of_length_eq_zero e0
    subst this
    have z0':¬(((0:Nat):Int)<((0:Nat):Int)):=by decide
    simp -implicitDefEqProofs only [go_sem,z0',zb,za]
   ·simp -implicitDefEqProofs only [go_sem,hlt',List.take_length,zb,za]
end Go.Proofs.YtpjpkmhaffmbmaaGreat.E
end
section
namespace Go.Proofs.YtpjpkmhaffmbmaaGreat.E
open Go Go.RowKit
set_option maxHeartbeats 4000000
set_option maxRecDepth 10000
set_option linter.unusedSimpArgs false
set_option linter.unusedVariables false
set_option linter.unusedSectionVars false
def dcX3:Dec:=⟨[(39,.cm [true,false]),(93,.cm [true])],[9,10,11],[22,30,37,38,39,40,49,56,76,80,87,141,143,159,237,250,259],false⟩
def Dr.r4 (r:Dr):Sig:=[(1000000,0,one ⟨1,[[.ptr 1000001 0 [] 1 0 0]],0,false⟩),(1000001,0,one ⟨1,[[.ptr 1000002 0 [] 1 0 0]],0,false⟩),(1000002,0,one ⟨1,[[.ptr 1000003 0 [] 2 0 0]],0,false⟩),(1000003,0,one ⟨2,[r.cs],0,false⟩)]
attribute [go_sem] Dr.r4
structure DWi (n:Nat) (w:MWit):Prop where
 d:w.disk.ok
 l:w.wishes.length≤8
 p:∀x∈w.wishes,x.pt.root.ok∧(0≤x.pt.size∧x.pt.size≤(n:Int))
def zWit:List AV:=zdisk.cs++[.nilS]
def wiH (r:Dr) (d:MDisk) (W:List MWish):Sig:=[(1000000,0,one ⟨1,[[.ptr 1000001 0 [] 1 0 0]],0,false⟩),(1000001,0,one ⟨1,[[.ptr 1000002 0 [] 1 0 0]],0,false⟩),(1000002,0,one ⟨1,[[.ptr 1000003 0 [] 2 0 0]],0,false⟩),(1000003,0,one ⟨2,[r.cs],0,false⟩),(6,0,one ⟨15,[zdisk.cs++[.nilS]],0,false⟩),(7,0,one ⟨15,[MWit.cs ⟨d,W⟩ (.blk 10007 0 [] 7 0 W.length)],0,false⟩),(10007,0,one ⟨7,W.map MWish.cs,2,false⟩)]
attribute [go_sem] wiH
def wiH2 (r:Dr) (d:MDisk) (W:List MWish) (T:MPt):Sig:=[(1000000,0,one ⟨1,[[.ptr 1000001 0 [] 1 0 0]],0,false⟩),(1000001,0,one ⟨1,[[.ptr 1000002 0 [] 1 0 0]],0,false⟩),(1000002,0,one ⟨1,[[.ptr 1000003 0 [] 2 0 0]],0,false⟩),(1000003,0,one ⟨2,[r.cs],0,false⟩),(6,0,one ⟨15,[zdisk.cs++[.nilS]],0,false⟩),(7,0,one ⟨15,[MWit.cs ⟨d,W⟩ (.blk 10007 0 [] 7 0 W.length)],0,false⟩),(10007,0,one ⟨7,W.map MWish.cs,2,false⟩),(12,0,one ⟨5,[T.cs],0,false⟩)]
attribute [go_sem] wiH2
def zmX (n:Nat) (r:Dr) (res:AV) (σ:Sig):Prop:=∃(w:MWit) (r':Dr),(res=.agg (w.cs (.blk 0 0 [] 7 0 w.wishes.length))∧σ=r'.r4++[(0,0,one ⟨7,w.wishes.map MWish.cs,2,false⟩)])∧DWi n w∧r'.ok (r.p+500)
theorem zgr (l:List MWish) (h:l.length≤100000):∀x,(l.map MWish.cs++[x]).length≤maxLen∧(l.map MWish.cs++[x]).length * 56≤140737488355328:=fun x=>zH (E:=MWish.cs) (l:=l) (xs:=[x]) (b:=56) (n:=1000000) (by simp;omega) (by omega) (by omega)
theorem c37_c (r:Dr) (l:List ByteArray) (m:Nat) (h:r.ok 500000000) (hl:l.length≤80) (hm:m≤l.length):∃res σ,zmX l.length r res σ∧zS Tryz.prog 37 r.r4 [vL,.ro 1 (l.map zs),vI m] res σ:=by
 refine zj dcX3 true Tryz.f37 ?_
 conv=>enter [1];reduce
 refine jvX Tryz.f37 213 [.cell 6 32] (zmX l.length r) (by kernel_rfl) (by decide +kernel) (by kernel_rfl) rfl ?_
 have hp:=h.2
 have hb:=h.1
 have ok:∀i,i≤1000→(r.adv i).ok 1000000000:=fun i hi=>(h.adv i).le (by omega)
 have hTP:=fun k=>ziA (l.take k) (by rw [List.length_take];unfold maxLen;omega)
 have hTk:=fun k=>zgw (l.take k)
 have hdk:=c92_c l m (pk r 2==0) (by omega) hm
 have hd9:=zjA l m (pk r 2==0)
 generalize zeC l m (pk r 2==0)=D at *
 simp -implicitDefEqProofs only [go_sem]
 refine WantM.intro (zZ 2 (ok 0 (by omega))) ?_
 simp -implicitDefEqProofs only [go_sem]
 refine Want.intro hdk ?_
 simp -implicitDefEqProofs only [go_sem]
 refine zi (fun g=>?_) (fun g=>?_)
 ·simp -implicitDefEqProofs only [go_sem,g]
  refine RetAt.intro (.agg (MWit.cs ⟨D,[]⟩ (.blk 0 0 [] 7 0 0))) ((r.adv 1).r4++[(0,0,one ⟨7,[],2,false⟩)]) ⟨⟨D,[]⟩,r.adv 1,⟨rfl,rfl⟩,⟨hd9,Nat.zero_le _,by simp⟩,hb,by show r.p+1≤_;omega⟩ ?_
  simp -implicitDefEqProofs only [go_sem]
  first | done | rfl | exact ⟨rfl,rfl⟩ | trace_state
 ·have gm:m<l.length:=by
   have:¬(m:Int)=(l.length:Int):=by simpa using g
   omega
  have wd:IntKind.i64.wrap ((l.length:Int) - (m:Int))=((l.length - m:Nat):Int):=by rw [wrS (by omega)];omega
  have wm:IntKind.i64.wrap ((m:Int)+1)=((m+1:Nat):Int):=by rw [wrS (by omega)];omega
  have qd:=fun i (hi:i≤1000)=>zL (n:=((l.length - m:Nat):Int)) (ok i hi) (by omega)
  have q1:=qd 1 (by omega)
  obtain ⟨u,hu⟩:∃u:Nat,pk (r.adv 1) ((l.length - m:Nat):Int)=u:=⟨(pk (r.adv 1) ((l.length - m:Nat):Int)).toNat,by omega⟩
  have wg:IntKind.i64.wrap (((m+1:Nat):Int)+(u:Int))=((m+1+u:Nat):Int):=by rw [wrS (by omega)];omega
  have q4:=zL (n:=4) (ok 2 (by omega)) (by omega)
  obtain ⟨K,hK⟩:∃K:Nat,pk (r.adv 2) 4=K:=⟨(pk (r.adv 2) 4).toNat,by omega⟩
  have wk:IntKind.i64.wrap (1+(K:Int))=((K+1:Nat):Int):=by rw [wrS (by omega)];omega
  simp -implicitDefEqProofs only [go_sem,g,wd,wm]
  refine WantM.intro (zZ _ (ok 1 (by omega))) ?_
  rw [hu]
  simp -implicitDefEqProofs only [go_sem,wg]
  refine WantM.intro (zZ 4 (ok 2 (by omega))) ?_
  rw [hK]
  simp -implicitDefEqProofs only [go_sem,wk]
  generalize hG:m+1+u=goal at *
  have hgl:goal≤l.length:=by omega
  refine qO [(15007,7)] (fun n s=>∃(who:Nat) (W:List MWish) (R:Dr),(W.length+n≤4∧who+3 * n≤20)∧(∀x∈W,x.pt.root.ok∧(0≤x.pt.size∧x.pt.size≤(l.length:Int)))∧(R.b.length≤2000∧R.p+50 * n≤r.p+250)∧s=⟨213,[(0,vL),(1,.ro 1 (l.map zs)),(2,vI m),(6,.ptr 6 0 [] 15 0 0),(7,.ptr 7 0 [] 15 0 0),(8,vI who),(9,vI goal),(10,vI n)],wiH R D W,1⟩) (K+1) ?_ ?_
  ·simp -implicitDefEqProofs only [go_sem]
   exact ⟨0,[],r.adv 3,⟨by show 0+(K+1)≤4;omega,by omega⟩,by simp,⟨hb,by show r.p+3+50 * (K+1)≤_;omega⟩,rfl⟩
  ·rintro n s ⟨who,W,R,⟨hW1,hW2⟩,hWx,hR,rfl⟩
   have hRok:R.ok 500001000:=⟨hR.1,by omega⟩
   have okR:∀i,i≤1000→(R.adv i).ok 1000000000:=fun i hi=>(hRok.adv i).le (by omega)
   rcases Nat.eq_zero_or_pos n with rfl | hn
   ·have n0:¬(((0:Nat):Int)>0):=by decide
    have hG2:=hTP goal
    have hK2:=hTk goal
    have hgI:(goal:Int)≤(l.length:Int):=by omega
    have hlt:(l.take goal).length≤l.length:=by rw [List.length_take];omega
    clear hTP hTk
    simp -implicitDefEqProofs only [go_sem,n0,za]
    refine zX [0,6,7] [] (fun s=>∃(W:List MWish),W.length≤8∧(∀x∈W,x.pt.root.ok∧(0≤x.pt.size∧x.pt.size≤(l.length:Int)))∧s=⟨213,[(0,vL),(6,.ptr 6 0 [] 15 0 0),(7,.ptr 7 0 [] 15 0 0)],wiH (R.adv 1) D W,1⟩) ?_ ?_
    ·simp -implicitDefEqProofs only [go_sem]
     refine WantM.intro (zZ 24 (okR 0 (by omega))) ?_
     simp -implicitDefEqProofs only [go_sem]
     refine zi (fun g=>?_) (fun g=>?_)
     ·simp -implicitDefEqProofs only [go_sem,g]
      refine zU (fun k s=>∃(who:Nat) (W:List MWish),(W.length≤8∧k=8 - W.length∧who+k≤60)∧(∀x∈W,x.pt.root.ok∧(0≤x.pt.size∧x.pt.size≤(l.length:Int)))∧s=⟨213,[(0,vL),(1,.ro 1 (l.map zs)),(6,.ptr 6 0 [] 15 0 0),(7,.ptr 7 0 [] 15 0 0),(8,vI who),(9,vI goal)],wiH (R.adv 1) D W,1⟩) (8 - W.length) ?_ ?_
      ·simp -implicitDefEqProofs only [go_sem]
       exact ⟨who,W,⟨by omega,rfl,by omega⟩,hWx,rfl⟩
      ·clear hWx hW1 hW2
       clear W who
       rintro k s ⟨who,W,⟨hw1,rfl,hw3⟩,hWx,rfl⟩
       by_cases h8:(W.length:Int)<8
       ·have w1:IntKind.i64.wrap ((who:Int)+1)=((who+1:Nat):Int):=by rw [wrS (by omega)];omega
        simp -implicitDefEqProofs only [go_sem,h8,w1,zb,hgl,hgI,Nat.sub_zero]
        refine Want.intro hG2 ?_
        generalize tPt (l.take goal)=T at *
        simp -implicitDefEqProofs only [go_sem,zgr W (by omega)]
        refine ⟨8 - (W.length+1),by omega,who+1,W++[⟨who+1,1,T⟩],⟨by rw [List.length_append];show W.length+1≤8;omega,by rw [List.length_append];rfl,by omega⟩,?_,?_⟩
        ·intro x hx
         rcases List.mem_append.1 hx with hx | hx
         ·exact hWx x hx
         ·rw [List.mem_singleton.1 hx];exact ⟨hK2.1,hK2.2.1,by show T.size≤_;omega⟩
        ·simp only [List.length_append,List.length_map,List.map_append,List.length_cons,List.length_nil,List.map_cons,List.map_nil]
         rfl
       ·simp -implicitDefEqProofs only [go_sem,h8,za]
        exact ⟨W,hw1,hWx,rfl⟩
     ·simp -implicitDefEqProofs only [go_sem,g]
      exact ⟨W,by omega,hWx,rfl⟩
    ·clear hWx hW1 hW2
     clear W
     rintro s ⟨W,hW,hWx,rfl⟩
     refine zX [6,7] [] (fun s=>∃(D:MDisk),D.ok∧s=⟨213,[(6,.ptr 6 0 [] 15 0 0),(7,.ptr 7 0 [] 15 0 0)],wiH (R.adv 2) D W,1⟩) ?_ ?_
     ·have hso:(⟨D.one.sum,1000000000,D.one.size,D.one.root⟩:MSlot).ok:=⟨hd9.a.s,(by show (1000000000:Nat)<18446744073709551616;decide),hd9.a.z,hd9.a.r⟩
      have hss:=zoh ⟨D.one.sum,1000000000,D.one.size,D.one.root⟩ hso
      have hsl:=zjt ⟨D.one.sum,1000000000,D.one.size,D.one.root⟩
      generalize zaN ⟨D.one.sum,1000000000,D.one.size,D.one.root⟩=S at *
      simp -implicitDefEqProofs only [go_sem]
      refine WantM.intro (zZ 24 (okR 1 (by omega))) ?_
      simp -implicitDefEqProofs only [go_sem]
      refine zi (fun g=>?_) (fun g=>?_)
      ·simp -implicitDefEqProofs only [go_sem,g]
       refine Want.intro hss ?_
       simp -implicitDefEqProofs only [go_sem]
       exact ⟨⟨⟨S,1000000000,D.one.size,D.one.root⟩,D.two⟩,⟨⟨hsl,hso.q,hso.z,hso.r⟩,hd9.b⟩,rfl⟩
      ·simp -implicitDefEqProofs only [go_sem,g]
       exact ⟨D,hd9,rfl⟩
     ·clear hd9 hdk
      clear D
      rintro s ⟨D,hd,rfl⟩
      simp -implicitDefEqProofs only [go_sem]
      refine RetAt.intro (.agg (MWit.cs ⟨D,W⟩ (.blk 0 0 [] 7 0 W.length))) ((R.adv 2).r4++[(0,0,one ⟨7,W.map MWish.cs,2,false⟩)]) ⟨⟨D,W⟩,R.adv 2,⟨rfl,rfl⟩,⟨hd,hW,hWx⟩,hR.1,by show R.p+2≤_;omega⟩ ?_
      simp -implicitDefEqProofs only [go_sem]
      first | done | rfl | exact ⟨rfl,rfl⟩ | trace_state
   ·obtain ⟨n,rfl⟩:∃k,n=k+1:=⟨n - 1,by omega⟩
    have n0:(((n+1:Nat):Int)>0):=by omega
    have wn:IntKind.i64.wrap (((n+1:Nat):Int) - 1)=(n:Int):=by rw [wrS (by omega)];omega
    have w1:IntKind.i64.wrap ((who:Int)+1)=((who+1:Nat):Int):=by rw [wrS (by omega)];omega
    have q0:=zL (n:=3) (okR 0 (by omega)) (by omega)
    obtain ⟨a,ha⟩:∃a:Nat,pk R 3=a:=⟨(pk R 3).toNat,by have:=q0.1;exact (Int.toNat_of_nonneg this).symm⟩
    have ha3:a<3:=by have:=q0.2;have e:(R.adv 0)=R:=rfl;rw [e,ha] at this;omega
    have w2:IntKind.i64.wrap (((who+1:Nat):Int)+(a:Int))=((who+1+a:Nat):Int):=by rw [wrS (by omega)];omega
    simp -implicitDefEqProofs only [go_sem,n0,zb,w1]
    refine WantM.intro (zZ 3 (okR 0 (by omega))) ?_
    rw [ha]
    simp -implicitDefEqProofs only [go_sem,w2]
    generalize hwho:who+1+a=who2 at *
    refine zX [0,1,2,6,7,8,9,10,11] [] (fun s=>∃(v:Nat) (R':Dr),v≤l.length∧(R'.b.length≤2000∧R'.p≤R.p+3)∧s=⟨213,[(0,vL),(1,.ro 1 (l.map zs)),(2,vI m),(6,.ptr 6 0 [] 15 0 0),(7,.ptr 7 0 [] 15 0 0),(8,vI who2),(9,vI goal),(10,vI ((n+1:Nat):Int)),(11,vI v)],wiH R' D W,1⟩) ?_ ?_
    ·simp -implicitDefEqProofs only [go_sem]
     refine WantM.intro (zZ 3 (okR 1 (by omega))) ?_
     simp -implicitDefEqProofs only [go_sem]
     refine zi (fun g=>?_) (fun g=>?_)
     ·have q2:=zL (n:=((l.length - m:Nat):Int)) (okR 2 (by omega)) (by omega)
      obtain ⟨b,hbb⟩:∃b:Nat,pk (R.adv 2) ((l.length - m:Nat):Int)=b:=⟨(pk (R.adv 2) ((l.length - m:Nat):Int)).toNat,by omega⟩
      have w3:IntKind.i64.wrap (((m+1:Nat):Int)+(b:Int))=((m+1+b:Nat):Int):=by rw [wrS (by omega)];omega
      simp -implicitDefEqProofs only [go_sem,g,wd,wm]
      refine WantM.intro (zZ _ (okR 2 (by omega))) ?_
      rw [hbb]
      simp -implicitDefEqProofs only [go_sem,w3]
      exact ⟨m+1+b,R.adv 3,by omega,⟨hR.1,Nat.le_refl _⟩,rfl⟩
     ·simp -implicitDefEqProofs only [go_sem,g]
      exact ⟨goal,R.adv 2,hgl,⟨hR.1,by show R.p+2≤_;omega⟩,rfl⟩
    ·rintro s ⟨v,R1,hv,hR1,rfl⟩
     have hvI:(v:Int)≤(l.length:Int):=by omega
     have hT:=hTP v
     have hk:=hTk v
     have hvl:(l.take v).length≤l.length:=by rw [List.length_take];omega
     have hR1ok:R1.ok 500001000:=⟨hR1.1,by omega⟩
     have okR1:∀i,i≤1000→(R1.adv i).ok 1000000000:=fun i hi=>(hR1ok.adv i).le (by omega)
     simp -implicitDefEqProofs only [go_sem,hv,hvI,Nat.sub_zero]
     refine Want.intro hT ?_
     generalize tPt (l.take v)=T at *
     simp -implicitDefEqProofs only [go_sem]
     refine zX [0,1,2,6,7,8,9,10,12] [] (fun s=>∃(T:MPt) (R':Dr),(T.root.ok∧(0≤T.size∧T.size≤(l.length:Int)))∧(R'.b.length≤2000∧R'.p≤R.p+45)∧s=⟨213,[(0,vL),(1,.ro 1 (l.map zs)),(2,vI m),(6,.ptr 6 0 [] 15 0 0),(7,.ptr 7 0 [] 15 0 0),(8,vI who2),(9,vI goal),(10,vI ((n+1:Nat):Int)),(12,.ptr 12 0 [] 5 0 0)],wiH2 R' D W T,1⟩) ?_ ?_
     ·simp -implicitDefEqProofs only [go_sem]
      refine WantM.intro (zZ 6 (okR1 0 (by omega))) ?_
      simp -implicitDefEqProofs only [go_sem]
      refine zi (fun g=>?_) (fun g=>?_)
      ·simp -implicitDefEqProofs only [go_sem,g]
       refine WantM.intro (zb5 (R1.adv 1) ((hR1ok.adv 1).le (by omega))) ?_
       have hdg:=jD (R1.adv 1) (n:=R1.p+1) ⟨hR1.1,Nat.le_refl _⟩
       have hdo:=xZ (R1.adv 1) ((hR1ok.adv 1).le (by omega))
       generalize dgR (R1.adv 1)=q at *
       obtain ⟨q1,q2⟩:=q
       simp only at hdg hdo
       simp -implicitDefEqProofs only [go_sem]
       exact ⟨⟨T.size,q1⟩,q2,⟨hdo,hk.2.1,by show T.size≤_;omega⟩,⟨hdg.1.1,by have:=hdg.1.2;omega⟩,rfl⟩
      ·simp -implicitDefEqProofs only [go_sem,g]
       exact ⟨T,R1.adv 1,⟨hk.1,hk.2.1,by omega⟩,⟨hR1.1,by show R1.p+1≤_;omega⟩,rfl⟩
     ·clear hT hk hR1ok okR1
      clear T
      rintro s ⟨T,R2,hT,hR2,rfl⟩
      have hR2ok:R2.ok 500001000:=⟨hR2.1,by omega⟩
      have q4:=zL (n:=4) (hR2ok.le (b:=1000000000) (by omega)) (by omega)
      have w4:IntKind.i64.wrap (1+pk R2 4)=1+pk R2 4:=wrS (by omega)
      simp -implicitDefEqProofs only [go_sem]
      refine WantM.intro (zZ 4 (hR2ok.le (by omega))) ?_
      simp -implicitDefEqProofs only [go_sem,w4,zgr W (by omega),wn]
      refine ⟨n,by omega,who2,W++[⟨who2,1+pk R2 4,T⟩],R2.adv 1,⟨by rw [List.length_append];show W.length+1+n≤4;omega,by omega⟩,?_,⟨hR2.1,by show R2.p+1+50 * n≤_;omega⟩,?_⟩
      ·intro x hx
       rcases List.mem_append.1 hx with hx | hx
       ·exact hWx x hx
       ·rw [List.mem_singleton.1 hx];exact hT
      ·simp only [List.length_append,List.length_map,List.map_append,List.length_cons,List.length_nil,List.map_cons,List.map_nil]
       rfl
end Go.Proofs.YtpjpkmhaffmbmaaGreat.E
end
section
namespace Go.Proofs.YtpjpkmhaffmbmaaGreat.E
open Go Go.RowKit
set_option maxHeartbeats 4000000
set_option maxRecDepth 10000
set_option linter.unusedSimpArgs false
set_option linter.unusedVariables false
set_option linter.unusedSectionVars false
def dcX4:Dec:=⟨[(35,.cm [false]),(36,.cm [true]),(37,.cm [true,false,false]),(38,.cm [true,true,false,false]),(39,.cm [true,false]),(93,.cm [true]),(95,.cm [true]),(96,.cm [true,false]),(97,.cm [false,false]),(98,.cm [true,false])],[9,10,11],[22,30,37,38,39,40,49,56,76,80,87,141,143,159,237,250,259],false⟩
def Dr.w5 (r:Dr) (W:List MWish):Sig:=[(1000000,0,one ⟨1,[[.ptr 1000002 0 [] 1 0 0]],0,false⟩),(1000001,0,one ⟨7,W.map MWish.cs,2,false⟩),(1000002,0,one ⟨1,[[.ptr 1000003 0 [] 1 0 0]],0,false⟩),(1000003,0,one ⟨1,[[.ptr 1000004 0 [] 2 0 0]],0,false⟩),(1000004,0,one ⟨2,[r.cs],0,false⟩)]
def MWit.avK (w:MWit) (a:Nat):AV:=.agg (w.cs (.blk a 0 [] 7 0 w.wishes.length))
def roG (a b:Int) (x:List MDig):AV:=.agg [.sc (.int .i64 5),.sc (.int .i64 0),vI a,vI b,.sc (.int .u64 0),.sc (.int .u64 0),.sc (.int .u64 0),.sc (.int .u64 0),.sc (.int .i64 0),.ro 4 (x.map MDig.cs),.nilS]
attribute [go_sem] Dr.w5 MWit.avK roG
def mGrw (a b:Int) (x:List MDig):MMsg:=⟨5,0,a,b,dig0,0,x,[]⟩
theorem wbG (a b:Int) (x:List MDig) (hl:x.length≤maxLen) (hd:∀d∈x,d.ok):CallR Tryz.prog 23 [roG a b x] (vS (zF (mGrw a b x))) []:=by
 refine (zoq (mGrw a b x) hl (Nat.zero_le _) yw hd).arg (fun rd vs h=>zmf ?_ h)
 exact .cons (.inl rfl) (.cons (.inl rfl) (.cons (.inl rfl) (.cons (.inl rfl) (.cons (.inl rfl) (.cons (.inl rfl) (.cons (.inl rfl) (.cons (.inl rfl) (.cons (.inl rfl) (.cons (.inl rfl) (.cons (.inr ⟨rfl,_,rfl⟩) .nil))))))))))
theorem zeB (l:List ByteArray) (m:Int):∀d∈xc l m,d.ok:=by
 intro d hd
 unfold xc at hd
 split at hd
 ·unfold mGr at hd
  split at hd
  ·cases hd
  ·obtain ⟨x,-,rfl⟩:=List.mem_map.1 hd
   exact (qR _).dig_ok
 ·cases hd
theorem zdw (l:List ByteArray) (m:Int) (hl:l.length≤256):(xc l m).length≤512:=by
 unfold xc
 split
 ·rename_i h1
  unfold mGr
  split
  ·simp
  ·rename_i h2
   simp only [zdx,Bool.and_eq_true] at h1
   obtain ⟨hn,hm⟩:=xD h1.2
   have:=qP (m:=m.toNat) l.length 0 l.length (by omega) (by omega)
   simp only [List.length_map,List.length_append]
   omega
 ·simp
def zL3:List AV:=[vI 0,vI 0,vS ⟨#[]⟩]
def leH (r:Dr) (W:List MWish) (x:Sig):Sig:=[(1000000,0,one ⟨1,[[.ptr 1000002 0 [] 1 0 0]],0,false⟩),(1000001,0,one ⟨7,W.map MWish.cs,2,false⟩),(1000002,0,one ⟨1,[[.ptr 1000003 0 [] 1 0 0]],0,false⟩),(1000003,0,one ⟨1,[[.ptr 1000004 0 [] 2 0 0]],0,false⟩),(1000004,0,one ⟨2,[r.cs],0,false⟩)]++x
attribute [go_sem] zL3 leH
def zkJ (W:List MWish) (r:Dr) (res:AV) (σ:Sig):Prop:=∃(x:MLet) (r':Dr),(res=.agg x.cs∧σ=r'.w5 W)∧r'.ok (r.p+3000)
theorem c38_c (r:Dr) (w:MWit) (l:List ByteArray) (m:Nat) (h:r.ok 400000000) (hl:l.length≤80) (hm:m≤l.length) (hw:DWi l.length w):∃res σ,zkJ w.wishes r res σ∧zS Tryz.prog 38 (r.w5 w.wishes) [vL,w.avK 1000001,.ro 1 (l.map zs),vI m] res σ:=by
 refine zj dcX4 true Tryz.f38 ?_
 conv=>enter [1];reduce
 refine jvX Tryz.f38 135 [.cell 8 34] (zkJ w.wishes r) (by kernel_rfl) (by decide +kernel) (by kernel_rfl) rfl ?_
 have hp:=h.2
 have hb:=h.1
 have ok:∀i,i≤1000→(r.adv i).ok 1000000000:=fun i hi=>(h.adv i).le (by omega)
 have hTP:=fun k=>ziA (l.take k) (by rw [List.length_take];unfold maxLen;omega)
 have hTk:=fun k=>zgw (l.take k)
 have q14:=zL (n:=14) (ok 0 (by omega)) (by omega)
 obtain ⟨hwd,hwl,hwp⟩:=hw
 have hfin:∀(R:Dr) (x:MLet),R.ok (r.p+3000)→zkJ w.wishes r (.agg x.cs) (R.w5 w.wishes):=fun R x hR=>⟨x,R,⟨rfl,rfl⟩,hR⟩
 simp -implicitDefEqProofs only [go_sem]
 refine WantM.intro (zZ 14 (ok 0 (by omega))) ?_
 have e0:r.adv 0=r:=rfl
 rw [e0] at q14
 generalize pk r 14=k at *
 simp -implicitDefEqProofs only [go_sem]
 refine zX [0,2,3,5,8,9,10] [] (fun s=>∃k:Int,s=⟨135,[(0,vL),(2,.ro 1 (l.map zs)),(3,vI m),(5,.ptr 5 0 [] 15 0 0),(8,.ptr 8 0 [] 3 0 0),(9,.ptr 1000004 0 [] 2 0 0),(10,vI k)],leH (r.adv 1) w.wishes [(5,0,one ⟨15,[w.cs (.blk 1000001 0 [] 7 0 w.wishes.length)],0,false⟩),(8,0,one ⟨3,[zL3],0,false⟩)],1⟩) ?_ ?_
 ·simp -implicitDefEqProofs only [go_sem]
  refine zi (fun g=>?_) (fun g=>?_)
  ·simp -implicitDefEqProofs only [go_sem,g]
   exact ⟨6,rfl⟩
  ·simp -implicitDefEqProofs only [go_sem,g]
   exact ⟨k,rfl⟩
 ·clear q14
  clear k
  rintro s ⟨k,rfl⟩
  have w1:IntKind.i64.wrap ((l.length:Int)+1)=((l.length+1:Nat):Int):=by rw [wrS (by omega)];omega
  have q1:=zL (n:=((l.length+1:Nat):Int)) (ok 1 (by omega)) (by omega)
  obtain ⟨u,hu⟩:∃u:Nat,pk (r.adv 1) ((l.length+1:Nat):Int)=u:=⟨(pk (r.adv 1) ((l.length+1:Nat):Int)).toNat,by omega⟩
  simp -implicitDefEqProofs only [go_sem,w1]
  refine WantM.intro (zZ _ (ok 1 (by omega))) ?_
  rw [hu]
  simp -implicitDefEqProofs only [go_sem]
  refine zX [0,2,3,8,9,10,11] [] (fun s=>∃(v:Nat) (R:Dr),v≤l.length∧R.ok (r.p+3)∧s=⟨135,[(0,vL),(2,.ro 1 (l.map zs)),(3,vI m),(8,.ptr 8 0 [] 3 0 0),(9,.ptr 1000004 0 [] 2 0 0),(10,vI k),(11,vI v)],leH R w.wishes [(8,0,one ⟨3,[zL3],0,false⟩)],1⟩) ?_ ?_
  ·by_cases g0:(w.wishes.length:Int)>0
   ·by_cases g5:k≥5
    ·have qw:=zL (n:=(w.wishes.length:Int)) (ok 2 (by omega)) (by omega)
     obtain ⟨i,hi⟩:∃i:Nat,pk (r.adv 2) w.wishes.length=i:=⟨(pk (r.adv 2) w.wishes.length).toNat,by omega⟩
     have hi1:(i:Int)<(w.wishes.length:Int):=by omega
     have hi2:i<w.wishes.length:=by omega
     have hgi:w.wishes[i]?=some w.wishes[i]:=List.getElem?_eq_getElem hi2
     have hx:=hwp _ (List.getElem_mem hi2)
     generalize w.wishes[i]=X at *
     obtain ⟨v,hv⟩:∃v:Nat,X.pt.size=v:=⟨X.pt.size.toNat,by omega⟩
     simp -implicitDefEqProofs only [go_sem,g0,g5,zc,zb]
     refine WantM.intro (zZ _ (ok 2 (by omega))) ?_
     rw [hi]
     simp -implicitDefEqProofs only [go_sem,hi1,hi2,hgi]
     refine ⟨v,r.adv 3,by omega,⟨hb,by show r.p+3≤_;omega⟩,?_⟩
     rw [hv]
     first | done | rfl | trace_state
    ·simp -implicitDefEqProofs only [go_sem,g0,g5,zc,za]
     exact ⟨u,r.adv 2,by omega,⟨hb,by show r.p+2≤_;omega⟩,rfl⟩
   ·simp -implicitDefEqProofs only [go_sem,g0,ze,za]
    exact ⟨u,r.adv 2,by omega,⟨hb,by show r.p+2≤_;omega⟩,rfl⟩
  ·clear w1 q1 hu
   clear u
   rintro s ⟨v,R,hv,hR,rfl⟩
   have hRp:=hR.2
   have hRb:=hR.1
   have hRk:R.ok 400000003:=hR.le (by omega)
   have okR:∀i,i≤1000→(R.adv i).ok 1000000000:=fun i hi=>(hRk.adv i).le (by omega)
   have hvI:(v:Int)≤(l.length:Int):=by omega
   have hmI:(m:Int)≤(l.length:Int):=by omega
   simp -implicitDefEqProofs only [go_sem]
   refine zi (fun g=>?_) (fun g=>?_)
   ·have hT:=hTP v
    have hk:=(hTk v).1
    have hTm:=hTP m
    have hkm:=(hTk m).1
    generalize tPt (l.take v)=T at *
    generalize tPt (l.take m)=T' at *
    simp -implicitDefEqProofs only [go_sem,g,hv,hvI,Nat.sub_zero]
    refine Want.intro hT ?_
    simp -implicitDefEqProofs only [go_sem]
    refine zX [2,3,8,9,12] [] (fun s=>∃(T:MPt),T.root.ok∧s=⟨135,[(2,.ro 1 (l.map zs)),(3,vI m),(8,.ptr 8 0 [] 3 0 0),(9,.ptr 1000004 0 [] 2 0 0),(12,.ptr 12 0 [] 5 0 0)],leH (R.adv 1) w.wishes [(8,0,one ⟨3,[zL3],0,false⟩),(12,0,one ⟨5,[T.cs],0,false⟩)],1⟩) ?_ ?_
    ·simp -implicitDefEqProofs only [go_sem]
     refine WantM.intro (zZ 3 (okR 0 (by omega))) ?_
     simp -implicitDefEqProofs only [go_sem]
     refine zi (fun g=>?_) (fun g=>?_)
     ·simp -implicitDefEqProofs only [go_sem,g,hm,hmI,Nat.sub_zero]
      refine Want.intro hTm ?_
      simp -implicitDefEqProofs only [go_sem]
      exact ⟨T',hkm,rfl⟩
     ·simp -implicitDefEqProofs only [go_sem,g]
      exact ⟨T,hk,rfl⟩
    ·clear hT hk
     clear T
     rintro s ⟨T,hk,rfl⟩
     refine zX [8,9,12] [] (fun s=>∃(T:MPt) (Q:Dr),T.root.ok∧Q.ok (R.p+50)∧s=⟨135,[(8,.ptr 8 0 [] 3 0 0),(9,.ptr 1000004 0 [] 2 0 0),(12,.ptr 12 0 [] 5 0 0)],leH Q w.wishes [(8,0,one ⟨3,[zL3],0,false⟩),(12,0,one ⟨5,[T.cs],0,false⟩)],1⟩) ?_ ?_
     ·simp -implicitDefEqProofs only [go_sem]
      refine WantM.intro (zZ 6 (okR 1 (by omega))) ?_
      simp -implicitDefEqProofs only [go_sem]
      refine zi (fun g=>?_) (fun g=>?_)
      ·simp -implicitDefEqProofs only [go_sem,g]
       refine WantM.intro (zb5 (R.adv 2) ((hRk.adv 2).le (by omega))) ?_
       have hdg:=jD (R.adv 2) (n:=R.p+2) ⟨hRb,Nat.le_refl _⟩
       have hdo:=xZ (R.adv 2) ((hRk.adv 2).le (by omega))
       generalize dgR (R.adv 2)=q at *
       obtain ⟨q1,q2⟩:=q
       simp only at hdg hdo
       simp -implicitDefEqProofs only [go_sem]
       exact ⟨⟨T.size,q1⟩,q2,hdo,⟨hdg.1.1,by have:=hdg.1.2;omega⟩,rfl⟩
      ·simp -implicitDefEqProofs only [go_sem,g]
       exact ⟨T,R.adv 2,hk,⟨hRb,by show R.p+2≤_;omega⟩,rfl⟩
     ·clear hk
      clear T
      rintro s ⟨T,Q,hk,hQ,rfl⟩
      have hQp:=hQ.2
      have hQb:=hQ.1
      have hQk:Q.ok 400000100:=hQ.le (by omega)
      have okQ:∀i,i≤1000→(Q.adv i).ok 1000000000:=fun i hi=>(hQk.adv i).le (by omega)
      have a9:0≤pk Q 9∧pk Q 9<9:=zL (okQ 0 (by omega)) (by omega)
      have a4:=zL (n:=4) (okQ 1 (by omega)) (by omega)
      have w9:IntKind.i64.wrap (1+pk Q 9)=1+pk Q 9:=wrS (by omega)
      have w4:IntKind.i64.wrap (1+pk (Q.adv 1) 4)=1+pk (Q.adv 1) 4:=wrS (by omega)
      have hwb:=wbS ⟨3,1+pk (Q.adv 1) 4,0,T.size,T.root,0,[],[]⟩ rfl rfl hk
      generalize zF ⟨3,1+pk (Q.adv 1) 4,0,T.size,T.root,0,[],[]⟩=B at *
      simp -implicitDefEqProofs only [go_sem]
      refine WantM.intro (zZ 9 (okQ 0 (by omega))) ?_
      simp -implicitDefEqProofs only [go_sem,w9]
      refine WantM.intro (zZ 4 (okQ 1 (by omega))) ?_
      simp -implicitDefEqProofs only [go_sem,w4]
      refine Want.intro hwb ?_
      simp -implicitDefEqProofs only [go_sem]
      refine RetAt.intro _ _ (hfin (Q.adv 2) ⟨1+pk Q 9,1,B⟩ ⟨hQb,by show Q.p+2≤_;omega⟩) ?_
      simp -implicitDefEqProofs only [go_sem]
      first | done | rfl | exact ⟨rfl,rfl⟩ | trace_state
   ·simp -implicitDefEqProofs only [go_sem,g]
    refine zi (fun g=>?_) (fun g=>?_)
    ·obtain ⟨res,σ,⟨x,Q,⟨rfl,rfl⟩,hx1,hx2,hx3,hQ⟩,hcall⟩:=c95_c (R.adv 1) ((hRk.adv 1).le (by omega))
     have hx:=WOk.of hx1
     have hwb:=zoq x (by have:=hx.p;unfold maxLen;omega) (by have:=hx.l;unfold maxLen;omega) hx2 hx3
     generalize zF x=B at *
     have hQp:=hQ.2
     simp -implicitDefEqProofs only [go_sem,g]
     refine WantM.intro (zZ 3 (okR 0 (by omega))) ?_
     simp -implicitDefEqProofs only [go_sem]
     refine WantM.intro hcall ?_
     simp -implicitDefEqProofs only [go_sem]
     refine Want.intro hwb ?_
     simp -implicitDefEqProofs only [go_sem]
     refine RetAt.intro _ _ (hfin Q ⟨pk R 3,1,B⟩ ⟨hQ.1,by have e:(R.adv 1).p=R.p+1:=rfl;omega⟩) ?_
     simp -implicitDefEqProofs only [go_sem]
     first | done | rfl | exact ⟨rfl,rfl⟩ | trace_state
    ·simp -implicitDefEqProofs only [go_sem,g]
     refine zi (fun g=>?_) (fun g=>?_)
     ·simp -implicitDefEqProofs only [go_sem,g]
      have hts:=zk4 R 20 (a:=R.p) ⟨hRb,Nat.le_refl _⟩ (by omega) (by omega)
      refine WantM.intro (zog R 20 (hRk.le (by omega)) (by omega)) ?_
      generalize tx R 20=q at *
      obtain ⟨q1,q2⟩:=q
      simp only at hts
      simp -implicitDefEqProofs only [go_sem]
      refine RetAt.intro _ _ (hfin q2 ⟨0,1,q1⟩ ⟨hts.1.1,by have:=hts.1.2;have e:(20:Int).toNat=20:=rfl;omega⟩) ?_
      simp -implicitDefEqProofs only [go_sem]
      first | done | rfl | exact ⟨rfl,rfl⟩ | trace_state
     ·simp -implicitDefEqProofs only [go_sem,g]
      refine zX [0,2,8,9,11,13] [] (fun s=>∃(f:Nat) (Q:Dr),Q.ok (R.p+2)∧s=⟨135,[(0,vL),(2,.ro 1 (l.map zs)),(8,.ptr 8 0 [] 3 0 0),(9,.ptr 1000004 0 [] 2 0 0),(11,vI v),(13,vI f)],leH Q w.wishes [(8,0,one ⟨3,[zL3],0,false⟩)],1⟩) ?_ ?_
      ·have w1:IntKind.i64.wrap ((v:Int)+1)=((v+1:Nat):Int):=by rw [wrS (by omega)];omega
       have q1:=zL (n:=((v+1:Nat):Int)) (okR 1 (by omega)) (by omega)
       obtain ⟨u,hu⟩:∃u:Nat,pk (R.adv 1) ((v+1:Nat):Int)=u:=⟨(pk (R.adv 1) ((v+1:Nat):Int)).toNat,by omega⟩
       simp -implicitDefEqProofs only [go_sem]
       refine WantM.intro (zZ 8 (okR 0 (by omega))) ?_
       simp -implicitDefEqProofs only [go_sem]
       refine zi (fun g=>?_) (fun g=>?_)
       ·simp -implicitDefEqProofs only [go_sem,g,w1]
        refine WantM.intro (zZ _ (okR 1 (by omega))) ?_
        rw [hu]
        simp -implicitDefEqProofs only [go_sem]
        exact ⟨u,R.adv 2,⟨hRb,Nat.le_refl _⟩,rfl⟩
       ·simp -implicitDefEqProofs only [go_sem,g]
        exact ⟨m,R.adv 1,⟨hRb,by show R.p+1≤_;omega⟩,rfl⟩
      ·rintro s ⟨f,Q,hQ,rfl⟩
       refine zX [0,2,8,9,11,13] [] (fun s=>∃(f:Nat),f≤v∧s=⟨135,[(0,vL),(2,.ro 1 (l.map zs)),(8,.ptr 8 0 [] 3 0 0),(9,.ptr 1000004 0 [] 2 0 0),(11,vI v),(13,vI f)],leH Q w.wishes [(8,0,one ⟨3,[zL3],0,false⟩)],1⟩) ?_ ?_
       ·simp -implicitDefEqProofs only [go_sem]
        refine zi (fun g=>?_) (fun g=>?_)
        ·simp -implicitDefEqProofs only [go_sem,g]
         exact ⟨v,Nat.le_refl _,rfl⟩
        ·simp -implicitDefEqProofs only [go_sem,g]
         have:=of_decide_eq_false g
         exact ⟨f,by omega,rfl⟩
       ·clear f
        rintro s ⟨f,hf,rfl⟩
        have hQp:=hQ.2
        have hQb:=hQ.1
        have hQk:Q.ok 400000100:=hQ.le (by omega)
        have okQ:∀i,i≤1000→(Q.adv i).ok 1000000000:=fun i hi=>(hQk.adv i).le (by omega)
        have hpf:=c97_c (l.take v) f (by rw [List.length_take];unfold maxLen;omega)
        have hpl:=zdw (l.take v) f (by rw [List.length_take];omega)
        have hpo:=zeB (l.take v) f
        simp -implicitDefEqProofs only [go_sem,hv,hvI,Nat.sub_zero]
        refine WantM.intro hpf ?_
        unfold zjY wH
        generalize xc (l.take v) f=P at *
        simp -implicitDefEqProofs only [go_sem]
        refine zX [0,8,9,14] [] (fun s=>∃(P:List MDig) (n:Nat) (Q':Dr),(n≤P.length∧P.length≤513)∧(∀d∈P,d.ok)∧Q'.ok (Q.p+150)∧s=⟨135,[(0,vL),(8,.ptr 8 0 [] 3 0 0),(9,.ptr 1000004 0 [] 2 0 0),(14,.ptr 14 0 [] 11 0 0)],leH Q' w.wishes [(8,0,one ⟨3,[zL3],0,false⟩),(14,0,one ⟨11,[[.sc (.int .i64 5),.sc (.int .i64 0),vI f,vI v,.sc (.int .u64 0),.sc (.int .u64 0),.sc (.int .u64 0),.sc (.int .u64 0),.sc (.int .i64 0),.blk 10014 0 [] 4 0 n,.nilS]],0,false⟩),(10014,0,one ⟨4,P.map MDig.cs,2,false⟩)],1⟩) ?_ ?_
        ·simp -implicitDefEqProofs only [go_sem]
         refine WantM.intro (zZ 6 (okQ 0 (by omega))) ?_
         simp -implicitDefEqProofs only [go_sem]
         refine zi (fun g=>?_) (fun g=>?_)
         ·obtain ⟨res,σ,⟨P',n,Q1,⟨rfl,rfl⟩,hn,hP',hQ1⟩,hcall⟩:=c98_c (Q.adv 1) P ((hQk.adv 1).le (by omega)) (by omega) hpo
          have hQ1p:=hQ1.2
          simp -implicitDefEqProofs only [go_sem,g]
          refine WantM.intro hcall ?_
          simp -implicitDefEqProofs only [go_sem]
          exact ⟨P',n,Q1,⟨hn.1,by omega⟩,hP',⟨hQ1.1,by have e:(Q.adv 1).p=Q.p+1:=rfl;omega⟩,rfl⟩
         ·simp -implicitDefEqProofs only [go_sem,g]
          exact ⟨P,P.length,Q.adv 1,⟨Nat.le_refl _,by omega⟩,hpo,⟨hQb,by show Q.p+1≤_;omega⟩,rfl⟩
        ·clear hpl hpo hpf
         clear P
         rintro s ⟨P,n,Q',⟨hn,hP⟩,hPo,hQ',rfl⟩
         have hQ'p:=hQ'.2
         have hQ'b:=hQ'.1
         have hQ'k:Q'.ok 400000300:=hQ'.le (by omega)
         have a12:0≤pk Q' 12∧pk Q' 12<12:=zL (hQ'k.le (by omega)) (by omega)
         have w12:IntKind.i64.wrap ((pk Q' 12).tdiv 11)=(pk Q' 12).tdiv 11:=by
          rw [Int.tdiv_eq_ediv_of_nonneg a12.1]
          exact wrS (by omega)
         have hwb:=wbG f v (P.take n) (by rw [List.length_take];unfold maxLen;omega) (fun d hd=>hPo d (List.mem_of_mem_take hd))
         generalize zF (mGrw f v (P.take n))=B at *
         simp -implicitDefEqProofs only [go_sem]
         refine WantM.intro (zZ 12 (hQ'k.le (by omega))) ?_
         simp -implicitDefEqProofs only [go_sem,w12,hn]
         refine Want.intro hwb ?_
         simp -implicitDefEqProofs only [go_sem]
         refine RetAt.intro _ _ (hfin (Q'.adv 1) ⟨(pk Q' 12).tdiv 11,1,B⟩ ⟨hQ'b,by show Q'.p+1≤_;omega⟩) ?_
         simp -implicitDefEqProofs only [go_sem]
         first | done | rfl | exact ⟨rfl,rfl⟩ | trace_state
def zmY (res:AV) (σ:Sig):Prop:=∃(w:MWit) (me:Int) (x:MLet),(res=.tup [w.avK 0,vI me,.agg x.cs]∧σ=[(0,0,one ⟨7,w.wishes.map MWish.cs,2,false⟩)])∧w.disk.ok∧w.wishes.length≤8∧∀x∈w.wishes,x.pt.root.ok
def dwH (w:MWit) (x:MLet) (y:Sig):Sig:=[(2,0,one ⟨15,[zdisk.cs++[.nilS]],0,false⟩),(4,0,one ⟨3,[zL3],0,false⟩)]++(y++[(8,0,one ⟨15,[w.cs (.blk 10008 0 [] 7 0 w.wishes.length)],0,false⟩),(10008,0,one ⟨7,w.wishes.map MWish.cs,2,false⟩),(9,0,one ⟨3,[x.cs],0,false⟩)])
def Dr.r5s (r:Dr):Sig:=[(5,0,one ⟨1,[[.ptr 10005 0 [] 1 0 0]],0,false⟩),(10005,0,one ⟨1,[[.ptr 20005 0 [] 1 0 0]],0,false⟩),(20005,0,one ⟨1,[[.ptr 30005 0 [] 2 0 0]],0,false⟩),(30005,0,one ⟨2,[r.cs],0,false⟩)]
attribute [go_sem] Dr.r5s
attribute [go_sem] dwH
theorem c7_c (code:List UInt8) (hl:code.length≤maxLen):∃res σ,zmY res σ∧zS Tryz.prog 7 [] [.ro 1 (code.map zt)] res σ:=by
 refine zj dcX4 true Tryz.f7 ?_
 conv=>enter [1];reduce
 refine jvX Tryz.f7 74 [.cell 2 32,.tmp 3,.cell 4 34] zmY (by kernel_rfl) (by decide +kernel) (by kernel_rfl) rfl ?_
 have h0:(Dr.mk (code.take 2000) 0).ok 0:=⟨List.length_take_le _ _,Nat.le_refl _⟩
 simp -implicitDefEqProofs only [go_sem]
 refine WantM.intro (c35_c code hl) ?_
 generalize Dr.mk (code.take 2000) 0=r0 at *
 simp -implicitDefEqProofs only [go_sem]
 obtain ⟨res,σ,⟨l,m,r1,⟨rfl,rfl⟩,⟨hl1,hm1,hm2⟩,hr1⟩,hcall⟩:=c36_c r0 (h0.le (by omega))
 have hr1:r1.ok 2000:=hr1.le (by have:=h0.2;omega)
 obtain ⟨m,rfl⟩:∃k:Nat,m=k:=⟨m.toNat,by omega⟩
 refine WantM.intro hcall ?_
 simp -implicitDefEqProofs only [go_sem]
 obtain ⟨res,σ,⟨w,r2,⟨rfl,rfl⟩,hw,hr2⟩,hcall2⟩:=c37_c r1 l m (hr1.le (by omega)) hl1 (by omega)
 have hr2:r2.ok 3000:=hr2.le (by have:=hr1.2;omega)
 refine WantM.intro hcall2 ?_
 simp -implicitDefEqProofs only [go_sem]
 obtain ⟨res,σ,⟨x,r3,⟨rfl,rfl⟩,hr3⟩,hcall3⟩:=c38_c r2 w l m (hr2.le (by omega)) hl1 (by omega) hw
 have hr3:r3.ok 9000:=hr3.le (by have:=hr2.2;omega)
 have ok3:∀i,i≤1000→(r3.adv i).ok 1000000000:=fun i hi=>(hr3.adv i).le (by omega)
 refine WantM.intro hcall3 ?_
 simp -implicitDefEqProofs only [go_sem]
 refine WantM.intro (zZ 24 (ok3 0 (by omega))) ?_
 generalize pk r3 24=k
 clear hcall hcall2 hcall3
 obtain ⟨hwd,hwl,hwp⟩:=hw
 simp -implicitDefEqProofs only [go_sem]
 refine zX [2,4,5,8,9,10] [] (fun s=>∃w:MWit,(w.disk.ok∧w.wishes.length≤8∧∀x∈w.wishes,x.pt.root.ok)∧s=⟨74,[(2,.ptr 2 0 [] 15 0 0),(4,.ptr 4 0 [] 3 0 0),(5,.ptr 5 0 [] 1 0 0),(8,.ptr 8 0 [] 15 0 0),(9,.ptr 9 0 [] 3 0 0),(10,vI k)],dwH w x (r3.adv 1).r5s,1⟩) ?_ ?_
 ·by_cases g0:k=0
  ·have g0':(k==0)=true:=by simpa using g0
   by_cases g1:(w.wishes.length:Int)>0
   ·obtain ⟨d,W⟩:=w
    cases W with
    | nil=>exact absurd g1 (by simp)
    | cons y W=>
     have hy:=hwp y (List.mem_cons_self ..)
     have l0:(0:Int)<((W.length+1:Nat):Int):=by omega
     simp -implicitDefEqProofs only [go_sem,g0',g1,l0,zc,zb]
     refine ⟨⟨d,⟨y.who,0,y.pt⟩::W⟩,⟨hwd,hwl,?_⟩,?_⟩
     ·intro z hz
      rcases List.mem_cons.1 hz with rfl | hz
      ·exact hy.1
      ·exact (hwp z (List.mem_cons_of_mem _ hz)).1
     ·first | done | rfl | trace_state
   ·simp -implicitDefEqProofs only [go_sem,g0',g1,zc,za]
    exact ⟨w,⟨hwd,hwl,fun x hx=>(hwp x hx).1⟩,rfl⟩
  ·have g0':(k==0)=false:=by simpa using g0
   simp -implicitDefEqProofs only [go_sem,g0',ze,za]
   exact ⟨w,⟨hwd,hwl,fun x hx=>(hwp x hx).1⟩,rfl⟩
 ·clear hwd hwl hwp
  clear w
  rintro s ⟨w,⟨hwd,hwl,hwp⟩,rfl⟩
  have a2:=zL (n:=2) (ok3 1 (by omega)) (by omega)
  have w2:IntKind.i64.wrap (pk (r3.adv 1) 2 * 21)=pk (r3.adv 1) 2 * 21:=wrS (by omega)
  simp -implicitDefEqProofs only [go_sem]
  refine zi (fun g=>?_) (fun g=>?_)
  ·simp -implicitDefEqProofs only [go_sem,g]
   refine WantM.intro (zZ 2 (ok3 1 (by omega))) ?_
   simp -implicitDefEqProofs only [go_sem,w2]
   refine RetAt.intro (.tup [w.avK 0,vI (pk (r3.adv 1) 2 * 21),.agg x.cs]) [(0,0,one ⟨7,w.wishes.map MWish.cs,2,false⟩)] ⟨w,_,x,⟨rfl,rfl⟩,hwd,hwl,hwp⟩ ?_
   simp -implicitDefEqProofs only [go_sem]
   first | done | rfl | exact ⟨rfl,rfl⟩ | trace_state
  ·simp -implicitDefEqProofs only [go_sem,g]
   refine zX [2,4,8,9] [] (fun s=>∃x:MLet,s=⟨74,[(2,.ptr 2 0 [] 15 0 0),(4,.ptr 4 0 [] 3 0 0),(8,.ptr 8 0 [] 15 0 0),(9,.ptr 9 0 [] 3 0 0)],dwH w x [],1⟩) ?_ ?_
   ·simp -implicitDefEqProofs only [go_sem]
    refine zi (fun g=>?_) (fun g=>?_)
    ·simp -implicitDefEqProofs only [go_sem,g]
     exact ⟨⟨x.from_,-1,x.text⟩,rfl⟩
    ·simp -implicitDefEqProofs only [go_sem,g]
     exact ⟨x,rfl⟩
   ·rintro s ⟨x,rfl⟩
    simp -implicitDefEqProofs only [go_sem]
    refine RetAt.intro (.tup [w.avK 0,vI 1,.agg x.cs]) [(0,0,one ⟨7,w.wishes.map MWish.cs,2,false⟩)] ⟨w,_,x,⟨rfl,rfl⟩,hwd,hwl,hwp⟩ ?_
    simp -implicitDefEqProofs only [go_sem]
    first | done | rfl | exact ⟨rfl,rfl⟩ | trace_state
end Go.Proofs.YtpjpkmhaffmbmaaGreat.E
end
section
namespace Go.Proofs.YtpjpkmhaffmbmaaGreat.E
open Go Go.RowKit
set_option maxHeartbeats 4000000
set_option maxRecDepth 10000
set_option linter.unusedSimpArgs false
set_option linter.unusedVariables false
set_option linter.unusedSectionVars false
def dcGP:Dec:=⟨[],[9,10,11],[22,30,37,38,39,40,49,56,76,80,87,141,143,159,237,250,259],false⟩
theorem zfE:∀k n,jn k n≤k
 | 0,n=>Nat.le_refl _
 | k+1,n=>by
  have:=zfE k (n/2)
  rw [jn]
  omega
theorem zon (n:Nat) (h:n≤256):CallR Tryz.prog 59 [vI n] (vI (jn 9 n)) []:=by
 refine zj dcGP false Tryz.f59 ?_
 conv=>enter [1];reduce
 refine jvR Tryz.f59 16 [.tmp 2] (by kernel_rfl) (by decide +kernel) rfl ?_
 simp -implicitDefEqProofs only [go_sem]
 refine Want.intro (zao _ _ _) ?_
 have hin:mIn (n:Int) 0 256=true:=mIn_iff.2 (by omega)
 simp -implicitDefEqProofs only [go_sem,hin,Bool.not_true,za]
 refine zU (fun m s=>∃c k:Nat,m<2 ^ k∧k≤9∧c+jn k m=jn 9 n∧s=⟨16,[(0,vI m),(3,vI c)],[],1⟩) n ?_ ?_
 ·simp -implicitDefEqProofs only [go_sem]
  exact ⟨0,9,by omega,by omega,by omega,rfl⟩
 ·rintro m s ⟨c,k,hm,hk,hc,rfl⟩
  have h9:=zfE 9 n
  rcases Nat.eq_zero_or_pos m with h0 | h0
  ·subst h0
   have h0':¬((0:Nat):Int)>0:=by omega
   rw [qW] at hc
   simp -implicitDefEqProofs only [go_sem,h0']
   rw [←hc]
   rfl
  ·have h0':(m:Int)>0:=by omega
   cases k with
   | zero=>simp at hm;omega
   | succ k=>
    rw [jn] at hc
    rw [Nat.pow_succ] at hm
    have t1:(m:Int).tmod 2=((m%2:Nat):Int):=by rw [Int.tmod_eq_emod_of_nonneg (by omega)];omega
    have t2:(m:Int).tdiv 2=((m/2:Nat):Int):=by rw [Int.tdiv_eq_ediv_of_nonneg (by omega)];omega
    have hb:m/2≤2 ^ 9:=by
     have:2 ^ k≤2 ^ 9:=Nat.pow_le_pow_right (by omega) (by omega)
     omega
    have hb2:m/2≤1000:=by simpa using Nat.le_trans hb (by decide:2 ^ 9≤1000)
    have w1:IntKind.i64.wrap ((m%2:Nat):Int)=((m%2:Nat):Int):=wrS (by omega)
    have w2:IntKind.i64.wrap ((c:Int)+((m%2:Nat):Int))=((c+m%2:Nat):Int):=by rw [wrS (by omega)];omega
    have w3:IntKind.i64.wrap ((m/2:Nat):Int)=((m/2:Nat):Int):=wrS (by omega)
    simp -implicitDefEqProofs only [go_sem,h0',t1,t2,w1,w2,w3]
    exact ⟨m/2,by omega,c+m%2,k,by omega,by omega,by omega,rfl⟩
def xV (m k lo hi at_:Nat):Nat:=((gN m k lo hi).2.filter fun x=>decide (x.1<at_)).length
theorem zdp {m k lo hi at_:Nat} (h:lo<hi) (hk:hi - lo≤k):xV m k lo hi at_≤hi - lo:=Nat.le_trans (List.length_filter_le _ _) (qP k lo hi h hk).2
theorem zha (m at_:Nat):∀(k lo hi:Nat),lo<hi→hi≤256→hi - lo≤k→CallR Tryz.prog 123 [vI lo,vI hi,vI m,vI at_] (vI (xV m k lo hi at_)) []
 | 0,lo,hi,h,h2,hk=>by omega
 | k+1,lo,hi,h,h2,hk=>by
  refine zj dcGP false Tryz.f123 ?_
  conv=>enter [1];reduce
  refine jvR Tryz.f123 38 [.tmp 8] (by kernel_rfl) (by decide +kernel) rfl ?_
  by_cases c1:hi≤m
  ·have c1':(hi:Int)≤(m:Int):=by omega
   have e:xV m (k+1) lo hi at_=0:=by unfold xV;rw [qn c1];rfl
   rw [e]
   simp -implicitDefEqProofs only [go_sem,c1',ze,zf,zg,zc,zb,za]
   try rfl
  ·have c1':¬(hi:Int)≤(m:Int):=by omega
   by_cases c0:at_≤lo
   ·have c0':(lo:Int)≥(at_:Int):=by omega
    have e:xV m (k+1) lo hi at_=0:=by
     unfold xV
     rw [List.length_eq_zero_iff,List.filter_eq_nil_iff]
     intro x hx
     have:=zf0 (m:=m) (k+1) lo hi h hk x (.inr hx)
     simp
     omega
    rw [e]
    simp -implicitDefEqProofs only [go_sem,c1',c0',ze,zf,zg,zc,zb,za]
    try rfl
   ·have c0':¬(lo:Int)≥(at_:Int):=by omega
    by_cases c2:m≤lo
    ·have c2':(lo:Int)≥(m:Int):=by omega
     have e:xV m (k+1) lo hi at_=1:=by
      unfold xV
      rw [xM c1 c2,List.filter_cons_of_pos (by simp;omega)]
      rfl
     rw [e]
     simp -implicitDefEqProofs only [go_sem,c1',c0',c2',ze,zf,zg,zc,zb,za]
     try rfl
    ·have c2':¬(lo:Int)≥(m:Int):=by omega
     have hs:=xL (n:=hi - lo) (by omega)
     have e:xV m (k+1) lo hi at_=xV m k lo (lo+spl (hi - lo)) at_+xV m k (lo+spl (hi - lo)) hi at_:=by
      unfold xV
      rw [qo c1 c2,List.filter_append,List.length_append]
     have w1:IntKind.i64.wrap ((hi:Int) - (lo:Int))=((hi - lo:Nat):Int):=by rw [wrS (by omega)];omega
     have w2:IntKind.i64.wrap ((lo:Int)+((spl (hi - lo):Nat):Int))=((lo+spl (hi - lo):Nat):Int):=by rw [wrS (by omega)];omega
     rw [e]
     simp -implicitDefEqProofs only [go_sem,c1',c0',c2',w1,ze,zf,zg,zc,zb,za]
     refine Want.intro (zg9 (hi - lo) (by omega) (by omega)) ?_
     have l1:=zdp (m:=m) (k:=k) (lo:=lo) (hi:=lo+spl (hi - lo)) (at_:=at_) (by omega) (by omega)
     have l2:=zdp (m:=m) (k:=k) (lo:=lo+spl (hi - lo)) (hi:=hi) (at_:=at_) (by omega) (by omega)
     have w3:IntKind.i64.wrap (((xV m k lo (lo+spl (hi - lo)) at_:Nat):Int)+((xV m k (lo+spl (hi - lo)) hi at_:Nat):Int))=((xV m k lo (lo+spl (hi - lo)) at_+xV m k (lo+spl (hi - lo)) hi at_:Nat):Int):=by rw [wrS (by omega)];omega
     simp -implicitDefEqProofs only [go_sem,w2]
     refine Want.intro (zha m at_ k lo (lo+spl (hi - lo)) (by omega) (by omega) (by omega)) ?_
     simp -implicitDefEqProofs only [go_sem]
     refine Want.intro (zha m at_ k (lo+spl (hi - lo)) hi (by omega) (by omega) (by omega)) ?_
     simp -implicitDefEqProofs only [go_sem,w3]
theorem zjn {m k lo hi:Nat} (h:lo<hi) (hk:hi - lo≤k):xV m k lo hi hi=(gN m k lo hi).2.length:=by
 unfold xV
 rw [List.filter_eq_self.2]
 intro x hx
 have:=zf0 (m:=m) k lo hi h hk x (.inr hx)
 simp
 omega
theorem zaV {m n:Nat} (h1:0<m) (h2:m<n) (h3:n≤256):jn 9 m=(gN m n 0 n).1.length:=by
 rw [zeL (m:=m) n m 0 n (by omega) (by omega) (by omega) (by omega),zgG m 0 m 9 (by omega) (by omega)]
 rfl
theorem c57_c (m n:Int):CallR Tryz.prog 57 [vI m,vI n] (vI (xW m n)) []:=by
 refine zj dcGP false Tryz.f57 ?_
 conv=>enter [1];reduce
 refine jvR Tryz.f57 23 [.tmp 4] (by kernel_rfl) (by decide +kernel) rfl ?_
 unfold xW
 simp -implicitDefEqProofs only [go_sem]
 refine Want.intro (zoo _ _) ?_
 rw [wo]
 cases h:jS m n with
 | false=>simp -implicitDefEqProofs only [go_sem,Bool.not_false,zb,za,Bool.false_eq_true]
 | true=>
  obtain ⟨hn,hm⟩:=xD h
  by_cases h0:m=0
  ·subst h0
   simp -implicitDefEqProofs only [go_sem,Bool.not_true,zb,za,ze,zf,zg,zc,true_or]
  ·have h0':(m==0)=false:=by simpa using h0
   by_cases h1:m=n
   ·subst h1
    simp -implicitDefEqProofs only [go_sem,h0',Bool.not_true,zb,za,ze,zf,zg,zc,or_true]
   ·have h1':(m==n)=false:=by simpa using h1
    obtain ⟨M,rfl⟩:∃M:Nat,m=M:=⟨m.toNat,by omega⟩
    obtain ⟨N,rfl⟩:∃N:Nat,n=N:=⟨n.toNat,by omega⟩
    have hno:¬((M:Int)=0∨(M:Int)=(N:Int)):=fun h=>h.elim h0 h1
    have hl:=qP (m:=M) N 0 N (by omega) (by omega)
    have e1:=zaV (m:=M) (n:=N) (by omega) (by omega) (by omega)
    have e2:=zjn (m:=M) (k:=N) (lo:=0) (hi:=N) (by omega) (by omega)
    have w1:IntKind.i64.wrap (((gN M N 0 N).1.length:Int)+((gN M N 0 N).2.length:Int))=(((gN M N 0 N).1.length+(gN M N 0 N).2.length:Nat):Int):=by rw [wrS (by omega)];omega
    simp -implicitDefEqProofs only [go_sem,h0',h1',hno,Bool.not_true,zb,za,ze,zf,zg,zc]
    refine Want.intro (zon M (by omega)) ?_
    simp -implicitDefEqProofs only [go_sem]
    refine Want.intro (zha M N N 0 N (by omega) (by omega) (by omega)) ?_
    rw [e1,e2]
    simp -implicitDefEqProofs only [go_sem,w1]
theorem mGLen_le (m n:Int):xW m n≤16:=by
 unfold xW
 split
 ·rename_i h
  obtain ⟨hn,hm⟩:=xD h
  split
  ·omega
  ·rename_i h2
   have:=zfZ (m:=m.toNat) 8 n.toNat 0 n.toNat (by omega) (by omega) (by omega) (by simp;omega)
   omega
 ·omega
end Go.Proofs.YtpjpkmhaffmbmaaGreat.E
end
section
namespace Go.Proofs.YtpjpkmhaffmbmaaGreat.E
open Go Go.RowKit
set_option linter.unusedVariables false
set_option linter.unusedSimpArgs false
def MDig.bd (d:MDig):BD:=⟨BitVec.ofNat 64 d.a,BitVec.ofNat 64 d.b,BitVec.ofNat 64 d.c,BitVec.ofNat 64 d.d⟩
theorem MDig.bd_dig {d:MDig} (h:d.ok):d.bd.dig=d:=by
 obtain ⟨h1,h2,h3,h4⟩:=h
 obtain ⟨a,b,c,e⟩:=d
 simp only at h1 h2 h3 h4
 simp only [MDig.bd,BD.dig,BitVec.toNat_ofNat,MDig.mk.injEq]
 exact ⟨Nat.mod_eq_of_lt h1,Nat.mod_eq_of_lt h2,Nat.mod_eq_of_lt h3,Nat.mod_eq_of_lt h4⟩
theorem bds {l:List MDig} (h:∀d∈l,d.ok):(l.map MDig.bd).map BD.dig=l:=by
 rw [List.map_map]
 conv=>rhs;rw [←List.map_id l]
 exact List.map_congr_left fun d hd=>MDig.bd_dig (h d hd)
def xC:List BD→BD
 | []=>zG []
 | [x]=>x
 | x::y::l=>zbQ x (xC (y::l))
def Srt (l:List Nd):Prop:=l.Pairwise fun x y=>x.1<y.1
theorem zeK {m:Nat}:∀(k lo hi:Nat),lo<hi→hi - lo≤k→Srt (gN m k lo hi).1∧Srt (gN m k lo hi).2
 | 0,lo,hi,h,hk=>by omega
 | k+1,lo,hi,h,hk=>by
  by_cases h1:hi≤m
  ·rw [qn h1];exact ⟨List.pairwise_singleton _ _,List.Pairwise.nil⟩
  ·by_cases h2:m≤lo
   ·rw [xM h1 h2];exact ⟨List.Pairwise.nil,List.pairwise_singleton _ _⟩
   ·rw [qo h1 h2]
    have hs:=xL (n:=hi - lo) (by omega)
    have a:=zeK (m:=m) k lo (lo+spl (hi - lo)) (by omega) (by omega)
    have b:=zeK (m:=m) k (lo+spl (hi - lo)) hi (by omega) (by omega)
    have ia:=zf0 (m:=m) k lo (lo+spl (hi - lo)) (by omega) (by omega)
    have ib:=zf0 (m:=m) k (lo+spl (hi - lo)) hi (by omega) (by omega)
    refine ⟨List.pairwise_append.2 ⟨a.1,b.1,fun x hx y hy=>?_⟩,List.pairwise_append.2 ⟨a.2,b.2,fun x hx y hy=>?_⟩⟩
    ·have:=ia x (.inl hx)
     have:=ib y (.inl hy)
     omega
    ·have:=ia x (.inr hx)
     have:=ib y (.inr hy)
     omega
theorem zdC {m:Nat}:∀(k lo hi:Nat),(∀x∈(gN m k lo hi).1,x.2≤m)∧(∀x∈(gN m k lo hi).2,m≤x.1)
 | 0,lo,hi=>by simp [gN]
 | k+1,lo,hi=>by
  by_cases h1:hi≤m
  ·rw [qn h1];simp [h1]
  ·by_cases h2:m≤lo
   ·rw [xM h1 h2];simp [h2]
   ·rw [qo h1 h2]
    have a:=zdC (m:=m) k lo (lo+spl (hi - lo))
    have b:=zdC (m:=m) k (lo+spl (hi - lo)) hi
    exact ⟨fun x hx=>(List.mem_append.1 hx).elim (a.1 x) (b.1 x),fun x hx=>(List.mem_append.1 hx).elim (a.2 x) (b.2 x)⟩
def gA (m n:Nat):List Nd:=(gN m n 0 n).1++(gN m n 0 n).2
theorem zmz {m n:Nat} (h:1≤n):Srt (gA m n):=by
 have a:=zeK (m:=m) n 0 n (by omega) (by omega)
 have i:=zf0 (m:=m) n 0 n (by omega) (by omega)
 have s:=zdC (m:=m) n 0 n
 refine List.pairwise_append.2 ⟨a.1,a.2,fun x hx y hy=>?_⟩
 have:=i x (.inl hx)
 have:=s.1 x hx
 have:=s.2 y hy
 omega
theorem zd7:∀{l:List Nd} (h:Srt l) {i:Nat} (hi:i<l.length),(l.filter fun x=>decide (x.1<l[i].1)).length=i
 | [],_,_,hi=>by simp at hi
 | x::l,h,0,_=>by
  obtain ⟨h1,h2⟩:=List.pairwise_cons.1 h
  simp only [List.getElem_cons_zero]
  rw [List.filter_cons_of_neg (by simp),List.length_eq_zero_iff,List.filter_eq_nil_iff]
  intro y hy
  have:=h1 y hy
  simp
  omega
 | x::l,h,i+1,hi=>by
  obtain ⟨h1,h2⟩:=List.pairwise_cons.1 h
  have hi':i<l.length:=by simpa using hi
  simp only [List.getElem_cons_succ]
  have:=h1 l[i] (List.getElem_mem hi')
  rw [List.filter_cons_of_pos (by simpa using this),List.length_cons,zd7 h2 hi']
theorem zd8 {l:List Nd} (h:Srt l):l.Pairwise (·≠·):=h.imp fun {a b} hab e=>by rw [e] at hab;exact Nat.lt_irrefl _ hab
end Go.Proofs.YtpjpkmhaffmbmaaGreat.E
end
section
namespace Go.Proofs.YtpjpkmhaffmbmaaGreat.E
open Go Go.RowKit
set_option maxHeartbeats 4000000
set_option maxRecDepth 10000
set_option linter.unusedSimpArgs false
set_option linter.unusedVariables false
set_option linter.unusedSectionVars false
def zkT:Dec:=⟨[(158,.cm [true,false]),(185,.cm [false,false])],[9,10,11],[22,30,37,38,39,40,49,56,76,80,87,141,143,159,237,250,259],false⟩
theorem zrf (n:Nat) (h:n<257):CallR Tryz.prog 202 [vU n] (vI (jn 9 n)) []:=by
 refine zj zkT false Tryz.f202 ?_
 conv=>enter [1];reduce
 refine jvR Tryz.f202 35 [.tmp 2] (by kernel_rfl) (by decide +kernel) rfl ?_
 simp -implicitDefEqProofs only [go_sem]
 refine congrArg (fun z:Int=>AV.sc (.int .i64 z)) ?_
 obtain ⟨m,rfl⟩:∃m:Fin 257,n=m.val:=⟨⟨n,h⟩,rfl⟩
 clear h
 revert m
 decide +kernel
theorem zrj (n:Nat) (h:n<257):CallR Tryz.prog 187 [vU n] (vI (jn 9 n)) []:=by
 refine zj zkT false Tryz.f187 ?_
 conv=>enter [1];reduce
 refine jvR Tryz.f187 8 [.tmp 2] (by kernel_rfl) (by decide +kernel) rfl ?_
 simp -implicitDefEqProofs only [go_sem]
 refine Want.intro (zrf n h) ?_
 simp -implicitDefEqProofs only [go_sem]
theorem zrp (n:Nat) (h:n≤256):CallR Tryz.prog 157 [vI n] (vI (jn 9 n)) []:=by
 refine zj zkT false Tryz.f157 ?_
 conv=>enter [1];reduce
 refine jvR Tryz.f157 9 [.tmp 2] (by kernel_rfl) (by decide +kernel) rfl ?_
 simp -implicitDefEqProofs only [go_sem]
 refine Want.intro (qq _ _ _) ?_
 have hin:mIn (n:Int) 0 256=true:=mIn_iff.2 (by omega)
 have w1:IntKind.u64.wrap (n:Int)=(n:Int):=yx _ (by omega)
 simp -implicitDefEqProofs only [go_sem,hin,Bool.not_true,za,w1]
 refine Want.intro (zrj n (by omega)) ?_
 simp -implicitDefEqProofs only [go_sem]
theorem zbE {x:BD} {l:List BD} (h:l≠[]):xC (x::l)=zbQ x (xC l):=by
 cases l with
 | nil=>exact absurd rfl h
 | cons y l=>rfl
theorem zmJ:∀(l:List BD),l.length≤8→CallR Tryz.prog 156 [.ro 4 (l.map BD.cs)] (.agg (xC l).cs) []
 | [],h=>by
  refine zj zkT false Tryz.f156 ?_
  conv=>enter [1];reduce
  refine jvR Tryz.f156 27 [.cell 2 25] (by kernel_rfl) (by decide +kernel) rfl ?_
  simp -implicitDefEqProofs only [go_sem,z0]
  refine Want.intro (zhZ ⟨#[]⟩ (by decide)) ?_
  simp -implicitDefEqProofs only [go_sem,xC]
  try rfl
 | [x],h=>by
  refine zj zkT false Tryz.f156 ?_
  conv=>enter [1];reduce
  refine jvR Tryz.f156 27 [.cell 2 25] (by kernel_rfl) (by decide +kernel) rfl ?_
  have e8:¬((1:Int)>8):=by decide
  simp -implicitDefEqProofs only [go_sem,z1,xC,e8]
 | x::y::l,h=>by
  have ih:=zmJ (y::l) (by simp at h ⊢;omega)
  rw [zbE (l:=y::l) (by simp)]
  obtain ⟨L,hL⟩:∃L,y::l=L:=⟨_,rfl⟩
  rw [hL] at ih h ⊢
  have hL1:1≤L.length:=by rw [←hL];simp
  clear hL
  refine zj zkT false Tryz.f156 ?_
  conv=>enter [1];reduce
  refine jvR Tryz.f156 27 [.cell 2 25] (by kernel_rfl) (by decide +kernel) rfl ?_
  simp only [List.length_cons] at h
  have e0:(((L.length+1:Nat):Int)==0)=false:=by rw [beq_eq_false_iff_ne];omega
  have e1:(((L.length+1:Nat):Int)==1)=false:=by rw [beq_eq_false_iff_ne];omega
  have e8:¬(((L.length+1:Nat):Int)>8):=by omega
  have k1:(1:Int)≤((L.length+1:Nat):Int):=by omega
  have k3:(0:Int)<((L.length+1:Nat):Int):=by omega
  have k2:List.take L.length L=L:=List.take_of_length_le (Nat.le_refl _)
  have k4:∀a,sub 1 L.length (a::List.map BD.cs L)=List.map BD.cs L:=fun a=>by unfold sub;rw [List.drop_succ_cons,List.drop_zero,List.take_of_length_le (by simp)]
  simp -implicitDefEqProofs only [go_sem,e0,e1,e8,za,k1,k3,Nat.add_sub_cancel,k2,k4]
  refine Want.intro ih ?_
  simp -implicitDefEqProofs only [go_sem]
  refine Want.intro (zmF _ _) ?_
  simp -implicitDefEqProofs only [go_sem]
theorem zfP {l:List BD} {i:Nat} (h:i+1<l.length):zbQ (l[i]'(by omega)) (xC (l.drop (i+1)))=xC (l.drop i):=by
 rw [List.drop_eq_getElem_cons (i:=i) (by omega),zbE]
 intro e
 have:=congrArg List.length e
 simp at this
 omega
theorem c58_c (l:List BD) (h:l.length≤8):CallR Tryz.prog 58 [.ro 4 (l.map BD.cs)] (.agg (xC l).cs) []:=by
 refine zj zkT false Tryz.f58 ?_
 conv=>enter [1];reduce
 refine jvR Tryz.f58 33 [.cell 2 25] (by kernel_rfl) (by decide +kernel) rfl ?_
 have e8:¬((l.length:Int)>8):=by omega
 rcases Nat.eq_zero_or_pos l.length with h0 | h0
 ·have:l=[]:=List.eq_nil_of_length_eq_zero h0
  subst this
  have e8:¬((0:Int)>8):=by decide
  simp -implicitDefEqProofs only [go_sem,z0,e8]
  refine Want.intro (zeX ⟨#[]⟩ (by decide)) ?_
  simp -implicitDefEqProofs only [go_sem,xC]
  try rfl
 ·have e0:((l.length:Int)==0)=false:=by rw [beq_eq_false_iff_ne];omega
  have w1:IntKind.i64.wrap ((l.length:Int) - 1)=((l.length - 1:Nat):Int):=by rw [wrS (by omega)];omega
  have w2:IntKind.i64.wrap ((l.length:Int) - 2)=((l.length - 1:Nat):Int) - 1:=by rw [wrS (by omega)];omega
  have hlt:l.length - 1<l.length:=by omega
  have k1:((l.length - 1:Nat):Int)<(l.length:Int):=by omega
  have hg:l[l.length - 1]?=some l[l.length - 1]:=List.getElem?_eq_getElem hlt
  have hlast:l[l.length - 1]=xC (l.drop (l.length - 1)):=by
   rw [List.drop_eq_getElem_cons (i:=l.length - 1) (by omega),show l.length - 1+1=l.length by omega,List.drop_length]
   rfl
  simp -implicitDefEqProofs only [go_sem,e0,e8,za,w1,w2,k1,hg]
  refine zU (fun m s=>m<l.length∧s=⟨33,[(0,.ro 4 (l.map BD.cs)),(2,.ptr 2 0 [] 4 0 0),(3,.ptr 3 0 [] 4 0 0),(4,vI ((m:Int) - 1))],[(2,0,one ⟨4,[[.sc (.int .u64 0),.sc (.int .u64 0),.sc (.int .u64 0),.sc (.int .u64 0)]],0,false⟩),(3,0,one ⟨4,[(xC (l.drop m)).cs],0,false⟩)],1⟩) (l.length - 1) ?_ ?_
  ·simp -implicitDefEqProofs only [go_sem]
   exact ⟨hlt,by rw [←hlast]⟩
  ·rintro m s ⟨hm,rfl⟩
   cases m with
   | zero=>
    have c0:¬(((0:Nat):Int) - 1≥0):=by omega
    simp -implicitDefEqProofs only [go_sem,c0,List.drop_zero]
   | succ m=>
    have c0:((m+1:Nat):Int) - 1≥0:=by omega
    have c1:((m+1:Nat):Int) - 1=(m:Int):=by omega
    have c2:(m:Int)≥0:=by omega
    have c3:(m:Int)<(l.length:Int):=by omega
    have hg:l[m]?=some (l[m]'(by omega)):=List.getElem?_eq_getElem (by omega)
    have w3:IntKind.i64.wrap ((m:Int) - 1)=(m:Int) - 1:=wrS (by omega)
    rw [c1]
    simp -implicitDefEqProofs only [go_sem,c2,c3,hg]
    refine Want.intro (zko _ _) ?_
    rw [zfP hm]
    simp -implicitDefEqProofs only [go_sem,w3]
    exact ⟨m,by omega,by omega,rfl⟩
def zay (m at_:Nat):Nat:=((pks m 0 m).filter fun x=>decide (x.1<at_)).length
theorem zll:∀(a b lo m:Nat),m - lo≤a→m - lo≤b→pks a lo m=pks b lo m:=by
 intro a
 induction a with
 | zero=>intro b lo m h1 h2;rw [qY (k:=b) (by omega)];rfl
 | succ a ih=>
  intro b lo m h1 h2
  cases b with
  | zero=>rw [qY (k:=a+1) (by omega)];rfl
  | succ b=>
   rw [pks,pks]
   split
   ·have:=zag (n:=m - lo) (by omega)
    rw [ih b (lo+zah (m - lo)) m (by omega) (by omega)]
   ·rfl
theorem zmg:∀(k lo m:Nat),∀x∈pks k lo m,lo≤x.1
 | 0,lo,m,x,hx=>by simp [pks] at hx
 | k+1,lo,m,x,hx=>by
  rw [pks] at hx
  split at hx
  ·rcases List.mem_cons.1 hx with rfl | hx
   ·exact Nat.le_refl _
   ·have:=zmg k _ m x hx
    omega
  ·simp at hx
theorem zrz (m at_:Nat) (h:m≤256) (h2:at_≤256):CallR Tryz.prog 125 [vI m,vI at_] (vI (zay m at_)) []:=by
 refine zj zkT false Tryz.f125 ?_
 conv=>enter [1];reduce
 refine jvR Tryz.f125 24 [.tmp 4] (by kernel_rfl) (by decide +kernel) rfl ?_
 simp -implicitDefEqProofs only [go_sem]
 refine zU (fun k s=>∃lo c:Nat,lo≤m∧k=m - lo∧c≤lo∧c+((pks k lo m).filter fun x=>decide (x.1<at_)).length=zay m at_∧s=⟨24,[(0,vI m),(1,vI at_),(5,vI c),(6,vI lo)],[],1⟩) m ?_ ?_
 ·simp -implicitDefEqProofs only [go_sem]
  exact ⟨0,0,Nat.zero_le _,rfl,Nat.le_refl _,by rw [Nat.zero_add];rfl,rfl⟩
 ·rintro k s ⟨lo,c,hlo,rfl,hc,hq,rfl⟩
  by_cases h1:lo<m
  ·have h1':(lo:Int)<(m:Int):=by omega
   by_cases h3:lo<at_
   ·have h3':(lo:Int)<(at_:Int):=by omega
    have hb:=zag (n:=m - lo) (by omega)
    obtain ⟨k',hk'⟩:∃k',m - lo=k'+1:=⟨m - lo - 1,by omega⟩
    have w1:IntKind.i64.wrap ((m:Int) - (lo:Int))=((m - lo:Nat):Int):=by rw [wrS (by omega)];omega
    have hp:pks (m - lo) lo m=(lo,lo+zah (m - lo))::pks (m - (lo+zah (m - lo))) (lo+zah (m - lo)) m:=by
     conv=>lhs;rw [hk']
     rw [pks,if_pos h1,zll k' (m - (lo+zah (m - lo))) _ m (by omega) (Nat.le_refl _)]
    rw [hp,List.filter_cons_of_pos (by simpa using h3),List.length_cons] at hq
    simp -implicitDefEqProofs only [go_sem,h1',h3',w1,ze,zf,zg,zc,zb,za]
    refine Want.intro (zmL (m - lo) (by omega) (by omega)) ?_
    clear hp hk'
    generalize zah (m - lo)=d at *
    have w2:IntKind.i64.wrap ((lo:Int)+(d:Int))=((lo+d:Nat):Int):=by rw [wrS (by omega)];omega
    have w3:IntKind.i64.wrap ((c:Int)+1)=((c+1:Nat):Int):=by rw [wrS (by omega)];omega
    simp -implicitDefEqProofs only [go_sem,w2,w3]
    exact ⟨_,by omega,lo+d,c+1,by omega,rfl,by omega,by omega,rfl⟩
   ·have h3':¬(lo:Int)<(at_:Int):=by omega
    have e:((pks (m - lo) lo m).filter fun x=>decide (x.1<at_))=[]:=by
     rw [List.filter_eq_nil_iff]
     intro x hx
     have:=zmg _ _ _ x hx
     simp
     omega
    rw [e] at hq
    have hq:c=zay m at_:=by simpa using hq
    simp -implicitDefEqProofs only [go_sem,h1',h3',ze,zf,zg,zc,zb,za]
    rw [hq]
  ·have h1':¬(lo:Int)<(m:Int):=by omega
   rw [qY (by omega)] at hq
   have hq:c=zay m at_:=by simpa using hq
   simp -implicitDefEqProofs only [go_sem,h1',ze,zf,zg,zc,zb,za]
   rw [hq]
def nK (x:Nd):AV:=.agg [vI x.1,vI x.2]
def mc (X:List Nd) (D:List BD):MC:=(X.zip D).map fun p=>(nK p.1,.agg p.2.cs)
theorem zkd:za3 Tryz.prog 223=some [.int .i64,.int .i64]:=by kernel_rfl
theorem zcX (x y:Nd):zfS Tryz.prog 223 (nK x) (nK y)=some (decide (x=y)):=by
 unfold zfS nK
 rw [zkd]
 simp only [Option.bind_some,eqA,wx,if_true,Option.map_some,Bool.and_true]
 congr 1
 obtain ⟨a,b⟩:=x
 obtain ⟨c,d⟩:=y
 rw [Bool.eq_iff_iff]
 simp only [Bool.and_eq_true,beq_iff_eq,decide_eq_true_eq,Prod.mk.injEq]
 omega
theorem zae (x:Nd):zcp Tryz.prog 223 (nK x)=true:=by
 unfold zcp
 rw [zcX]
 rfl
def zaM (x:Nd) (X:List Nd) (D:List BD):Option BD:=((X.zip D).find? fun p=>decide (x=p.1)).map (·.2)
theorem zdH (x:Nd):∀(X:List Nd) (D:List BD),wD Tryz.prog 223 (nK x) (mc X D)=some ((zaM x X D).map fun d=>.agg d.cs)
 | [],D=>rfl
 | y::X,[]=>rfl
 | y::X,d::D=>by
  unfold mc zaM
  simp only [List.zip_cons_cons,List.map_cons,wD,zcX,List.find?_cons]
  by_cases h:x=y
  ·simp [h]
  ·simp only [h,decide_false]
   exact zdH x X D
theorem zcN {x:Nd} {X:List Nd} {D:List BD} (h:x ∉ X):zaM x X D=none:=by
 unfold zaM
 rw [Option.map_eq_none_iff,List.find?_eq_none]
 intro p hp
 have:=(List.of_mem_zip hp).1
 simp only [decide_eq_true_eq]
 rintro rfl
 exact h this
theorem zeu:∀{X:List Nd} {D:List BD} {i:Nat},X.Pairwise (·≠·)→(hi:i<X.length)→(hd:i<D.length)→zaM X[i] X D=some D[i]
 | [],_,i,_,hi,_=>by simp at hi
 | x::X,[],i,_,_,hd=>by simp at hd
 | x::X,d::D,0,_,_,_=>by simp [zaM,List.zip_cons_cons,List.find?_cons]
 | x::X,d::D,i+1,hp,hi,hd=>by
  obtain ⟨h1,h2⟩:=List.pairwise_cons.1 hp
  have hi':i<X.length:=by simpa using hi
  have hd':i<D.length:=by simpa using hd
  have hne:X[i]≠x:=fun e=>h1 X[i] (List.getElem_mem hi') e.symm
  have ih:=zeu h2 hi' hd'
  unfold zaM at ih ⊢
  simp only [List.getElem_cons_succ,List.zip_cons_cons,List.find?_cons,hne,decide_false]
  exact ih
theorem zkg (x:Nd):zcs (nK x)=some [10,3,zig x.1,3,zig x.2]:=rfl
theorem zof (d:BD):zcs (.agg d.cs)=some [10,7,zig d.a.toNat,7,zig d.b.toNat,7,zig d.c.toNat,7,zig d.d.toNat]:=rfl
theorem zhC (C:MC):(1≤mfl C)=True:=eq_true (Nat.le_trans (by decide) (zjo C))
theorem zow (C:MC):Nat.ble 1 (mfl C)=true:=Nat.ble_eq_true_of_le (Nat.le_trans (by decide) (zjo C))
attribute [go_sem] zhC zow
theorem zbA:zds Tryz.prog 220=some (223,25):=by kernel_rfl
theorem zie:zOf Tryz.prog 25=some (.agg #[.int .u64 0,.int .u64 0,.int .u64 0,.int .u64 0]):=by kernel_rfl
theorem znF {X:List Nd} {D:List BD} {i:Nat} (h1:i<X.length) (h2:i<D.length):mc (X.take i) (D.take i)++[(nK X[i],.agg D[i].cs)]=mc (X.take (i+1)) (D.take (i+1)):=by
 unfold mc
 rw [List.take_succ_eq_append_getElem h1,List.take_succ_eq_append_getElem h2,List.zip_append (by simp;omega),List.map_append]
 rfl
theorem zmH (m n:Nat) (D:List BD) (h:1≤n) (h2:n≤256) (hD:D.length=(gA m n).length):zS Tryz.prog 159 [] [vI m,vI n,.ro 4 (D.map BD.cs)] (.mr 0 0 []) [(0,0,one (mpR (mc (gA m n) D)))]:=by
 refine zj zkT false Tryz.f159 ?_
 conv=>enter [1];reduce
 refine jvM Tryz.f159 36 [.tmp 6] (by kernel_rfl) (by decide +kernel) rfl ?_
 simp -implicitDefEqProofs only [go_sem]
 refine WantM.intro (zmG m n h h2) ?_
 have hl2:=qP (m:=m) n 0 n (by omega) (by omega)
 have hap:((gN m n 0 n).1++(gN m n 0 n).2).length≤maxLen∧((gN m n 0 n).1++(gN m n 0 n).2).length * 16≤140737488355328:=by
  simp only [List.length_append,maxLen]
  omega
 have hnd:=zd8 (zmz (m:=m) h)
 simp -implicitDefEqProofs only [go_sem,hap,←List.map_append]
 unfold gA at *
 generalize hX:(gN m n 0 n).1++(gN m n 0 n).2=X at *
 have hXl:X.length≤600:=by rw [←hX,List.length_append];omega
 refine zU (fun k s=>∃i,i≤X.length∧k=X.length - i∧s=⟨36,[(2,.ro 4 (D.map BD.cs)),(9,.mr 9 0 []),(21,.blk 21 0 [] 2 0 X.length),(22,vI X.length),(23,vI i)],[(9,0,one (mpR (mc (X.take i) (D.take i)))),(21,0,one (zoS X))],1⟩) X.length ?_ ?_
 ·simp -implicitDefEqProofs only [go_sem]
  exact ⟨0,Nat.zero_le _,rfl,rfl⟩
 ·rintro k s ⟨i,hi,rfl,rfl⟩
  rcases Nat.lt_or_ge i X.length with hlt | hge
  ·have hlt':(i:Int)<(X.length:Int):=by omega
   have hld:i<D.length:=by omega
   have hld':(i:Int)<(D.length:Int):=by omega
   have hg:X[i]?=some X[i]:=List.getElem?_eq_getElem hlt
   have hgd:D[i]?=some D[i]:=List.getElem?_eq_getElem hld
   have hw:=zB hlt (by unfold maxLen;omega)
   have hno:X[i] ∉ X.take i:=fun hm=>by
    obtain ⟨j,hj,e⟩:=List.getElem_of_mem hm
    rw [List.length_take] at hj
    rw [List.getElem_take] at e
    exact (List.pairwise_iff_getElem.1 hnd j i (by omega) hlt (by omega)) e
   have hf:=zdH X[i] (X.take i) (D.take i)
   rw [zcN hno] at hf
   simp -implicitDefEqProofs only [go_sem,hlt',hld',hg,hgd,nC]
   refine zlt zbA (zae X[i]) hf (zkg X[i]) (zof D[i]) ?_
   simp -implicitDefEqProofs only [go_sem,hw]
   exact ⟨_,by omega,i+1,hlt,rfl,by rw [←znF hlt hld];rfl⟩
  ·have hi:i=X.length:=by omega
   subst hi
   have hlt':¬((X.length:Int)<(X.length:Int)):=by omega
   have e2:D.take X.length=D:=List.take_of_length_le (by omega)
   simp -implicitDefEqProofs only [go_sem,hlt',List.take_length,e2]
def jR (D:Nd→BD) (m:Nat):Nat→Nat→Nat→BD
 | 0,lo,hi=>D (lo,hi)
 | k+1,lo,hi=>if hi≤m∨m≤lo then D (lo,hi) else zbQ (jR D m k lo (lo+spl (hi - lo))) (jR D m k (lo+spl (hi - lo)) hi)
theorem zbF {D:Nd→BD} {m k lo hi:Nat} (h:hi≤m∨m≤lo):jR D m (k+1) lo hi=D (lo,hi):=by rw [jR,if_pos h]
theorem zez {D:Nd→BD} {m k lo hi:Nat} (h:¬(hi≤m∨m≤lo)):jR D m (k+1) lo hi=zbQ (jR D m k lo (lo+spl (hi - lo))) (jR D m k (lo+spl (hi - lo)) hi):=by rw [jR,if_neg h]
theorem zkm (C:MC) (L:Nd→Option BD) (D:Nd→BD) (m:Nat) (hC:∀x,wD Tryz.prog 223 (nK x) C=some ((L x).map fun d=>.agg d.cs)) (hmid:∀x:Nd,x.1<m→m<x.2→L x=none):
  ∀(k lo hi:Nat),lo<hi→hi≤256→hi - lo≤k→(∀x,x∈(gN m k lo hi).1∨x∈(gN m k lo hi).2→L x=some (D x))→
  zS Tryz.prog 158 [(1000000,0,one (mpR C))] [.mr 1000000 0 [],.agg [vI lo,vI hi]] (.agg (jR D m k lo hi).cs) [(1000000,0,one (mpR C))]
 | 0,lo,hi,h,h2,hk,hin=>by omega
 | k+1,lo,hi,h,h2,hk,hin=>by
  have hf:=hC (lo,hi)
  refine zj zkT false Tryz.f158 ?_
  conv=>enter [1];reduce
  refine jvM Tryz.f158 29 [.cell 4 25] (by kernel_rfl) (by decide +kernel) rfl ?_
  by_cases c:hi≤m∨m≤lo
  ·have hx:L (lo,hi)=some (D (lo,hi)):=by
    refine hin (lo,hi) ?_
    by_cases h1:hi≤m
    ·rw [qn h1];simp
    ·rw [xM h1 (c.resolve_left h1)];simp
   rw [hx] at hf
   rw [zbF c]
   simp -implicitDefEqProofs only [go_sem]
   refine zgS zbA zie (zae (lo,hi)) hf ?_
   generalize D (lo,hi)=d
   simp -implicitDefEqProofs only [go_sem,zb]
  ·have hx:L (lo,hi)=none:=hmid (lo,hi) (by show lo<m;omega) (by show m<hi;omega)
   rw [hx] at hf
   rw [zez c]
   have hs:=xL (n:=hi - lo) (by omega)
   have e:=qo (m:=m) (k:=k) (lo:=lo) (hi:=hi) (by omega) (by omega)
   have i1:=zkm C L D m hC hmid k lo (lo+spl (hi - lo)) (by omega) (by omega) (by omega) (fun x hx=>hin x (by
    rw [e]
    rcases hx with hx | hx
    ·exact .inl (List.mem_append_left _ hx)
    ·exact .inr (List.mem_append_left _ hx)))
   have i2:=zkm C L D m hC hmid k (lo+spl (hi - lo)) hi (by omega) (by omega) (by omega) (fun x hx=>hin x (by
    rw [e]
    rcases hx with hx | hx
    ·exact .inl (List.mem_append_right _ hx)
    ·exact .inr (List.mem_append_right _ hx)))
   simp -implicitDefEqProofs only [go_sem]
   refine zgS zbA zie (zae (lo,hi)) hf ?_
   simp -implicitDefEqProofs only [go_sem,za]
   refine Want.intro (zkl lo hi (by omega) h2) ?_
   simp -implicitDefEqProofs only [go_sem]
   refine WantM.intro i1 ?_
   simp -implicitDefEqProofs only [go_sem]
   refine WantM.intro i2 ?_
   simp -implicitDefEqProofs only [go_sem]
   refine Want.intro (zmF _ _) ?_
   simp -implicitDefEqProofs only [go_sem]
end Go.Proofs.YtpjpkmhaffmbmaaGreat.E
end
section
namespace Go.Proofs.YtpjpkmhaffmbmaaGreat.E
open Go Go.RowKit
set_option maxHeartbeats 4000000
set_option maxRecDepth 10000
set_option linter.unusedSimpArgs false
set_option linter.unusedVariables false
set_option linter.unusedSectionVars false
def dcKB:Dec:=⟨[(158,.cm [true,false]),(159,.cm [false,false,false])],[9,10,11],[22,30,37,38,39,40,49,56,76,80,87,141,143,159,237,250,259],false⟩
def bd0:BD:=⟨0,0,0,0⟩
def mD (P:List BD) (m n:Nat) (x:Nd):BD:=(zaM x (gA m n) P).getD bd0
theorem zqe {P:List BD} {m n i:Nat} (h:1≤n) (hi:i<(gA m n).length) (hP:P.length=(gA m n).length):zaM (gA m n)[i] (gA m n) P=some (P[i]'(by omega)):=
 zeu (zd8 (zmz h)) hi (by omega)
theorem zew {l:List Nd} (hl:Srt l) {x:Nd} (hx:x∈l):∃h:(l.filter fun y=>decide (y.1<x.1)).length<l.length,l[(l.filter fun y=>decide (y.1<x.1)).length]=x:=by
 obtain ⟨i,hi,rfl⟩:=List.getElem_of_mem hx
 have e:=zd7 hl hi
 exact ⟨by rw [e];exact hi,by simp only [e]⟩
theorem zmv {P:List BD} {m n:Nat} (h1:0<m) (h2:m<n) (h3:n≤256) (hP:P.length=(gA m n).length) {x:Nd} (hx:x∈(gN m n 0 n).2):
  zaM x (gA m n) P=some (mD P m n x)∧∃i,i=jn 9 m+xV m n 0 n x.1∧P[i]?=some (mD P m n x):=by
 obtain ⟨hlt,he⟩:=zew (zeK (m:=m) n 0 n (by omega) (by omega)).2 hx
 have e1:=zaV h1 h2 h3
 have hg:(gA m n).length=(gN m n 0 n).1.length+(gN m n 0 n).2.length:=by unfold gA;rw [List.length_append]
 obtain ⟨j,hj⟩:∃j,((gN m n 0 n).2.filter fun y=>decide (y.1<x.1)).length=j:=⟨_,rfl⟩
 simp only [hj] at hlt he
 have hi:(gN m n 0 n).1.length+j<(gA m n).length:=by omega
 have hgx:(gA m n)[(gN m n 0 n).1.length+j]=x:=by
  have hq:(gA m n)[(gN m n 0 n).1.length+j]?=some x:=by
   show ((gN m n 0 n).1++(gN m n 0 n).2)[(gN m n 0 n).1.length+j]?=some x
   rw [List.getElem?_append_right (Nat.le_add_right _ _),Nat.add_sub_cancel_left,List.getElem?_eq_getElem hlt,he]
  rw [List.getElem?_eq_getElem hi] at hq
  exact Option.some.inj hq
 have hf:=zqe (P:=P) (m:=m) (n:=n) (by omega) hi hP
 rw [hgx] at hf
 have hd:mD P m n x=P[(gN m n 0 n).1.length+j]'(by omega):=by unfold mD;rw [hf];rfl
 refine ⟨by rw [hf,hd],(gN m n 0 n).1.length+j,by rw [e1];unfold xV;rw [hj],?_⟩
 rw [hd]
 exact List.getElem?_eq_getElem _
theorem zmu {P:List BD} {m n:Nat} (h1:0<m) (h2:m<n) (h3:n≤256) (hP:P.length=(gA m n).length) {x:Nd} (hx:x∈(gN m n 0 n).1):
  zaM x (gA m n) P=some (mD P m n x)∧∃i,i=zay m x.1∧P[i]?=some (mD P m n x):=by
 obtain ⟨hlt,he⟩:=zew (zeK (m:=m) n 0 n (by omega) (by omega)).1 hx
 have e1:=zeL (m:=m) n m 0 n (by omega) (by omega) (by omega) (by omega)
 have hg:(gA m n).length=(gN m n 0 n).1.length+(gN m n 0 n).2.length:=by unfold gA;rw [List.length_append]
 obtain ⟨j,hj⟩:∃j,((gN m n 0 n).1.filter fun y=>decide (y.1<x.1)).length=j:=⟨_,rfl⟩
 simp only [hj] at hlt he
 have hi:j<(gA m n).length:=by omega
 have hgx:(gA m n)[j]=x:=by
  have hq:(gA m n)[j]?=some x:=by
   show ((gN m n 0 n).1++(gN m n 0 n).2)[j]?=some x
   rw [List.getElem?_append_left hlt,List.getElem?_eq_getElem hlt,he]
  rw [List.getElem?_eq_getElem hi] at hq
  exact Option.some.inj hq
 have hf:=zqe (P:=P) (m:=m) (n:=n) (by omega) hi hP
 rw [hgx] at hf
 have hd:mD P m n x=P[j]'(by omega):=by unfold mD;rw [hf];rfl
 refine ⟨by rw [hf,hd],j,by unfold zay;rw [←e1,hj],?_⟩
 rw [hd]
 exact List.getElem?_eq_getElem _
theorem zqJ {m k lo hi:Nat} (h1:¬hi≤m) (h2:¬m≤lo) {A B:List Nd} (h:(∀x∈(gN m (k+1) lo hi).1,x∈A)∧(∀x∈(gN m (k+1) lo hi).2,x∈B)):
  ((∀x∈(gN m k lo (lo+spl (hi - lo))).1,x∈A)∧(∀x∈(gN m k lo (lo+spl (hi - lo))).2,x∈B))∧((∀x∈(gN m k (lo+spl (hi - lo)) hi).1,x∈A)∧(∀x∈(gN m k (lo+spl (hi - lo)) hi).2,x∈B)):=by
 rw [qo h1 h2] at h
 exact ⟨⟨fun x hx=>h.1 x (List.mem_append_left _ hx),fun x hx=>h.2 x (List.mem_append_left _ hx)⟩,⟨fun x hx=>h.1 x (List.mem_append_right _ hx),fun x hx=>h.2 x (List.mem_append_right _ hx)⟩⟩
theorem zp3 (m at_:Nat):zay m at_≤m:=Nat.le_trans (List.length_filter_le _ _) (by have:=zfF m 0 m;omega)
theorem zom (P:List BD) (m n:Nat) (h1:0<m) (h2:m<n) (h3:n≤256) (hP:P.length=(gA m n).length):
  ∀(k lo hi:Nat),lo<hi→hi≤n→hi - lo≤k→((∀x∈(gN m k lo hi).1,x∈(gN m n 0 n).1)∧(∀x∈(gN m k lo hi).2,x∈(gN m n 0 n).2))→
  CallR Tryz.prog 60 [vI lo,vI hi,vI m,vI n,.ro 4 (P.map BD.cs)] (.agg (jR (mD P m n) m k lo hi).cs) []
 | 0,lo,hi,h,hn,hk,hin=>by omega
 | k+1,lo,hi,h,hn,hk,hin=>by
  refine zj dcKB false Tryz.f60 ?_
  conv=>enter [1];reduce
  refine jvR Tryz.f60 53 [.cell 10 25] (by kernel_rfl) (by decide +kernel) rfl ?_
  have hpc:=zfE 9 m
  by_cases c2:m≤lo
  ·have c2':(lo:Int)≥(m:Int):=by omega
   have hx:(lo,hi)∈(gN m n 0 n).2:=hin.2 _ (by rw [xM (by omega) c2];simp)
   obtain ⟨-,i,hi1,hi2⟩:=zmv h1 h2 h3 hP hx
   have hr:=zdp (m:=m) (k:=n) (lo:=0) (hi:=n) (at_:=lo) (by omega) (by omega)
   have w1:IntKind.i64.wrap ((jn 9 m:Int)+(xV m n 0 n lo:Int))=((i:Nat):Int):=by rw [wrS (by omega)];simp only [hi1];omega
   have hlt:i<P.length:=(List.getElem?_eq_some_iff.1 hi2).1
   have hlt':(i:Int)<(P.length:Int):=by omega
   rw [zbF (.inr c2)]
   simp -implicitDefEqProofs only [go_sem,c2',zb]
   refine Want.intro (zon m (by omega)) ?_
   simp -implicitDefEqProofs only [go_sem]
   refine Want.intro (zha m lo n 0 n (by omega) (by omega) (by omega)) ?_
   simp -implicitDefEqProofs only [go_sem,w1,hlt',hi2]
  ·have c2':¬(lo:Int)≥(m:Int):=by omega
   by_cases c1:hi≤m
   ·have c1':(hi:Int)≤(m:Int):=by omega
    have hx:(lo,hi)∈(gN m n 0 n).1:=hin.1 _ (by rw [qn c1];simp)
    obtain ⟨-,i,hi1,hi2⟩:=zmu h1 h2 h3 hP hx
    have hlt:i<P.length:=(List.getElem?_eq_some_iff.1 hi2).1
    have hlt':(i:Int)<(P.length:Int):=by omega
    rw [zbF (.inl c1)]
    simp -implicitDefEqProofs only [go_sem,c2',c1',zb,za]
    have hc:=zrz m lo (by omega) (by omega)
    rw [←show i=zay m lo from hi1] at hc
    refine Want.intro hc ?_
    simp -implicitDefEqProofs only [go_sem,hlt',hi2]
   ·have c1':¬(hi:Int)≤(m:Int):=by omega
    have hs:=xL (n:=hi - lo) (by omega)
    obtain ⟨s1,s2⟩:=zqJ c1 c2 hin
    have w1:IntKind.i64.wrap ((hi:Int) - (lo:Int))=((hi - lo:Nat):Int):=by rw [wrS (by omega)];omega
    have w2:IntKind.i64.wrap ((lo:Int)+((spl (hi - lo):Nat):Int))=((lo+spl (hi - lo):Nat):Int):=by rw [wrS (by omega)];omega
    rw [zez (fun h=>h.elim c1 c2)]
    simp -implicitDefEqProofs only [go_sem,c2',c1',w1,za]
    refine Want.intro (zg9 (hi - lo) (by omega) (by omega)) ?_
    simp -implicitDefEqProofs only [go_sem,w2]
    refine Want.intro (zom P m n h1 h2 h3 hP k lo (lo+spl (hi - lo)) (by omega) (by omega) (by omega) s1) ?_
    simp -implicitDefEqProofs only [go_sem]
    refine Want.intro (zom P m n h1 h2 h3 hP k (lo+spl (hi - lo)) hi (by omega) (by omega) (by omega) s2) ?_
    simp -implicitDefEqProofs only [go_sem]
    refine Want.intro (zko _ _) ?_
    simp -implicitDefEqProofs only [go_sem]
theorem zrc (P:List BD) (m n:Nat) (h1:0<m) (h2:m<n) (h3:n≤256) (hP:P.length=(gA m n).length):
  CallR Tryz.prog 60 [vI 0,vI n,vI m,vI n,.ro 4 (P.map BD.cs)] (.agg (jR (mD P m n) m n 0 n).cs) []:=
 zom P m n h1 h2 h3 hP n 0 n (by omega) (Nat.le_refl _) (by omega) ⟨fun _ h=>h,fun _ h=>h⟩
theorem zmI (P:List BD) (m n:Nat) (h1:0<m) (h2:m<n) (h3:n≤256) (hP:P.length=(gA m n).length):
  zS Tryz.prog 158 [(1000000,0,one (mpR (mc (gA m n) P)))] [.mr 1000000 0 [],.agg [vI 0,vI n]] (.agg (jR (mD P m n) m n 0 n).cs) [(1000000,0,one (mpR (mc (gA m n) P)))]:=by
 refine zkm (mc (gA m n) P) (fun x=>zaM x (gA m n) P) (mD P m n) m (fun x=>zdH x _ _) (fun x hx1 hx2=>zcN ?_) n 0 n (by omega) h3 (by omega) ?_
 ·intro hx
  have s:=zdC (m:=m) n 0 n
  rcases List.mem_append.1 hx with hx | hx
  ·have:=s.1 x hx;omega
  ·have:=s.2 x hx;omega
 ·rintro x (hx | hx)
  ·exact (zmu h1 h2 h3 hP hx).1
  ·exact (zmv h1 h2 h3 hP hx).1
end Go.Proofs.YtpjpkmhaffmbmaaGreat.E
end
section
namespace Go.Proofs.YtpjpkmhaffmbmaaGreat.E
open Go Go.RowKit
set_option maxHeartbeats 4000000
set_option maxRecDepth 10000
set_option linter.unusedSimpArgs false
set_option linter.unusedVariables false
set_option linter.unusedSectionVars false
def dcKC:Dec:=⟨[(158,.cm [true,false]),(159,.cm [false,false,false])],[9,10,11],[22,30,37,38,39,40,49,56,76,80,87,141,143,159,237,250,259],false⟩
def eqD (a b:MDig):Bool:=((a.a:Int)==b.a)&&(((a.b:Int)==b.b)&&(((a.c:Int)==b.c)&&((a.d:Int)==b.d)))
theorem xN (a b:MDig):eqD a b=eqD b a:=by
 unfold eqD
 rw [BEq.comm (a:=(a.a:Int)),BEq.comm (a:=(a.b:Int)),BEq.comm (a:=(a.c:Int)),BEq.comm (a:=(a.d:Int))]
def mGC (o p:MPt) (P:List BD):Int:=
 if jS o.size p.size then
  (if (P.length:Int)=xW o.size p.size then
   (if o.size=0 then (if eqD o.root (zG []).dig then (if p.size=0 then (if eqD o.root p.root then 0 else 4) else 0) else 3)
    else if o.size=p.size then (if eqD o.root p.root then 0 else 4)
    else (if eqD (xC (P.take (jn 9 o.size.toNat))).dig o.root then (if eqD (jR (mD P o.size.toNat p.size.toNat) o.size.toNat p.size.toNat 0 p.size.toNat).dig p.root then 0 else 4) else 3))
   else 2)
 else 1
theorem zpS {M:Nat} (h:M≤256):jn 9 M≤8:=by
 have:∀x:Fin 257,jn 9 x.1≤8:=by decide +kernel
 exact this ⟨M,by omega⟩
theorem zgQ {M N:Nat} (h:jS M N=true) (h1:0<M) (h2:M<N):xW M N=((gA M N).length:Int):=by
 unfold xW gA
 rw [if_pos h,if_neg (by omega),List.length_append]
 rfl
theorem zrH (o p:MPt) (P:List BD):CallR Tryz.prog 109 [.agg o.cs,.agg p.cs,.ro 4 (P.map BD.cs)] (vI (mGC o p P)) []:=by
 refine zj dcKC false Tryz.f109 ?_
 conv=>enter [1];reduce
 refine jvR Tryz.f109 81 [.tmp 6] (by kernel_rfl) (by decide +kernel) rfl ?_
 unfold mGC
 have hmg:=zmK o.size p.size
 try rw [wo] at hmg
 cases h:jS o.size p.size with
 | false=>
  rw [h] at hmg
  by_cases q1:o.size>0<;>by_cases q2:o.size<p.size<;>
  ·simp -implicitDefEqProofs only [go_sem,q1,q2,ze,zf,zg,zc,zb,za,Bool.not_true,Bool.not_false,beq_self_eq_true,bne_self_eq_false,Bool.false_eq_true]
   refine Want.intro hmg ?_
   simp -implicitDefEqProofs only [go_sem,ze,zf,zg,zc,zb,za,Bool.not_true,Bool.not_false,beq_self_eq_true,bne_self_eq_false]
 | true=>
  rw [h] at hmg
  obtain ⟨hn,hm⟩:=xD h
  obtain ⟨s,root⟩:=o
  obtain ⟨t,root'⟩:=p
  simp only at h hmg hn hm ⊢
  obtain ⟨N,rfl⟩:∃N:Nat,t=N:=⟨t.toNat,by omega⟩
  have hgl:=zrq s (N:Int)
  by_cases g:(P.length:Int)=xW s N
  ·have g':((P.length:Int) != xW s N)=false:=by rw [bne_eq_false_iff_eq];exact g
   by_cases z:s=0
   ·subst z
    generalize hG:xW 0 (N:Int)=G at *
    have hHO:=zhZ ⟨#[]⟩ (by decide)
    have eHO:zG (⟨#[]⟩:ByteArray).data.toList=zG []:=rfl
    rw [eHO] at hHO
    generalize zG []=H at *
    have q1:¬((0:Int)>0):=by decide
    simp -implicitDefEqProofs only [go_sem,q1,ze,zf,zg,zc,zb,za,Bool.not_true,Bool.not_false,beq_self_eq_true,bne_self_eq_false]
    refine Want.intro hmg ?_
    simp -implicitDefEqProofs only [go_sem,ze,zf,zg,zc,zb,za,Bool.not_true,Bool.not_false,beq_self_eq_true,bne_self_eq_false]
    refine Want.intro hgl ?_
    simp -implicitDefEqProofs only [go_sem,g,g',ze,zf,zg,zc,zb,za,Bool.not_true,Bool.not_false,beq_self_eq_true,bne_self_eq_false]
    refine Want.intro hHO ?_
    cases e1:eqD root H.dig with
    | false=>
     have e1':=e1
     unfold eqD BD.dig at e1'
     simp -implicitDefEqProofs only [go_sem,e1',ze,zf,zg,zc,zb,za,Bool.not_true,Bool.not_false,beq_self_eq_true,bne_self_eq_false,Bool.false_eq_true]
    | true=>
     have e1':=e1
     unfold eqD BD.dig at e1'
     rcases Nat.eq_zero_or_pos N with y | y
     ·subst y
      cases e2:eqD root root' with
      | false=>
       have e2':=e2
       have e3':=e2
       rw [xN] at e3'
       unfold eqD at e2' e3'
       simp -implicitDefEqProofs only [go_sem,e1',e2',e3',z0,ze,zf,zg,zc,zb,za,Bool.not_true,Bool.not_false,beq_self_eq_true,bne_self_eq_false,Bool.false_eq_true]
      | true=>
       have e2':=e2
       have e3':=e2
       rw [xN] at e3'
       unfold eqD at e2' e3'
       simp -implicitDefEqProofs only [go_sem,e1',e2',e3',z0,ze,zf,zg,zc,zb,za,Bool.not_true,Bool.not_false,beq_self_eq_true,bne_self_eq_false,Bool.false_eq_true]
     ·have y1:((0:Int)==(N:Int))=false:=by rw [beq_eq_false_iff_ne];omega
      have y2:¬((N:Int)=0):=by omega
      simp -implicitDefEqProofs only [go_sem,e1',y1,y2,ze,zf,zg,zc,zb,za,Bool.not_true,Bool.not_false,beq_self_eq_true,bne_self_eq_false,Bool.false_eq_true]
   ·obtain ⟨M,rfl⟩:∃M:Nat,s=M:=⟨s.toNat,by omega⟩
    have hin:=zgQ h
    generalize hG:xW (M:Int) (N:Int)=G at *
    have z':((M:Int)==0)=false:=by rw [beq_eq_false_iff_ne];omega
    have q1:(M:Int)>0:=by omega
    rcases Nat.eq_or_lt_of_le (show M≤N by omega) with e | e
    ·subst e
     have q2:¬((M:Int)<M):=by omega
     simp -implicitDefEqProofs only [go_sem,q1,q2,z',ze,zf,zg,zc,zb,za,Bool.not_true,Bool.not_false,beq_self_eq_true,bne_self_eq_false]
     refine Want.intro hmg ?_
     simp -implicitDefEqProofs only [go_sem,ze,zf,zg,zc,zb,za,Bool.not_true,Bool.not_false,beq_self_eq_true,bne_self_eq_false]
     refine Want.intro hgl ?_
     cases e2:eqD root root' with
     | false=>
      have e2':=e2
      have e3':=e2
      rw [xN] at e3'
      unfold eqD at e2' e3'
      simp -implicitDefEqProofs only [go_sem,g,g',z,z',e2',e3',ze,zf,zg,zc,zb,za,Bool.not_true,Bool.not_false,beq_self_eq_true,bne_self_eq_false,Bool.false_eq_true]
     | true=>
      have e2':=e2
      have e3':=e2
      rw [xN] at e3'
      unfold eqD at e2' e3'
      simp -implicitDefEqProofs only [go_sem,g,g',z,z',e2',e3',ze,zf,zg,zc,zb,za,Bool.not_true,Bool.not_false,beq_self_eq_true,bne_self_eq_false,Bool.false_eq_true]
    ·have q2:(M:Int)<N:=by omega
     have q3:((M:Int)==N)=false:=by rw [beq_eq_false_iff_ne];omega
     have q4:¬((M:Int)=N):=by omega
     have hPg:P.length=(gA M N).length:=by have:=hin (by omega) e;omega
     have hp8:=zpS (M:=M) (by omega)
     have hpl:jn 9 M≤P.length:=by
      rw [hPg,zaV (by omega) e (by omega)]
      unfold gA
      rw [List.length_append]
      omega
     have hpl':(jn 9 M:Int)≤(P.length:Int):=by omega
     simp -implicitDefEqProofs only [go_sem,q1,q2,z',ze,zf,zg,zc,zb,za,Bool.not_true,Bool.not_false,beq_self_eq_true,bne_self_eq_false]
     refine Want.intro hmg ?_
     simp -implicitDefEqProofs only [go_sem,ze,zf,zg,zc,zb,za,Bool.not_true,Bool.not_false,beq_self_eq_true,bne_self_eq_false]
     refine Want.intro hgl ?_
     simp -implicitDefEqProofs only [go_sem,g,g',z,z',q3,q4,ze,zf,zg,zc,zb,za,Bool.not_true,Bool.not_false,beq_self_eq_true,bne_self_eq_false,Bool.false_eq_true]
     refine Want.intro (zrp M (by omega)) ?_
     simp -implicitDefEqProofs only [go_sem,hpl,hpl',Nat.sub_zero]
     refine Want.intro (zmJ (P.take (jn 9 M)) (by rw [List.length_take];omega)) ?_
     generalize xC (P.take (jn 9 M))=X
     cases e4:eqD X.dig root with
     | false=>
      have e4':=e4
      unfold eqD BD.dig at e4'
      simp -implicitDefEqProofs only [go_sem,e4',ze,zf,zg,zc,zb,za,Bool.not_true,Bool.not_false,beq_self_eq_true,bne_self_eq_false,Bool.false_eq_true]
     | true=>
      have e4':=e4
      unfold eqD BD.dig at e4'
      simp -implicitDefEqProofs only [go_sem,e4',q3,ze,zf,zg,zc,zb,za,Bool.not_true,Bool.not_false,beq_self_eq_true,bne_self_eq_false,Bool.false_eq_true]
      first
       | (refine WantM.intro (zmH M N P (by omega) (by omega) hPg) ?_
          simp -implicitDefEqProofs only [go_sem]
          refine WantM.intro (zmI P M N (by omega) e (by omega) hPg) ?_)
       | refine Want.intro (zrc P M N (by omega) e (by omega) hPg) ?_
      generalize jR (mD P M N) M N 0 N=Y
      cases e5:eqD Y.dig root' with
      | false=>
       have e5':=e5
       unfold eqD BD.dig at e5'
       simp -implicitDefEqProofs only [go_sem,e5',ze,zf,zg,zc,zb,za,Bool.not_true,Bool.not_false,beq_self_eq_true,bne_self_eq_false,Bool.false_eq_true]
      | true=>
       have e5':=e5
       unfold eqD BD.dig at e5'
       simp -implicitDefEqProofs only [go_sem,e5',ze,zf,zg,zc,zb,za,Bool.not_true,Bool.not_false,beq_self_eq_true,bne_self_eq_false,Bool.false_eq_true]
  ·have g':((P.length:Int) != xW s N)=true:=by rw [bne_iff_ne];exact g
   rw [if_neg g]
   generalize hG:xW s (N:Int)=G at *
   by_cases q1:s>0<;>by_cases q2:s<N<;>
   ·simp -implicitDefEqProofs only [go_sem,q1,q2,ze,zf,zg,zc,zb,za,Bool.not_true,Bool.not_false,beq_self_eq_true,bne_self_eq_false,Bool.false_eq_true]
    refine Want.intro hmg ?_
    simp -implicitDefEqProofs only [go_sem,ze,zf,zg,zc,zb,za,Bool.not_true,Bool.not_false,beq_self_eq_true,bne_self_eq_false]
    refine Want.intro hgl ?_
    simp -implicitDefEqProofs only [go_sem,g',ze,zf,zg,zc,zb,za,Bool.not_true,Bool.not_false,beq_self_eq_true,bne_self_eq_false]
theorem c14_c (o p:MPt) (P:List BD):CallR Tryz.prog 14 [.agg o.cs,.agg p.cs,.ro 4 (P.map BD.cs)] (vI (mGC o p P)) []:=by
 refine zj dcKC false Tryz.f14 ?_
 conv=>enter [1];reduce
 refine jvR Tryz.f14 57 [.tmp 6] (by kernel_rfl) (by decide +kernel) rfl ?_
 unfold mGC
 have hmg:=zoo o.size p.size
 try rw [wo] at hmg
 cases h:jS o.size p.size with
 | false=>
  rw [h] at hmg
  by_cases q1:o.size>0<;>by_cases q2:o.size<p.size<;>
  ·simp -implicitDefEqProofs only [go_sem,q1,q2,ze,zf,zg,zc,zb,za,Bool.not_true,Bool.not_false,beq_self_eq_true,bne_self_eq_false,Bool.false_eq_true]
   refine Want.intro hmg ?_
   simp -implicitDefEqProofs only [go_sem,ze,zf,zg,zc,zb,za,Bool.not_true,Bool.not_false,beq_self_eq_true,bne_self_eq_false]
 | true=>
  rw [h] at hmg
  obtain ⟨hn,hm⟩:=xD h
  obtain ⟨s,root⟩:=o
  obtain ⟨t,root'⟩:=p
  simp only at h hmg hn hm ⊢
  obtain ⟨N,rfl⟩:∃N:Nat,t=N:=⟨t.toNat,by omega⟩
  have hgl:=c57_c s (N:Int)
  by_cases g:(P.length:Int)=xW s N
  ·have g':((P.length:Int) != xW s N)=false:=by rw [bne_eq_false_iff_eq];exact g
   by_cases z:s=0
   ·subst z
    generalize hG:xW 0 (N:Int)=G at *
    have hHO:=zeX ⟨#[]⟩ (by decide)
    have eHO:zG (⟨#[]⟩:ByteArray).data.toList=zG []:=rfl
    rw [eHO] at hHO
    generalize zG []=H at *
    have q1:¬((0:Int)>0):=by decide
    simp -implicitDefEqProofs only [go_sem,q1,ze,zf,zg,zc,zb,za,Bool.not_true,Bool.not_false,beq_self_eq_true,bne_self_eq_false]
    refine Want.intro hmg ?_
    simp -implicitDefEqProofs only [go_sem,ze,zf,zg,zc,zb,za,Bool.not_true,Bool.not_false,beq_self_eq_true,bne_self_eq_false]
    refine Want.intro hgl ?_
    simp -implicitDefEqProofs only [go_sem,g,g',ze,zf,zg,zc,zb,za,Bool.not_true,Bool.not_false,beq_self_eq_true,bne_self_eq_false]
    refine Want.intro hHO ?_
    cases e1:eqD root H.dig with
    | false=>
     have e1':=e1
     unfold eqD BD.dig at e1'
     simp -implicitDefEqProofs only [go_sem,e1',ze,zf,zg,zc,zb,za,Bool.not_true,Bool.not_false,beq_self_eq_true,bne_self_eq_false,Bool.false_eq_true]
    | true=>
     have e1':=e1
     unfold eqD BD.dig at e1'
     rcases Nat.eq_zero_or_pos N with y | y
     ·subst y
      cases e2:eqD root root' with
      | false=>
       have e2':=e2
       have e3':=e2
       rw [xN] at e3'
       unfold eqD at e2' e3'
       simp -implicitDefEqProofs only [go_sem,e1',e2',e3',z0,ze,zf,zg,zc,zb,za,Bool.not_true,Bool.not_false,beq_self_eq_true,bne_self_eq_false,Bool.false_eq_true]
      | true=>
       have e2':=e2
       have e3':=e2
       rw [xN] at e3'
       unfold eqD at e2' e3'
       simp -implicitDefEqProofs only [go_sem,e1',e2',e3',z0,ze,zf,zg,zc,zb,za,Bool.not_true,Bool.not_false,beq_self_eq_true,bne_self_eq_false,Bool.false_eq_true]
     ·have y1:((0:Int)==(N:Int))=false:=by rw [beq_eq_false_iff_ne];omega
      have y2:¬((N:Int)=0):=by omega
      simp -implicitDefEqProofs only [go_sem,e1',y1,y2,ze,zf,zg,zc,zb,za,Bool.not_true,Bool.not_false,beq_self_eq_true,bne_self_eq_false,Bool.false_eq_true]
   ·obtain ⟨M,rfl⟩:∃M:Nat,s=M:=⟨s.toNat,by omega⟩
    have hin:=zgQ h
    generalize hG:xW (M:Int) (N:Int)=G at *
    have z':((M:Int)==0)=false:=by rw [beq_eq_false_iff_ne];omega
    have q1:(M:Int)>0:=by omega
    rcases Nat.eq_or_lt_of_le (show M≤N by omega) with e | e
    ·subst e
     have q2:¬((M:Int)<M):=by omega
     simp -implicitDefEqProofs only [go_sem,q1,q2,z',ze,zf,zg,zc,zb,za,Bool.not_true,Bool.not_false,beq_self_eq_true,bne_self_eq_false]
     refine Want.intro hmg ?_
     simp -implicitDefEqProofs only [go_sem,ze,zf,zg,zc,zb,za,Bool.not_true,Bool.not_false,beq_self_eq_true,bne_self_eq_false]
     refine Want.intro hgl ?_
     cases e2:eqD root root' with
     | false=>
      have e2':=e2
      have e3':=e2
      rw [xN] at e3'
      unfold eqD at e2' e3'
      simp -implicitDefEqProofs only [go_sem,g,g',z,z',e2',e3',ze,zf,zg,zc,zb,za,Bool.not_true,Bool.not_false,beq_self_eq_true,bne_self_eq_false,Bool.false_eq_true]
     | true=>
      have e2':=e2
      have e3':=e2
      rw [xN] at e3'
      unfold eqD at e2' e3'
      simp -implicitDefEqProofs only [go_sem,g,g',z,z',e2',e3',ze,zf,zg,zc,zb,za,Bool.not_true,Bool.not_false,beq_self_eq_true,bne_self_eq_false,Bool.false_eq_true]
    ·have q2:(M:Int)<N:=by omega
     have q3:((M:Int)==N)=false:=by rw [beq_eq_false_iff_ne];omega
     have q4:¬((M:Int)=N):=by omega
     have hPg:P.length=(gA M N).length:=by have:=hin (by omega) e;omega
     have hp8:=zpS (M:=M) (by omega)
     have hpl:jn 9 M≤P.length:=by
      rw [hPg,zaV (by omega) e (by omega)]
      unfold gA
      rw [List.length_append]
      omega
     have hpl':(jn 9 M:Int)≤(P.length:Int):=by omega
     simp -implicitDefEqProofs only [go_sem,q1,q2,z',ze,zf,zg,zc,zb,za,Bool.not_true,Bool.not_false,beq_self_eq_true,bne_self_eq_false]
     refine Want.intro hmg ?_
     simp -implicitDefEqProofs only [go_sem,ze,zf,zg,zc,zb,za,Bool.not_true,Bool.not_false,beq_self_eq_true,bne_self_eq_false]
     refine Want.intro hgl ?_
     simp -implicitDefEqProofs only [go_sem,g,g',z,z',q3,q4,ze,zf,zg,zc,zb,za,Bool.not_true,Bool.not_false,beq_self_eq_true,bne_self_eq_false,Bool.false_eq_true]
     refine Want.intro (zon M (by omega)) ?_
     simp -implicitDefEqProofs only [go_sem,hpl,hpl',Nat.sub_zero]
     refine Want.intro (c58_c (P.take (jn 9 M)) (by rw [List.length_take];omega)) ?_
     generalize xC (P.take (jn 9 M))=X
     cases e4:eqD X.dig root with
     | false=>
      have e4':=e4
      unfold eqD BD.dig at e4'
      simp -implicitDefEqProofs only [go_sem,e4',ze,zf,zg,zc,zb,za,Bool.not_true,Bool.not_false,beq_self_eq_true,bne_self_eq_false,Bool.false_eq_true]
     | true=>
      have e4':=e4
      unfold eqD BD.dig at e4'
      simp -implicitDefEqProofs only [go_sem,e4',q3,ze,zf,zg,zc,zb,za,Bool.not_true,Bool.not_false,beq_self_eq_true,bne_self_eq_false,Bool.false_eq_true]
      first
       | (refine WantM.intro (zmH M N P (by omega) (by omega) hPg) ?_
          simp -implicitDefEqProofs only [go_sem]
          refine WantM.intro (zmI P M N (by omega) e (by omega) hPg) ?_)
       | refine Want.intro (zrc P M N (by omega) e (by omega) hPg) ?_
      generalize jR (mD P M N) M N 0 N=Y
      cases e5:eqD Y.dig root' with
      | false=>
       have e5':=e5
       unfold eqD BD.dig at e5'
       simp -implicitDefEqProofs only [go_sem,e5',ze,zf,zg,zc,zb,za,Bool.not_true,Bool.not_false,beq_self_eq_true,bne_self_eq_false,Bool.false_eq_true]
      | true=>
       have e5':=e5
       unfold eqD BD.dig at e5'
       simp -implicitDefEqProofs only [go_sem,e5',ze,zf,zg,zc,zb,za,Bool.not_true,Bool.not_false,beq_self_eq_true,bne_self_eq_false,Bool.false_eq_true]
  ·have g':((P.length:Int) != xW s N)=true:=by rw [bne_iff_ne];exact g
   rw [if_neg g]
   generalize hG:xW s (N:Int)=G at *
   by_cases q1:s>0<;>by_cases q2:s<N<;>
   ·simp -implicitDefEqProofs only [go_sem,q1,q2,ze,zf,zg,zc,zb,za,Bool.not_true,Bool.not_false,beq_self_eq_true,bne_self_eq_false,Bool.false_eq_true]
    refine Want.intro hmg ?_
    simp -implicitDefEqProofs only [go_sem,ze,zf,zg,zc,zb,za,Bool.not_true,Bool.not_false,beq_self_eq_true,bne_self_eq_false]
    refine Want.intro hgl ?_
    simp -implicitDefEqProofs only [go_sem,g',ze,zf,zg,zc,zb,za,Bool.not_true,Bool.not_false,beq_self_eq_true,bne_self_eq_false]
end Go.Proofs.YtpjpkmhaffmbmaaGreat.E
end
section
namespace Go.Proofs.YtpjpkmhaffmbmaaGreat.E
open Go Go.RowKit
set_option linter.unusedVariables false
set_option linter.unusedSimpArgs false
theorem zna {m:MMsg} (h:WOk m):1≤(wbL m).length∧(wbL m).length≤600:=by
 have h1:=wG m.proof
 have h2:=jp m.leaves h.lo
 have h3:=h.p
 have h4:=h.l
 unfold wbL
 repeat' split
 all_goals simp only [bK,bS,bF,bZ,bC,bP,bL_,zP,xi,List.length_append]
 all_goals omega
def nv (l:List UInt8):Nat:=l.foldl (fun a b=>a * 256+b.toNat) 0
theorem zbt (l:List UInt8) (b:UInt8):nv (l++[b])=nv l * 256+b.toNat:=by simp [nv]
theorem zcJ:∀(n v:Nat),v<256 ^ n→nv (low v n)=v
 | 0,v,h=>by
  have:v=0:=by simpa using h
  subst this
  rfl
 | n+1,v,h=>by
  rw [zaZ,zbt,zcJ n (v/256) (by rw [Nat.pow_succ] at h;exact Nat.div_lt_of_lt_mul (by rw [Nat.mul_comm];exact h))]
  have:(UInt8.ofNat (v%256)).toNat=v%256:=by simp
  rw [this]
  omega
theorem zcS:∀(n:Nat) (l:List UInt8),l.length=n→low (nv l) n=l
 | 0,l,h=>by
  have:=List.eq_nil_of_length_eq_zero h
  subst this
  rfl
 | n+1,l,h=>by
  have hne:l≠[]:=by intro e;subst e;simp at h
  obtain ⟨l',b,rfl⟩:∃l' b,l=l'++[b]:=⟨l.dropLast,l.getLast hne,(List.dropLast_concat_getLast hne).symm⟩
  have h':l'.length=n:=by simpa using h
  have hb:b.toNat<256:=b.toNat_lt
  rw [zaZ,zbt,show (nv l' * 256+b.toNat)/256=nv l' by omega,show (nv l' * 256+b.toNat)%256=b.toNat by omega,zcS n l' h']
  simp
theorem nv_lt (l:List UInt8):nv l<256 ^ l.length:=by
 suffices ∀n (l:List UInt8),l.length=n→nv l<256 ^ n from this _ l rfl
 intro n
 induction n with
 | zero=>intro l h;have:=List.eq_nil_of_length_eq_zero h;subst this;simp [nv]
 | succ n ih=>
  intro l h
  have hne:l≠[]:=by intro e;subst e;simp at h
  obtain ⟨l',b,rfl⟩:∃l' b,l=l'++[b]:=⟨l.dropLast,l.getLast hne,(List.dropLast_concat_getLast hne).symm⟩
  have:=ih l' (by simpa using h)
  have hb:b.toNat<256:=b.toNat_lt
  rw [zbt,Nat.pow_succ]
  omega
theorem zoD (l:List UInt8) (i:Nat):bN (bA l) i=bL l i:=by
 have:=zoC (bA l) 0 i
 rw [Nat.zero_add,List.drop_zero,xH] at this
 exact this
theorem znv (l:List UInt8) (k:Nat) (h:k≤l.length):zcj (bA l) k=nv (l.take k):=by
 induction k with
 | zero=>rfl
 | succ k ih=>
  rw [zcj,ih (by omega),List.take_succ_eq_append_getElem (show k<l.length by omega),zbt,zoD]
  have:bL l k=l[k].toNat:=by simp [bL,show k<l.length by omega]
  rw [this,Nat.mul_comm]
theorem zh3 (l:List UInt8) (a b:Nat):(bA l).extract a b=bA ((l.drop a).take (b - a)):=zda (by rw [xH,ByteArray.data_extract];simp [bA])
def rd (T:List UInt8) (p:Nat):MRd:=⟨bA T,p,0,0⟩
theorem zgC (T:List UInt8) (p n:Nat):xJ (rd T p) n=if p+n>T.length then (⟨#[]⟩,⟨bA T,p,2,(T.length:Int)⟩) else (bA ((T.drop p).take n),rd T (p+n)):=by
 unfold xJ rd
 rw [if_pos rfl]
 simp only [zQ]
 split
 ·rfl
 ·rw [zh3,show p+n - p=n by omega]
theorem wS {r:MRd} (h:r.code≠0) (n:Nat):xJ r n=(⟨#[]⟩,r):=by unfold xJ;rw [if_neg h]
theorem zmn {T:List UInt8} {p n:Nat} {lo hi:Int} (h:p+n≤T.length):yl (rd T p) n lo hi=if mIn (nv ((T.drop p).take n)) lo hi then ((nv ((T.drop p).take n):Int),rd T (p+n)) else (0,⟨bA T,p+n,3,(p:Int)⟩):=by
 have hl:((T.drop p).take n).length=n:=by simp;omega
 have hn:=znv ((T.drop p).take n) n (by omega)
 rw [List.take_of_length_le (show ((T.drop p).take n).length≤n by omega)] at hn
 unfold yl
 rw [zgC,if_neg (show ¬p+n>T.length by omega)]
 simp only [zQ,hl,hn]
 rw [if_pos (show (rd T (p+n)).code=0 from rfl)]
 rfl
theorem zfM {r:MRd} (h:r.code≠0) (n:Nat) (lo hi:Int):yl r n lo hi=(0,r):=by
 unfold yl
 rw [wS h]
 exact if_neg h
theorem zmm {T:List UInt8} {p n:Nat} {lo hi:Int} (h:p+n>T.length):yl (rd T p) n lo hi=(0,⟨bA T,p,2,(T.length:Int)⟩):=by
 unfold yl
 rw [zgC,if_pos h]
 exact if_neg (show ¬(2:Int)=0 by decide)
def Sh (T:List UInt8) (r:MRd):Prop:=r.code=2∧r.at_=T.length
def P1 (T:List UInt8) (N:Nat) (R:List UInt8) (r:MRd):Prop:=∃p S,r=rd T p∧p≤T.length∧R=T.drop p++S∧p+R.length=N
theorem zgx {T w R S:List UInt8} {p:Nat} (h:w++R=T.drop p++S) (hle:p+w.length≤T.length):(T.drop p).take w.length=w∧R=T.drop (p+w.length)++S:=by
 have hl:w.length≤(T.drop p).length:=by simp;omega
 have h1:=congrArg (List.take w.length) h
 have h2:=congrArg (List.drop w.length) h
 rw [List.take_left,List.take_append_of_le_length hl] at h1
 rw [List.drop_left,List.drop_append_of_le_length hl,List.drop_drop] at h2
 exact ⟨h1.symm,h2⟩
def RdS {α:Type} (f:MRd→α × MRd) (w:List UInt8) (a:α):Prop:=
 (∀T N R r,P1 T N (w++R) r→(P1 T N R (f r).2∧(f r).1=a)∨(Sh T (f r).2∧T.length<N))∧∀T r,Sh T r→Sh T (f r).2
theorem Sh.ne {T:List UInt8} {r:MRd} (h:Sh T r):r.code≠0:=by rw [h.1];decide
theorem ziX (w:List UInt8) (n:Nat) (hn:n=w.length):RdS (fun r=>xJ r n) w (bA w):=by
 subst hn
 refine ⟨?_,fun T r h=>by simp only [wS h.ne];exact h⟩
 rintro T N R r ⟨p,S,rfl,hp,hR,hN⟩
 simp only [zgC]
 rw [List.length_append] at hN
 split
 ·exact .inr ⟨⟨rfl,rfl⟩,by omega⟩
 ·obtain ⟨h1,h2⟩:=zgx hR (by omega)
  exact .inl ⟨⟨p+w.length,S,rfl,by omega,h2,by omega⟩,by simp only [h1]⟩
theorem jN (n v:Nat) (lo hi:Int) (hv:v<256 ^ n) (hin:mIn v lo hi=true):RdS (fun r=>yl r n lo hi) (low v n) (v:Int):=by
 refine ⟨?_,fun T r h=>by simp only [zfM h.ne];exact h⟩
 rintro T N R r ⟨p,S,rfl,hp,hR,hN⟩
 rw [List.length_append,zP] at hN
 rcases Nat.lt_or_ge T.length (p+n) with hlt | hge
 ·simp only [zmm (show p+n>T.length from hlt)]
  exact .inr ⟨⟨rfl,rfl⟩,by omega⟩
 ·obtain ⟨h1,h2⟩:=zgx hR (by rw [zP];omega)
  rw [zP] at h1 h2
  simp only [zmn hge,h1,zcJ n v hv,hin,if_true]
  exact .inl ⟨⟨p+n,S,rfl,by omega,h2,by omega⟩,trivial⟩
theorem RdS.bind {α β:Type} {f:MRd→α × MRd} {g:α→MRd→β × MRd} {w w':List UInt8} {a:α} {b:β} (hf:RdS f w a) (hg:RdS (g a) w' b) (hst:∀a' T r,Sh T r→Sh T (g a' r).2):RdS (fun r=>g (f r).1 (f r).2) (w++w') b:=by
 refine ⟨fun T N R r h=>?_,fun T r h=>hst _ _ _ (hf.2 T r h)⟩
 rw [List.append_assoc] at h
 rcases hf.1 T N _ r h with ⟨h1,h2⟩ | ⟨h1,h2⟩
 ·simp only [h2]
  exact hg.1 T N R _ h1
 ·exact .inr ⟨hst _ _ _ h1,h2⟩
theorem qf:∀(k:Nat) (l:List UInt8),k≤l.length→xS l k=nv (l.take k)
 | 0,l,h=>rfl
 | k+1,l,h=>by
  rw [xS,qf k l (by omega),List.take_succ_eq_append_getElem (show k<l.length by omega),zbt]
  have:bL l k=l[k].toNat:=by simp [bL,show k<l.length by omega]
  rw [this]
theorem zoa (d:MDig) (h:d.ok):zic d.bl=d:=by
 have e:d.bl=low d.a 8++(low d.b 8++(low d.c 8++low d.d 8)):=by simp [MDig.bl,MDig.bk]
 have l8:=low8
 obtain ⟨a,b,c,dd⟩:=d
 obtain ⟨ha,hb,hc,hd⟩:=h
 simp only at *
 unfold zic
 rw [e]
 rw [qf 8 _ (by simp [l8]),qf 8 _ (by simp [l8]),qf 8 _ (by simp [l8]),qf 8 _ (by simp [l8])]
 have d8:∀(x:Nat) (l:List UInt8),(low x 8++l).drop 8=l:=fun x l=>List.drop_left' (l8 x)
 have t8:∀(x:Nat) (l:List UInt8),(low x 8++l).take 8=low x 8:=fun x l=>List.take_left' (l8 x)
 have d16:∀(l:List UInt8),l.drop 16=(l.drop 8).drop 8:=fun l=>by rw [List.drop_drop]
 have d24:∀(l:List UInt8),l.drop 24=((l.drop 8).drop 8).drop 8:=fun l=>by rw [List.drop_drop,List.drop_drop]
 rw [d16,d24,d8,d8,d8,t8,t8,t8,List.take_of_length_le (by rw [l8];omega)]
 have p8:(256:Nat) ^ 8=18446744073709551616:=by decide
 rw [zcJ 8 a (by omega),zcJ 8 b (by omega),zcJ 8 c (by omega),zcJ 8 dd (by omega)]
theorem ziY (d:MDig) (h:d.ok):RdS xE d.bl d:=by
 have:=ziX d.bl 32 (xi d).symm
 refine ⟨fun T N R r hr=>?_,fun T r hs=>this.2 T r hs⟩
 rcases this.1 T N R r hr with ⟨h1,h2⟩ | h1
 ·refine .inl ⟨h1,?_⟩
  simp only at h2
  unfold xE
  rw [h2]
  unfold yB
  rw [zQ,xi,if_pos rfl,xH]
  exact zoa d h
 ·exact .inr h1
theorem ziC (T:List UInt8) (r:MRd) (h:Sh T r):Sh T (zaO r).2:=by
 unfold zaO
 rw [zfM h.ne]
 simp only [wS h.ne]
 exact h
theorem zld (s:ByteArray) (h:s.size≤40):RdS zaO (zad s) s:=by
 have h1:=jN 1 s.size 0 40 (by omega) (by simp [mIn];omega)
 have h2:=ziX s.data.toList ((s.size:Int).toNat) (by rw [Array.length_toList];rfl)
 have:=RdS.bind (g:=fun v r=>xJ r v.toNat) h1 h2 (fun a' T r h=>by simp only [wS h.ne];exact h)
 rw [←zl1 s] at this
 exact this
theorem zgA:∀(n:Nat) (l:List MDig),l.length=n→(∀d∈l,d.ok)→RdS (yI n) (xG l) l
 | 0,l,h,_=>by
  have:=List.eq_nil_of_length_eq_zero h
  subst this
  exact ⟨fun T N R r hr=>.inl ⟨hr,rfl⟩,fun T r hs=>hs⟩
 | n+1,l,h,hd=>by
  have hne:l≠[]:=by intro e;subst e;simp at h
  obtain ⟨l',d,rfl⟩:∃l' b,l=l'++[b]:=⟨l.dropLast,l.getLast hne,(List.dropLast_concat_getLast hne).symm⟩
  have ih:=zgA n l' (by simpa using h) (fun x hx=>hd x (by simp [hx]))
  have h1:=ziY d (hd d (by simp))
  have:=RdS.bind (g:=fun (v:List MDig) r=>(v++[(xE r).1],(xE r).2)) (b:=l'++[d]) ih (w':=d.bl) ⟨fun T N R r hr=>by
   rcases h1.1 T N R r hr with ⟨k1,k2⟩ | k
   ·exact .inl ⟨k1,by simp only [k2]⟩
   ·exact .inr k,fun T r hs=>h1.2 T r hs⟩ (fun a' T r hs=>h1.2 T r hs)
  have e:xG (l'++[d])=xG l'++d.bl:=by simp [xG]
  rw [e]
  exact this
theorem zei:∀(n:Nat) (l:List ByteArray),l.length=n→zq l=true→RdS (zK n) (yo l) l
 | 0,l,h,_=>by
  have:=List.eq_nil_of_length_eq_zero h
  subst this
  exact ⟨fun T N R r hr=>.inl ⟨hr,rfl⟩,fun T r hs=>hs⟩
 | n+1,l,h,hd=>by
  have hne:l≠[]:=by intro e;subst e;simp at h
  obtain ⟨l',d,rfl⟩:∃l' b,l=l'++[b]:=⟨l.dropLast,l.getLast hne,(List.dropLast_concat_getLast hne).symm⟩
  simp only [zq,List.all_append,List.all_cons,List.all_nil,Bool.and_true,Bool.and_eq_true,decide_eq_true_eq] at hd
  have ih:=zei n l' (by simpa using h) hd.1
  have h1:=zld d hd.2
  have:=RdS.bind (g:=fun (v:List ByteArray) r=>(v++[(zaO r).1],(zaO r).2)) (b:=l'++[d]) ih (w':=zad d) ⟨fun T N R r hr=>by
   rcases h1.1 T N R r hr with ⟨k1,k2⟩ | k
   ·exact .inl ⟨k1,by simp only [k2]⟩
   ·exact .inr k,fun T r hs=>h1.2 T r hs⟩ (fun a' T r hs=>h1.2 T r hs)
  have e:yo (l'++[d])=yo l'++zad d:=by simp [yo]
  rw [e]
  exact this
end Go.Proofs.YtpjpkmhaffmbmaaGreat.E
end
section
namespace Go.Proofs.YtpjpkmhaffmbmaaGreat.E
open Go Go.RowKit
set_option linter.unusedVariables false
set_option linter.unusedSimpArgs false
def sw (x:MRd × MMsg):MMsg × MRd:=(x.2,x.1)
def RdP (p:MRd × MMsg→MRd × MMsg) (w:List UInt8) (u:MMsg→MMsg):Prop:=∀m0,RdS (fun r=>sw (p (r,m0))) w (u m0)
theorem RdP.seq {p q:MRd × MMsg→MRd × MMsg} {w w':List UInt8} {u u':MMsg→MMsg} (h:RdP p w u) (k:RdP q w' u'):RdP (fun x=>q (p x)) (w++w') (fun m=>u' (u m)):=by
 intro m0
 exact RdS.bind (g:=fun m r=>sw (q (r,m))) (h m0) (k (u m0)) (fun a' T r hs=>(k a').2 T r hs)
theorem RdP.of {α:Type} {f:MRd→α × MRd} {w:List UInt8} {a:α} (h:RdS f w a) (u:α→MMsg→MMsg):RdP (fun x=>((f x.1).2,u (f x.1).1 x.2)) w (u a):=by
 intro m0
 refine ⟨fun T N R r hr=>?_,fun T r hs=>h.2 T r hs⟩
 rcases h.1 T N R r hr with ⟨h1,h2⟩ | h1
 ·exact .inl ⟨h1,by simp only [sw,h2]⟩
 ·exact .inr h1
theorem tn {v:Int} (h:0≤v):((v.toNat:Nat):Int)=v:=Int.toNat_of_nonneg h
theorem zle {v:Int} (h:1≤v∧v≤1000000):RdP pS (low v.toNat 3) (fun m=>{m with session:=v}):=by
 have:=RdP.of (jN 3 v.toNat 1 1000000 (by omega) (by rw [tn (by omega)];simp [mIn,h.1,h.2])) (fun v m=>{m with session:=v})
 rw [tn (by omega)] at this
 exact this
theorem zlf {v:Int} (h:0≤v∧v≤256):RdP pF (low v.toNat 2) (fun m=>{m with from_:=v}):=by
 have:=RdP.of (jN 2 v.toNat 0 256 (by omega) (by rw [tn (by omega)];simp [mIn,h.1,h.2])) (fun v m=>{m with from_:=v})
 rw [tn (by omega)] at this
 exact this
theorem ziZ {v:Int} (h:0≤v∧v≤256):RdP pZ (low v.toNat 2) (fun m=>{m with size:=v}):=by
 have:=RdP.of (jN 2 v.toNat 0 256 (by omega) (by rw [tn (by omega)];simp [mIn,h.1,h.2])) (fun v m=>{m with size:=v})
 rw [tn (by omega)] at this
 exact this
theorem rdP_C {v:Int} (h:1≤v∧v≤8):RdP pC (low v.toNat 1) (fun m=>{m with count:=v}):=by
 have:=RdP.of (jN 1 v.toNat 1 8 (by omega) (by rw [tn (by omega)];simp [mIn,h.1,h.2])) (fun v m=>{m with count:=v})
 rw [tn (by omega)] at this
 exact this
theorem znj {d:MDig} (h:d.ok):RdP pR d.bl (fun m=>{m with root:=d}):=RdP.of (ziY d h) (fun v m=>{m with root:=v})
theorem ziD (n:Nat) (T:List UInt8) (r:MRd) (h:Sh T r):Sh T (yI n r).2:=by
 induction n with
 | zero=>exact h
 | succ n ih=>
  show Sh T (xJ (yI n r).2 32).2
  rw [wS ih.ne]
  exact ih
theorem zhu (n:Nat) (T:List UInt8) (r:MRd) (h:Sh T r):Sh T (zK n r).2:=by
 induction n with
 | zero=>exact h
 | succ n ih=>exact ziC T _ ih
theorem rdP_P {l:List MDig} (h:l.length≤16) (hd:∀d∈l,d.ok):RdP pP (low l.length 1++xG l) (fun m=>{m with proof:=l}):=by
 have h1:=jN 1 l.length 0 16 (by omega) (by simp [mIn];omega)
 exact RdP.of (RdS.bind (g:=fun v r=>yI v.toNat r) h1 (zgA _ l rfl hd) (fun a' T r hs=>ziD _ T r hs)) (fun v m=>{m with proof:=v})
theorem rdP_L {l:List ByteArray} (h:l.length≤8) (hd:zq l=true):RdP pL (low l.length 1++yo l) (fun m=>{m with leaves:=l}):=by
 have h1:=jN 1 l.length 0 8 (by omega) (by simp [mIn];omega)
 exact RdP.of (RdS.bind (g:=fun v r=>zK v.toNat r) h1 (zei _ l rfl hd) (fun a' T r hs=>zhu _ T r hs)) (fun v m=>{m with leaves:=v})
def wbT (m:MMsg):List UInt8:=(wbL m).drop 1
theorem zaT {m:MMsg} (h:mIn m.kind 1 8=true):wbL m=UInt8.ofNat m.kind.toNat::wbT m∧(UInt8.ofNat m.kind.toNat).toNat=m.kind.toNat:=by
 have hk:1≤m.kind∧m.kind≤8:=by simpa [mIn] using h
 have e:low m.kind.toNat 1=[UInt8.ofNat m.kind.toNat]:=by
  simp only [low,Nat.pow_zero,Nat.div_one]
  rw [Nat.mod_eq_of_lt (by omega)]
 refine ⟨?_,by simp;omega⟩
 unfold wbT wbL bK
 rw [e]
 repeat' split
 all_goals rfl
theorem zob {d:MDig} (h:qS d dig0=true):d=dig0:=by
 obtain ⟨a,b,c,e⟩:=d
 simp only [qS,dig0,Bool.and_eq_true,Bool.not_eq_true',bne_eq_false_iff_eq] at h
 unfold dig0
 congr 1<;>omega
theorem zhA (m:MMsg) (hok:zy m=true) (hr:m.root.ok) (hd:∀d∈m.proof,d.ok):RdS (fun r=>sw (xo m.kind.toNat (r,{MMsg.zero with kind:=m.kind}))) (wbT m) m:=by
 obtain ⟨k,se,fr,si,ro,co,pr,le⟩:=m
 have hk:=WOk.of hok
 simp only [zy,Bool.and_eq_true] at hok
 obtain ⟨h0,hs,hf,hz,hR,hc,hp,hl,hlo⟩:=hok
 simp only at h0 hs hf hz hR hc hp hl hlo hr hd
 rcases zjM k with rfl | rfl | rfl | rfl | rfl | rfl | rfl | rfl | ⟨h1,h2,h3,h4,h5,h6,h7,h8⟩
 case inr.inr.inr.inr.inr.inr.inr.inr=>simp [mIn] at h0;omega
 all_goals simp only [zcq,xK,if_true,if_false,Bool.false_eq_true,beq_iff_eq,Bool.false_or,Bool.true_or,mIn,Bool.and_eq_true,decide_eq_true_eq] at hs hf hz hR hc hp hl
 all_goals first | (have hro:=zob hR;subst hro) | skip
 all_goals subst_vars
 all_goals first | (have hpr:pr=[]:=List.eq_nil_of_length_eq_zero (by omega);subst hpr) | skip
 all_goals first | (have hle:le=[]:=List.eq_nil_of_length_eq_zero (by omega);subst hle) | skip
 ·exact zle hs _
 ·exact ((zle hs).seq ((ziZ hz).seq (znj hr))) _
 ·exact ((zle hs).seq ((ziZ hz).seq (znj hr))) _
 ·exact ((zlf hf).seq (ziZ hz)) _
 ·exact ((zlf hf).seq ((ziZ hz).seq (rdP_P (by omega) hd))) _
 ·exact ((zle hs).seq ((ziZ hz).seq (znj hr))) _
 ·exact ((zlf hf).seq (rdP_C hc)) _
 ·exact ((zlf hf).seq (rdP_L (by omega) hlo)) _
theorem zdf (m:MMsg) (hok:zy m=true) (hr:m.root.ok) (hd:∀d∈m.proof,d.ok) (T' X S:List UInt8) (h:wbT m++X=T'++S):
  ∃x,zl (bA (UInt8.ofNat m.kind.toNat::T'))=xk (bA (UInt8.ofNat m.kind.toNat::T')) x∧((P1 (UInt8.ofNat m.kind.toNat::T') ((wbL m).length+X.length) X x.1∧x.2=m)∨(Sh (UInt8.ofNat m.kind.toNat::T') x.1∧T'.length+1<(wbL m).length+X.length)):=by
 have hk:=WOk.of hok
 obtain ⟨hw,hu⟩:=zaT hk.k
 have hk8:1≤m.kind∧m.kind≤8:=by have:=hk.k;simpa [mIn] using this
 have hb:bN (bA (UInt8.ofNat m.kind.toNat::T')) 0=m.kind.toNat:=by
  rw [zoD]
  exact hu
 refine ⟨xo m.kind.toNat (rd (UInt8.ofNat m.kind.toNat::T') 1,{MMsg.zero with kind:=m.kind}),?_,?_⟩
 ·unfold zl
  rw [if_neg (by rw [zQ];simp),hb,if_pos (by omega),Int.toNat_of_nonneg (by omega)]
  rfl
 ·have hP:P1 (UInt8.ofNat m.kind.toNat::T') ((wbL m).length+X.length) (wbT m++X) (rd (UInt8.ofNat m.kind.toNat::T') 1):=by
   refine ⟨1,S,rfl,by simp,h,?_⟩
   rw [hw]
   simp only [List.length_append,List.length_cons]
   omega
  rcases (zhA m hok hr hd).1 _ _ X _ hP with h1 | h1
  ·exact .inl h1
  ·refine .inr ⟨h1.1,?_⟩
   have:=h1.2
   simpa using this
theorem zil {m:MMsg} (hok:zy m=true) (hr:m.root.ok) (hd:∀d∈m.proof,d.ok):zl (bA (wbL m))=(m,0,0):=by
 obtain ⟨hw,hu⟩:=zaT (WOk.of hok).k
 obtain ⟨⟨r,m'⟩,h1,h2⟩:=zdf m hok hr hd (wbT m) [] [] rfl
 rw [←hw] at h1 h2
 rw [h1]
 have hl:(wbL m).length=(wbT m).length+1:=by rw [hw];rfl
 rcases h2 with ⟨⟨p,S,rfl,hp,hR,hN⟩,hm⟩ | ⟨_,h2⟩
 ·obtain rfl:m'=m:=hm
  have hpe:p=(wbL m').length:=by simpa using hN
  unfold xk rd
  rw [if_pos rfl,if_neg (by rw [zQ];simp only;omega)]
 ·simp at h2
  omega
theorem zpD {m:MMsg} (hok:zy m=true) (hr:m.root.ok) (hd:∀d∈m.proof,d.ok) (c:UInt8):zl (bA (wbL m++[c]))=(.zero,4,((wbL m).length:Int)):=by
 obtain ⟨hw,hu⟩:=zaT (WOk.of hok).k
 obtain ⟨⟨r,m'⟩,h1,h2⟩:=zdf m hok hr hd (wbT m++[c]) [c] [] (by simp)
 have e:UInt8.ofNat m.kind.toNat::(wbT m++[c])=wbL m++[c]:=by rw [hw];rfl
 rw [e] at h1 h2
 rw [h1]
 have hl:(wbL m).length=(wbT m).length+1:=by rw [hw];rfl
 rcases h2 with ⟨⟨p,S,rfl,hp,hR,hN⟩,hm⟩ | ⟨_,h2⟩
 ·obtain rfl:m'=m:=hm
  have hpe:p=(wbL m').length:=by simpa using hN
  unfold xk rd
  rw [if_pos rfl,if_pos (by rw [zQ];simp;omega)]
  simp only [hpe]
 ·simp at h2
  omega
theorem wire_cut {m:MMsg} (hok:zy m=true) (hr:m.root.ok) (hd:∀d∈m.proof,d.ok) {k:Nat} (hk:k<(wbL m).length):zl (bA ((wbL m).take k))=(.zero,2,(k:Int)):=by
 obtain ⟨hw,hu⟩:=zaT (WOk.of hok).k
 cases k with
 | zero=>rfl
 | succ k=>
  obtain ⟨⟨r,m'⟩,h1,h2⟩:=zdf m hok hr hd ((wbT m).take k) [] ((wbT m).drop k) (by simp)
  have e:UInt8.ofNat m.kind.toNat::(wbT m).take k=(wbL m).take (k+1):=by rw [hw];rfl
  have hl:((wbL m).take (k+1)).length=k+1:=by simp;omega
  rw [e] at h1 h2
  rw [h1]
  rcases h2 with ⟨⟨p,S,rfl,hp,hR,hN⟩,hm⟩ | ⟨⟨h2,h3⟩,_⟩
  ·have hpe:p=(wbL m).length:=by simpa using hN
   omega
  ·simp only at h2 h3
   unfold xk
   simp only
   rw [if_neg (by rw [h2];decide),h2,h3,hl]
end Go.Proofs.YtpjpkmhaffmbmaaGreat.E
end
section
namespace Go.Proofs.YtpjpkmhaffmbmaaGreat.E
open Go Go.RowKit
set_option linter.unusedVariables false
set_option linter.unusedSimpArgs false
def RdI {α:Type} (f:MRd→α × MRd) (V:α→List UInt8→Prop):Prop:=
 (∀T p,p≤T.length→(f (rd T p)).2.code=0→∃w,p+w.length≤T.length∧T.drop p=w++T.drop (p+w.length)∧(f (rd T p)).2=rd T (p+w.length)∧V (f (rd T p)).1 w)∧∀r:MRd,r.code≠0→(f r).2.code≠0
theorem zc4 (T:List UInt8) {p n:Nat} (h:p+n≤T.length):((T.drop p).take n).length=n∧T.drop p=(T.drop p).take n++T.drop (p+n):=by
 refine ⟨by simp;omega,?_⟩
 rw [←List.drop_drop,List.take_append_drop]
theorem zi0 (n:Nat):RdI (fun r=>xJ r n) (fun s w=>s=bA w∧w.length=n):=by
 refine ⟨fun T p hp hc=>?_,fun r h=>by simp only [wS h];exact h⟩
 simp only [zgC] at hc ⊢
 split at hc
 ·exact absurd hc (show ¬(2:Int)=0 by decide)
 ·rename_i hn
  rw [if_neg hn]
  obtain ⟨h1,h2⟩:=zc4 T (show p+n≤T.length by omega)
  exact ⟨(T.drop p).take n,by rw [h1];omega,by rw [h1];exact h2,by rw [h1],rfl,h1⟩
theorem jO (n:Nat) (lo hi:Int):RdI (fun r=>yl r n lo hi) (fun v w=>(lo≤v∧v≤hi∧0≤v)∧w=low v.toNat n):=by
 refine ⟨fun T p hp hc=>?_,fun r h=>by simp only [zfM h];exact h⟩
 rcases Nat.lt_or_ge T.length (p+n) with hlt | hge
 ·simp only [zmm (show p+n>T.length from hlt)] at hc
  exact absurd hc (show ¬(2:Int)=0 by decide)
 ·obtain ⟨h1,h2⟩:=zc4 T hge
  simp only [zmn hge] at hc ⊢
  split at hc
  ·rename_i hin
   rw [if_pos hin]
   have hin':lo≤(nv ((T.drop p).take n):Int)∧(nv ((T.drop p).take n):Int)≤hi:=by simpa [mIn] using hin
   refine ⟨(T.drop p).take n,by rw [h1];omega,by rw [h1];exact h2,by rw [h1],⟨hin'.1,hin'.2,by simp only;omega⟩,?_⟩
   simp only [Int.toNat_natCast]
   exact (zcS n _ h1).symm
  ·exact absurd hc (show ¬(3:Int)=0 by decide)
theorem RdI.bind {α β:Type} {f:MRd→α × MRd} {g:α→MRd→β × MRd} {V:α→List UInt8→Prop} {W:α→β→List UInt8→Prop} (hf:RdI f V) (hg:∀a,RdI (g a) (W a)):RdI (fun r=>g (f r).1 (f r).2) (fun b w=>∃a w1 w2,w=w1++w2∧V a w1∧W a b w2):=by
 refine ⟨fun T p hp hc=>?_,fun r h=>(hg _).2 _ (hf.2 r h)⟩
 by_cases h0:(f (rd T p)).2.code=0
 ·obtain ⟨w1,a1,a2,a3,a4⟩:=hf.1 T p hp h0
  simp only [a3] at hc ⊢
  obtain ⟨w2,b1,b2,b3,b4⟩:=(hg _).1 T _ a1 hc
  refine ⟨w1++w2,by rw [List.length_append];omega,?_,?_,_,w1,w2,rfl,a4,b4⟩
  ·rw [a2,b2,List.length_append,List.append_assoc,Nat.add_assoc]
  ·rw [b3,List.length_append,Nat.add_assoc]
 ·exact absurd hc ((hg _).2 _ h0)
theorem RdI.mono {α:Type} {f:MRd→α × MRd} {V W:α→List UInt8→Prop} (h:RdI f V) (k:∀a w,V a w→W a w):RdI f W:=
 ⟨fun T p hp hc=>by obtain ⟨w,a1,a2,a3,a4⟩:=h.1 T p hp hc;exact ⟨w,a1,a2,a3,k _ _ a4⟩,h.2⟩
theorem zoy (l:List UInt8) (h:l.length=32):(zic l).bl=l∧(zic l).ok:=by
 have t:∀i,i+8≤32→xS (l.drop i) 8=nv ((l.drop i).take 8)∧((l.drop i).take 8).length=8:=fun i hi=>⟨qf 8 _ (by simp;omega),by simp;omega⟩
 obtain ⟨a1,a2⟩:=t 0 (by omega)
 obtain ⟨b1,b2⟩:=t 8 (by omega)
 obtain ⟨c1,c2⟩:=t 16 (by omega)
 obtain ⟨d1,d2⟩:=t 24 (by omega)
 rw [List.drop_zero] at a1 a2
 have lt:∀x:List UInt8,x.length=8→nv x<18446744073709551616:=fun x hx=>by
  have:=nv_lt x
  rw [hx] at this
  exact Nat.lt_of_lt_of_le this (by decide)
 constructor
 ·unfold zic MDig.bl MDig.bk
  simp only [a1,b1,c1,d1,zcS 8 _ a2,zcS 8 _ b2,zcS 8 _ c2,zcS 8 _ d2]
  have e0:l=l.take 8++l.drop 8:=(List.take_append_drop 8 l).symm
  have e1:l.drop 8=(l.drop 8).take 8++l.drop 16:=by rw [show 16=8+8 from rfl,←List.drop_drop,List.take_append_drop]
  have e2:l.drop 16=(l.drop 16).take 8++l.drop 24:=by rw [show 24=16+8 from rfl,←List.drop_drop,List.take_append_drop]
  have e3:(l.drop 24).take 8=l.drop 24:=List.take_of_length_le (by simp;omega)
  rw [e3,List.append_assoc,List.append_assoc,←e2,←e1,←e0]
 ·unfold zic
  exact ⟨by simp only [a1];exact lt _ a2,by simp only [b1];exact lt _ b2,by simp only [c1];exact lt _ c2,by simp only [d1];exact lt _ d2⟩
theorem rdI_dig:RdI xE (fun d w=>w=d.bl∧d.ok):=by
 have h:=zi0 32
 refine ⟨fun T p hp hc=>?_,fun r hr=>h.2 r hr⟩
 obtain ⟨w,a1,a2,a3,a4,a5⟩:=h.1 T p hp hc
 refine ⟨w,a1,a2,a3,?_⟩
 simp only at a4
 have e:(xE (rd T p)).1=zic w:=by
  unfold xE
  rw [a4]
  unfold yB
  rw [zQ,a5,if_pos rfl,xH]
 rw [e]
 obtain ⟨h1,h2⟩:=zoy w a5
 exact ⟨h1.symm,h2⟩
theorem rdI_leaf:RdI zaO (fun s w=>w=zad s∧s.size≤40):=by
 have:=RdI.bind (g:=fun (v:Int) r=>xJ r v.toNat) (jO 1 0 40) (fun a=>zi0 a.toNat)
 refine this.mono ?_
 rintro s w ⟨a,w1,w2,rfl,⟨⟨h1,h2,h3⟩,rfl⟩,rfl,h4⟩
 unfold zad
 rw [zQ,xH,h4]
 exact ⟨rfl,by omega⟩
theorem zgB:∀n:Nat,RdI (yI n) (fun l w=>l.length=n∧w=xG l∧∀d∈l,d.ok)
 | 0=>⟨fun T p hp hc=>⟨[],by simpa using hp,rfl,rfl,rfl,rfl,by simp [yI]⟩,fun r h=>h⟩
 | n+1=>by
  have:=RdI.bind (g:=fun (v:List MDig) r=>(v++[(xE r).1],(xE r).2)) (W:=fun a b w=>∃d,b=a++[d]∧w=d.bl∧d.ok) (zgB n)
   (fun a=>⟨fun T p hp hc=>by obtain ⟨w,a1,a2,a3,a4⟩:=rdI_dig.1 T p hp hc;exact ⟨w,a1,a2,a3,_,rfl,a4⟩,rdI_dig.2⟩)
  refine RdI.mono this ?_
  rintro l w ⟨a,w1,w2,rfl,⟨h1,rfl,h2⟩,d,rfl,rfl,h3⟩
  refine ⟨by simp [h1],by simp [xG],fun x hx=>?_⟩
  rcases List.mem_append.1 hx with hx | hx
  ·exact h2 x hx
  ·rw [List.mem_singleton.1 hx];exact h3
theorem zej:∀n:Nat,RdI (zK n) (fun l w=>l.length=n∧w=yo l∧zq l=true)
 | 0=>⟨fun T p hp hc=>⟨[],by simpa using hp,rfl,rfl,rfl,rfl,rfl⟩,fun r h=>h⟩
 | n+1=>by
  have:=RdI.bind (g:=fun (v:List ByteArray) r=>(v++[(zaO r).1],(zaO r).2)) (W:=fun a b w=>∃d,b=a++[d]∧w=zad d∧d.size≤40) (zej n)
   (fun a=>⟨fun T p hp hc=>by obtain ⟨w,a1,a2,a3,a4⟩:=rdI_leaf.1 T p hp hc;exact ⟨w,a1,a2,a3,_,rfl,a4⟩,rdI_leaf.2⟩)
  refine RdI.mono this ?_
  rintro l w ⟨a,w1,w2,rfl,⟨h1,rfl,h2⟩,d,rfl,rfl,h3⟩
  refine ⟨by simp [h1],by simp [yo],?_⟩
  simp only [zq,List.all_append,List.all_cons,List.all_nil,Bool.and_true,Bool.and_eq_true,decide_eq_true_eq] at h2 ⊢
  exact ⟨h2,h3⟩
def RdPI (p:MRd × MMsg→MRd × MMsg) (V:MMsg→MMsg→List UInt8→Prop):Prop:=∀m0,RdI (fun r=>sw (p (r,m0))) (V m0)
theorem RdPI.seq {p q:MRd × MMsg→MRd × MMsg} {V W:MMsg→MMsg→List UInt8→Prop} (h:RdPI p V) (k:RdPI q W):RdPI (fun x=>q (p x)) (fun m0 m w=>∃m1 w1 w2,w=w1++w2∧V m0 m1 w1∧W m1 m w2):=
 fun m0=>RdI.bind (g:=fun m r=>sw (q (r,m))) (h m0) (fun a=>k a)
theorem RdPI.of {α:Type} {f:MRd→α × MRd} {V:α→List UInt8→Prop} (h:RdI f V) (u:α→MMsg→MMsg):RdPI (fun x=>((f x.1).2,u (f x.1).1 x.2)) (fun m0 m w=>∃a,m=u a m0∧V a w):=
 fun m0=>⟨fun T p hp hc=>by obtain ⟨w,a1,a2,a3,a4⟩:=h.1 T p hp hc;exact ⟨w,a1,a2,a3,_,rfl,a4⟩,h.2⟩
theorem riS:RdPI pS (fun m0 m w=>∃v:Int,m={m0 with session:=v}∧(1≤v∧v≤1000000∧0≤v)∧w=low v.toNat 3):=RdPI.of (jO 3 1 1000000) (fun v m=>{m with session:=v})
theorem riF:RdPI pF (fun m0 m w=>∃v:Int,m={m0 with from_:=v}∧(0≤v∧v≤256∧0≤v)∧w=low v.toNat 2):=RdPI.of (jO 2 0 256) (fun v m=>{m with from_:=v})
theorem riZ:RdPI pZ (fun m0 m w=>∃v:Int,m={m0 with size:=v}∧(0≤v∧v≤256∧0≤v)∧w=low v.toNat 2):=RdPI.of (jO 2 0 256) (fun v m=>{m with size:=v})
theorem riC:RdPI pC (fun m0 m w=>∃v:Int,m={m0 with count:=v}∧(1≤v∧v≤8∧0≤v)∧w=low v.toNat 1):=RdPI.of (jO 1 1 8) (fun v m=>{m with count:=v})
theorem riR:RdPI pR (fun m0 m w=>∃d:MDig,m={m0 with root:=d}∧w=d.bl∧d.ok):=RdPI.of rdI_dig (fun v m=>{m with root:=v})
theorem riP:RdPI pP (fun m0 m w=>∃l:List MDig,m={m0 with proof:=l}∧l.length≤16∧w=low l.length 1++xG l∧∀d∈l,d.ok):=by
 have:=RdPI.of (RdI.bind (g:=fun (v:Int) r=>yI v.toNat r) (jO 1 0 16) (fun a=>zgB a.toNat)) (fun v m=>{m with proof:=v})
 intro m0
 refine (this m0).mono ?_
 rintro m w ⟨l,rfl,a,w1,w2,rfl,⟨⟨h1,h2,h3⟩,rfl⟩,h4,rfl,h5⟩
 exact ⟨l,rfl,by omega,by rw [h4],h5⟩
theorem riL:RdPI pL (fun m0 m w=>∃l:List ByteArray,m={m0 with leaves:=l}∧l.length≤8∧w=low l.length 1++yo l∧zq l=true):=by
 have:=RdPI.of (RdI.bind (g:=fun (v:Int) r=>zK v.toNat r) (jO 1 0 8) (fun a=>zej a.toNat)) (fun v m=>{m with leaves:=v})
 intro m0
 refine (this m0).mono ?_
 rintro m w ⟨l,rfl,a,w1,w2,rfl,⟨⟨h1,h2,h3⟩,rfl⟩,h4,rfl,h5⟩
 exact ⟨l,rfl,by omega,by rw [h4],h5⟩
theorem zp4 {k:Nat} (hk:1≤k∧k≤8):RdI (fun r=>sw (xo k (r,{MMsg.zero with kind:=k}))) (fun m w=>m.kind=k∧zy m=true∧(m.root.ok∧∀d∈m.proof,d.ok)∧wbL m=low k 1++w):=by
 have z0:MMsg.zero.root.ok:=yw
 have szr:∀K:Nat,(K=2∨K=3∨K=6)→∀(m:MMsg) (w:List UInt8),(∃(m1:MMsg) (w1 w2:List UInt8),w=w1++w2∧(∃v:Int,m1={{MMsg.zero with kind:=(K:Int)} with session:=v}∧(1≤v∧v≤1000000∧0≤v)∧w1=low v.toNat 3)∧∃(m2:MMsg) (w3 w4:List UInt8),w2=w3++w4∧(∃v:Int,m2={m1 with size:=v}∧(0≤v∧v≤256∧0≤v)∧w3=low v.toNat 2)∧∃d:MDig,m={m2 with root:=d}∧w4=d.bl∧d.ok)→m.kind=(K:Int)∧zy m=true∧(m.root.ok∧∀d∈m.proof,d.ok)∧wbL m=low K 1++w:=by
  rintro K hK m w ⟨m1,w1,w2,rfl,⟨v,rfl,hv,rfl⟩,m2,w3,w4,rfl,⟨v2,rfl,hv2,rfl⟩,d,rfl,rfl,hd⟩
  refine ⟨rfl,?_,⟨hd,by simp [MMsg.zero]⟩,?_⟩
  ·rcases hK with rfl | rfl | rfl
   ·exact zfL ⟨hv.1,hv.2.1⟩ ⟨hv2.1,hv2.2.1⟩
   ·exact zfK ⟨hv.1,hv.2.1⟩ ⟨hv2.1,hv2.2.1⟩
   ·exact zdn ⟨hv.1,hv.2.1⟩ ⟨hv2.1,hv2.2.1⟩
  ·rcases hK with rfl | rfl | rfl<;>simp [wbL,bK,bS,bZ,MMsg.zero]
 have hk':k=1∨k=2∨k=3∨k=4∨k=5∨k=6∨k=7∨k=8:=by omega
 rcases hk' with rfl | rfl | rfl | rfl | rfl | rfl | rfl | rfl
 ·refine RdI.mono (riS _) ?_
  rintro m w ⟨v,rfl,hv,rfl⟩
  exact ⟨rfl,ok_s ⟨hv.1,hv.2.1⟩,⟨z0,by simp [MMsg.zero]⟩,by simp [wbL,bK,bS,MMsg.zero]⟩
 ·exact RdI.mono ((riS.seq (riZ.seq riR)) _) (szr 2 (by omega))
 ·exact RdI.mono ((riS.seq (riZ.seq riR)) _) (szr 3 (by omega))
 ·refine RdI.mono ((riF.seq riZ) _) ?_
  rintro m w ⟨m1,w1,w2,rfl,⟨v,rfl,hv,rfl⟩,v2,rfl,hv2,rfl⟩
  exact ⟨rfl,zns ⟨hv.1,hv.2.1⟩ ⟨hv2.1,hv2.2.1⟩,⟨z0,by simp [MMsg.zero]⟩,by simp [wbL,bK,bF,bZ,MMsg.zero]⟩
 ·refine RdI.mono ((riF.seq (riZ.seq riP)) _) ?_
  rintro m w ⟨m1,w1,w2,rfl,⟨v,rfl,hv,rfl⟩,m2,w3,w4,rfl,⟨v2,rfl,hv2,rfl⟩,l,rfl,hl,rfl,hd⟩
  exact ⟨rfl,zjh ⟨hv.1,hv.2.1⟩ ⟨hv2.1,hv2.2.1⟩ hl,⟨z0,hd⟩,by simp [wbL,bK,bF,bZ,bP,MMsg.zero]⟩
 ·exact RdI.mono ((riS.seq (riZ.seq riR)) _) (szr 6 (by omega))
 ·refine RdI.mono ((riF.seq riC) _) ?_
  rintro m w ⟨m1,w1,w2,rfl,⟨v,rfl,hv,rfl⟩,v2,rfl,hv2,rfl⟩
  exact ⟨rfl,zpV ⟨hv.1,hv.2.1⟩ ⟨hv2.1,hv2.2.1⟩,⟨z0,by simp [MMsg.zero]⟩,by simp [wbL,bK,bF,bC,MMsg.zero]⟩
 ·refine RdI.mono ((riF.seq riL) _) ?_
  rintro m w ⟨m1,w1,w2,rfl,⟨v,rfl,hv,rfl⟩,l,rfl,hl,rfl,hd⟩
  exact ⟨rfl,zln ⟨hv.1,hv.2.1⟩ hl hd,⟨z0,by simp [MMsg.zero]⟩,by simp [wbL,bK,bF,bL_,MMsg.zero]⟩
theorem ji (s:ByteArray) (h:(zl s).2.1=0):zy (zl s).1=true∧(zl s).1.root.ok∧(∀d∈(zl s).1.proof,d.ok)∧bA (wbL (zl s).1)=s:=by
 obtain ⟨T,rfl⟩:∃T,s=bA T:=⟨_,zl1 s⟩
 unfold zl at h ⊢
 split at h
 ·exact absurd h (show ¬(2:Int)=0 by decide)
 ·rename_i h0
  rw [if_neg h0]
  split at h
  ·rename_i hk
   rw [if_pos hk]
   have hT:1≤T.length:=by rw [zQ] at h0;omega
   have hx:=zp4 hk
   have hr:(⟨bA T,1,0,0⟩:MRd)=rd T 1:=rfl
   rw [hr] at h ⊢
   generalize hX:xo (bN (bA T) 0) (rd T 1,{MMsg.zero with kind:=(bN (bA T) 0:Int)})=X at *
   have hx1:=hx.1 T 1 hT
   simp only [sw,hX] at hx1
   unfold xk at h ⊢
   split at h
   ·rename_i hc
    rw [if_pos hc]
    split at h
    ·exact absurd h (show ¬(4:Int)=0 by decide)
    ·rename_i hp
     rw [if_neg hp]
     obtain ⟨w,a1,a2,a3,a4,a5,a6,a7⟩:=hx1 hc
     refine ⟨a5,a6.1,a6.2,?_⟩
     rw [a3,zQ] at hp
     have hp':¬1+w.length<T.length:=hp
     have hnil:T.drop (1+w.length)=[]:=List.drop_of_length_le (by omega)
     rw [hnil,List.append_nil] at a2
     rw [a7,←a2]
     congr 1
     cases T with
     | nil=>simp at hT
     | cons b T=>
      have hb:bN (bA (b::T)) 0=b.toNat:=by rw [zoD];rfl
      rw [hb]
      have:low b.toNat 1=[b]:=by simp [low]
      rw [this]
      rfl
   ·rename_i hc
    exact absurd h hc
  ·exact absurd h (show ¬(1:Int)=0 by decide)
theorem zkW {s:ByteArray} {m:MMsg} {c a:Int} (h:zl s=(m,c,a)) (hc:¬c=0):m=.zero:=by
 unfold zl at h
 split at h
 ·cases h;rfl
 ·split at h
  ·unfold xk at h
   split at h
   ·split at h
    ·cases h;rfl
    ·cases h;exact absurd rfl hc
   ·cases h;rfl
  ·cases h;rfl
end Go.Proofs.YtpjpkmhaffmbmaaGreat.E
end
section
namespace Go.Proofs.YtpjpkmhaffmbmaaGreat.E
open Go Go.RowKit
set_option maxHeartbeats 4000000
set_option maxRecDepth 10000
set_option linter.unusedSimpArgs false
set_option linter.unusedVariables false
set_option linter.unusedSectionVars false
def dcV6:Dec:=⟨[(51,.cm [false]),(112,.cm [false,false])],[9,10,11],[22,30,37,38,39,40,49,56,76,80,87,141,143,159,237,250,259],false⟩
theorem MLet.wide (l:List MLet):xT 3 (l.map MLet.cs)=true:=by
 induction l with
 | nil=>rfl
 | cons a l ih=>simp only [List.map_cons,xT,ih,MLet.cs];rfl
theorem MLet.flat (l:List MLet):flL (l.map MLet.cs)=2:=by
 induction l with
 | nil=>rfl
 | cons a l ih=>simp only [List.map_cons,flL,ih,MLet.cs];rfl
attribute [go_sem] MLet.wide MLet.flat
theorem zkj (l:List MLet) (hl:l.length * 32≤140737488355328):CallR Tryz.prog 46 [.ro 3 (l.map MLet.cs)] (.blk 0 0 [] 3 0 l.length) [([],⟨3,l.map MLet.cs,2,false⟩)]:=by
 refine zj dcV6 false Tryz.f46 ?_
 conv=>enter [1];reduce
 refine jvR Tryz.f46 14 [.tmp 2] (by kernel_rfl) (by decide +kernel) rfl ?_
 simp -implicitDefEqProofs only [go_sem]
 refine zi (fun h=>?_) (fun h=>?_)
 ·have:l=[]:=by simpa using h
  subst this
  simp -implicitDefEqProofs only [go_sem]
 ·have hm:=zbs hl (by omega)
  have hmk:((32:Nat):Int) * (l.length:Int)≤281474976710656∧(l.length:Int)≤9223372036854775807:=by unfold maxLen at hm;omega
  simp -implicitDefEqProofs only [go_sem,h,hmk,List.length_replicate]
theorem copLN:CallR Tryz.prog 46 [.nilS] (.blk 0 0 [] 3 0 0) [([],⟨3,[],2,false⟩)]:=
 (zkj [] (by simp)).arg fun rd vs h=>by
  obtain ⟨v,us,rfl,hr,hp⟩:=h.uncons
  have:us=[]:=List.eq_nil_of_length_eq_zero hp.1.symm
  subst this
  exact PW.cons (hr.wk (.inr ⟨rfl,3,rfl⟩)) PW.nil
theorem zgO {s:ByteArray}:(zl s).1.root.ok:=by
 generalize hW:zl s=W
 obtain ⟨m,c,a⟩:=W
 by_cases hc:c=0
 ·have:=ji s
  rw [hW] at this
  exact (this hc).2.1
 ·have:=zkW hW hc
  subst this
  exact yw
structure MKeep where
 old:MPt
 new:MPt
 proof:List MDig
def MKeep.cs (k:MKeep) (a:AV):List AV:=k.old.cs++(k.new.cs++[a])
structure MHeard where
 disk:MDisk
 wishes:List MWish
 raws:List MRaw
 kept:Option MKeep
 letters:List MLet
 alarms:List MAl
def MHeard.av (h:MHeard):AV:=.agg (h.disk.cs++[.blk 0 0 [] 7 0 h.wishes.length,.blk 1 0 [] 3 0 h.raws.length,.blk 2 0 [] 11 0 h.kept.toList.length,.blk 3 0 [] 3 0 h.letters.length,.blk 4 0 [] 13 0 h.alarms.length])
def zjO:Option MKeep→Row
 | none=>⟨11,[],2,false⟩
 | some k=>⟨11,[k.cs (.blk 5 0 [] 4 0 k.proof.length)],0,false⟩
def zjN:Option MKeep→Sig
 | none=>[]
 | some k=>[(5,0,one ⟨4,k.proof.map MDig.cs,2,false⟩)]
def MHeard.out (h:MHeard):Sig:=[(0,0,one ⟨7,h.wishes.map MWish.cs,2,false⟩),(1,0,one ⟨3,h.raws.map MRaw.cs,2,false⟩),(2,0,one (zjO h.kept)),(3,0,one ⟨3,h.letters.map MLet.cs,2,false⟩),(4,0,one ⟨13,h.alarms.map MAl.cs,2,false⟩)]++zjN h.kept
def MHeard.base (w:MWit):MHeard:=⟨w.disk,w.wishes,[],none,[],[]⟩
attribute [go_sem] MKeep.cs MHeard.av zjO zjN MHeard.out Option.toList_none Option.toList_some MHeard.base
def zdu (me a b:Int):MLet:=⟨me,0,zF ⟨4,0,a,b,dig0,0,[],[]⟩⟩
def yh (w:MWit) (held:MPt) (me who s:Int) (p:MPt):MHeard:=
 if p.size=0∨p.size<held.size then .base w
 else if yR p held then {MHeard.base w with letters:=[zaP me who s p]}
 else if p.size=held.size then {MHeard.base w with alarms:=[⟨1,who,held,p,0⟩]}
 else if (yu w.wishes ⟨who,s,p⟩).length≤8 then {MHeard.base w with wishes:=yu w.wishes ⟨who,s,p⟩,letters:=[zdu me held.size p.size]}
 else .base w
theorem jQ {l:List MWish} (h:l.length≤8) (x:MWish):(yu l x).length≤17:=by
 have:=zde x l
 unfold yu
 split
 ·omega
 ·rw [List.length_append];simp;omega
def zjS (w:MWit):AV:=.agg (w.disk.cs++[.blk 1000000 0 [] 7 0 w.wishes.length,.nilS,.nilS,.nilS,.nilS])
attribute [go_sem] zjS
theorem c44_c (w:MWit) (held:MPt) (me who:Int) (m:MMsg) (hl:w.wishes.length≤8):zS Tryz.prog 44 [(1000000,0,one ⟨7,w.wishes.map MWish.cs,2,false⟩)] [zjS w,.agg held.cs,vI me,vI who,m.ro] (yh w held me who m.session ⟨m.size,m.root⟩).av (yh w held me who m.session ⟨m.size,m.root⟩).out:=by
 refine zj dcV6 false Tryz.f44 ?_
 conv=>enter [1];reduce
 refine jvM Tryz.f44 80 [.cell 10 42] (by kernel_rfl) (by decide +kernel) rfl ?_
 have hak:=zkr me who m.session ⟨m.size,m.root⟩
 have hwi:=zrI w.wishes ⟨who,m.session,⟨m.size,m.root⟩⟩ hl
 have hwl:=jQ hl ⟨who,m.session,⟨m.size,m.root⟩⟩
 have hpl:=zmR me 0 ⟨4,0,held.size,m.size,dig0,0,[],[]⟩ rfl rfl
 unfold yh
 simp only
 generalize hA:zaP me who m.session ⟨m.size,m.root⟩=A at *
 generalize hW:yu w.wishes ⟨who,m.session,⟨m.size,m.root⟩⟩=W at *
 simp -implicitDefEqProofs only [go_sem]
 by_cases c1:m.size=0
 ·have c1':(m.size==0)=true:=by rw [c1];rfl
  rw [if_pos (.inl c1)]
  simp -implicitDefEqProofs only [go_sem,c1',ze,zf,zg,zc,zb,za]
 ·have c1':(m.size==0)=false:=beq_eq_false_iff_ne.2 c1
  by_cases c2:m.size<held.size
  ·rw [if_pos (.inr c2)]
   simp -implicitDefEqProofs only [go_sem,c1',c2,ze,zf,zg,zc,zb,za]
  ·rw [if_neg (fun h=>h.elim c1 c2)]
   cases c3:yR ⟨m.size,m.root⟩ held with
   | true=>
    have c3':=c3
    unfold yR at c3'
    simp only at c3'
    simp -implicitDefEqProofs only [go_sem,c1',c2,c3',ze,zf,zg,zc,zb,za]
    refine Want.intro hak ?_
    simp -implicitDefEqProofs only [go_sem]
   | false=>
    have c3':=c3
    unfold yR at c3'
    simp only at c3'
    by_cases c4:m.size=held.size
    ·have c4':(m.size==held.size)=true:=by rw [c4];simp
     rw [if_neg (by simp),if_pos c4]
     rw [c4',Bool.true_and] at c3'
     simp -implicitDefEqProofs only [go_sem,c1',c2,c3',c4',ze,zf,zg,zc,zb,za]
    ·have c4':(m.size==held.size)=false:=beq_eq_false_iff_ne.2 c4
     rw [if_neg (by simp),if_neg c4]
     simp -implicitDefEqProofs only [go_sem,c1',c2,c3',c4',ze,zf,zg,zc,zb,za]
     refine Want.intro hwi ?_
     by_cases c5:W.length≤8
     ·have c5':¬((W.length:Int)>8):=by omega
      rw [if_pos c5]
      simp -implicitDefEqProofs only [go_sem,c5',zb,za]
      refine Want.intro (zh0 W (by omega)) ?_
      simp -implicitDefEqProofs only [go_sem]
      refine Want.intro hpl ?_
      simp -implicitDefEqProofs only [go_sem]
      rfl
     ·have c5':((W.length:Int)>8):=by omega
      rw [if_neg c5]
      simp -implicitDefEqProofs only [go_sem,c5',zb,za]
theorem c49_c (w:MWit) (me who:Int) (m:MMsg) (hl:w.wishes.length≤8) (hd:w.disk.ok) (hr:m.root.ok):zS Tryz.prog 49 [] [w.ro,vI me,vI who,m.ro] (yh w (zA w.disk) me who m.session ⟨m.size,m.root⟩).av (yh w (zA w.disk) me who m.session ⟨m.size,m.root⟩).out:=by
 refine zj dcV6 false Tryz.f49 ?_
 conv=>enter [1];reduce
 refine jvM Tryz.f49 91 [.cell 8 42] (by kernel_rfl) (by decide +kernel) rfl ?_
 have hcp:=zop w (by omega)
 have hhe:=zl0 w.disk hd
 have hak:=zkq me ⟨who,m.session,⟨m.size,m.root⟩⟩ hr
 have hwi:=zrE w.wishes ⟨who,m.session,⟨m.size,m.root⟩⟩ hl
 generalize zA w.disk=held at *
 have hwl:=jQ hl ⟨who,m.session,⟨m.size,m.root⟩⟩
 have hpl:=wbS ⟨4,0,held.size,m.size,dig0,0,[],[]⟩ rfl rfl yw
 unfold yh
 simp only at hak ⊢
 generalize hA:zaP me who m.session ⟨m.size,m.root⟩=A at *
 generalize hW:yu w.wishes ⟨who,m.session,⟨m.size,m.root⟩⟩=W at *
 simp -implicitDefEqProofs only [go_sem]
 refine WantM.intro hcp ?_
 simp -implicitDefEqProofs only [go_sem]
 refine Want.intro hhe ?_
 by_cases c1:m.size=0
 ·have c1':(m.size==0)=true:=by rw [c1];rfl
  rw [if_pos (.inl c1)]
  simp -implicitDefEqProofs only [go_sem,c1',ze,zf,zg,zc,zb,za]
 ·have c1':(m.size==0)=false:=beq_eq_false_iff_ne.2 c1
  by_cases c2:m.size<held.size
  ·rw [if_pos (.inr c2)]
   simp -implicitDefEqProofs only [go_sem,c1',c2,ze,zf,zg,zc,zb,za]
  ·rw [if_neg (fun h=>h.elim c1 c2)]
   cases c3:yR ⟨m.size,m.root⟩ held with
   | true=>
    have c3':=c3
    unfold yR at c3'
    simp only at c3'
    simp -implicitDefEqProofs only [go_sem,c1',c2,c3',ze,zf,zg,zc,zb,za]
    refine Want.intro hak ?_
    simp -implicitDefEqProofs only [go_sem]
   | false=>
    have c3':=c3
    unfold yR at c3'
    simp only at c3'
    by_cases c4:m.size=held.size
    ·have c4':(m.size==held.size)=true:=by rw [c4];simp
     rw [if_neg (by simp),if_pos c4]
     rw [c4',Bool.true_and] at c3'
     simp -implicitDefEqProofs only [go_sem,c1',c2,c3',c4',ze,zf,zg,zc,zb,za]
    ·have c4':(m.size==held.size)=false:=beq_eq_false_iff_ne.2 c4
     rw [if_neg (by simp),if_neg c4]
     simp -implicitDefEqProofs only [go_sem,c1',c2,c3',c4',ze,zf,zg,zc,zb,za]
     refine WantM.intro hwi ?_
     by_cases c5:W.length≤8
     ·have c5':decide (W.length≤8)=true:=decide_eq_true c5
      rw [if_pos c5]
      simp -implicitDefEqProofs only [go_sem,c5',Bool.not_true,zb,za]
      refine Want.intro hpl ?_
      simp -implicitDefEqProofs only [go_sem]
      rfl
     ·have c5':decide (W.length≤8)=false:=decide_eq_false c5
      rw [if_neg c5]
      simp -implicitDefEqProofs only [go_sem,c5',Bool.not_false,zb,za]
theorem zmB {l:List MDig} (h:∀d∈l,d.ok):(l.map MDig.bd).map BD.cs=l.map MDig.cs:=by
 rw [List.map_map]
 refine List.map_congr_left fun d hd=>?_
 show d.bd.dig.cs=d.cs
 rw [MDig.bd_dig (h d hd)]
theorem zrG (o p:MPt) (P:List MDig) (h:∀d∈P,d.ok):CallR Tryz.prog 109 [.agg o.cs,.agg p.cs,.ro 4 (P.map MDig.cs)] (vI (mGC o p (P.map MDig.bd))) []:=by
 rw [←zmB h]
 exact zrH o p _
theorem zrt (o p:MPt) (P:List MDig) (h:∀d∈P,d.ok):CallR Tryz.prog 14 [.agg o.cs,.agg p.cs,.ro 4 (P.map MDig.cs)] (vI (mGC o p (P.map MDig.bd))) []:=by
 rw [←zmB h]
 exact c14_c o p _
structure GSt where
 left:List MWish
 taken:Bool
 p:MPt
 al:List MAl
def xd (held:MPt) (size:Int) (P:List MDig) (s:GSt) (x:MWish):GSt:=
 if s.taken=true∨x.pt.size≠size then {s with left:=s.left++[x]}
 else if mGC held x.pt (P.map MDig.bd)≠0 then {s with al:=s.al++[⟨2,x.who,held,x.pt,mGC held x.pt (P.map MDig.bd)⟩]}
 else {s with left:=s.left++[x],taken:=true,p:=x.pt}
def gF (held:MPt) (size:Int) (P:List MDig) (l:List MWish):GSt:=l.foldl (xd held size P) ⟨[],false,.zero,[]⟩
theorem zj2 {held:MPt} {size:Int} {P:List MDig} {l:List MWish} {i:Nat} (h:i<l.length):gF held size P (l.take (i+1))=xd held size P (gF held size P (l.take i)) l[i]:=by
 unfold gF
 rw [List.take_succ_eq_append_getElem h,List.foldl_append]
 rfl
theorem zqM (held:MPt) (size:Int) (P:List MDig) (l:List MWish):∀s:GSt,(l.foldl (xd held size P) s).left.length+(l.foldl (xd held size P) s).al.length=s.left.length+s.al.length+l.length:=by
 induction l with
 | nil=>intro s;simp
 | cons a l ih=>
  intro s
  rw [List.foldl_cons,ih,List.length_cons]
  have e:(xd held size P s a).left.length+(xd held size P s a).al.length=s.left.length+s.al.length+1:=by
   unfold xd
   repeat' split
   all_goals simp
   all_goals omega
  omega
theorem zhP (held:MPt) (size:Int) (P:List MDig) (l:List MWish):(gF held size P l).left.length≤l.length∧(gF held size P l).al.length≤l.length:=by
 have:=zqM held size P l ⟨[],false,.zero,[]⟩
 unfold gF
 simp only [List.length_nil] at this
 omega
structure HSt where
 le:List MLet
 al:List MAl
 rest:List MWish
def xY (me:Int) (p:MPt) (s:HSt) (x:MWish):HSt:=
 if yR x.pt p=true then {s with le:=s.le++[zaP me x.who x.session p]}
 else if x.pt.size=p.size then {s with al:=s.al++[⟨1,x.who,p,x.pt,0⟩]}
 else if x.pt.size>p.size then {s with rest:=s.rest++[x]}
 else s
def hvF (me:Int) (p:MPt) (al:List MAl) (l:List MWish):HSt:=l.foldl (xY me p) ⟨[],al,[]⟩
theorem za1 {me:Int} {p:MPt} {al:List MAl} {l:List MWish} {i:Nat} (h:i<l.length):hvF me p al (l.take (i+1))=xY me p (hvF me p al (l.take i)) l[i]:=by
 unfold hvF
 rw [List.take_succ_eq_append_getElem h,List.foldl_append]
 rfl
theorem znQ (me:Int) (p:MPt) (l:List MWish):∀s:HSt,(l.foldl (xY me p) s).le.length+(l.foldl (xY me p) s).al.length+(l.foldl (xY me p) s).rest.length≤s.le.length+s.al.length+s.rest.length+l.length:=by
 induction l with
 | nil=>intro s;simp
 | cons a l ih=>
  intro s
  rw [List.foldl_cons,List.length_cons]
  have:=ih (xY me p s a)
  have e:(xY me p s a).le.length+(xY me p s a).al.length+(xY me p s a).rest.length≤s.le.length+s.al.length+s.rest.length+1:=by
   unfold xY
   repeat' split
   all_goals simp
   all_goals omega
  omega
theorem zcY (me:Int) (p:MPt) (al:List MAl) (l:List MWish):(hvF me p al l).le.length≤al.length+l.length∧(hvF me p al l).al.length≤al.length+l.length∧(hvF me p al l).rest.length≤al.length+l.length:=by
 have:=znQ me p l ⟨[],al,[]⟩
 unfold hvF
 simp only [List.length_nil] at this
 omega
def ya (w:MWit) (held:MPt) (me:Int) (m:MMsg):MHeard:=
 if m.from_≠held.size then .base w
 else if (gF held m.size m.proof w.wishes).taken=false then {MHeard.base w with wishes:=(gF held m.size m.proof w.wishes).left,alarms:=(gF held m.size m.proof w.wishes).al}
 else if yQ w.disk (gF held m.size m.proof w.wishes).p.size (gF held m.size m.proof w.wishes).p.root=[] then .base w
 else ⟨zC w.disk (yQ w.disk (gF held m.size m.proof w.wishes).p.size (gF held m.size m.proof w.wishes).p.root),(hvF me (gF held m.size m.proof w.wishes).p (gF held m.size m.proof w.wishes).al (gF held m.size m.proof w.wishes).left).rest,yQ w.disk (gF held m.size m.proof w.wishes).p.size (gF held m.size m.proof w.wishes).p.root,some ⟨held,(gF held m.size m.proof w.wishes).p,m.proof⟩,(hvF me (gF held m.size m.proof w.wishes).p (gF held m.size m.proof w.wishes).al (gF held m.size m.proof w.wishes).left).le,(hvF me (gF held m.size m.proof w.wishes).p (gF held m.size m.proof w.wishes).al (gF held m.size m.proof w.wishes).left).al⟩
def yf (d:MDisk) (w r k l a:AV):List AV:=d.cs++[w,r,k,l,a]
attribute [go_sem] yf
inductive Shp (H:HSt) (P:List MDig) (k:Nat):AV→AV→Sig→Nat→Prop
 | s00 (h1:H.le=[]) (h2:H.al=[]):Shp H P k .nilS .nilS [(40000+k,0,one ⟨4,P.map MDig.cs,2,false⟩)] (40000+k)
 | s01 (h1:H.le=[]) (h2:H.al≠[]):Shp H P k .nilS (.blk (40000+k) 0 [] 13 0 H.al.length) [(40000+k,0,one ⟨13,H.al.map MAl.cs,2,false⟩),(50000+k,0,one ⟨4,P.map MDig.cs,2,false⟩)] (50000+k)
 | s10 (h1:H.le≠[]) (h2:H.al=[]):Shp H P k (.blk (40000+k) 0 [] 3 0 H.le.length) .nilS [(40000+k,0,one ⟨3,H.le.map MLet.cs,2,false⟩),(50000+k,0,one ⟨4,P.map MDig.cs,2,false⟩)] (50000+k)
 | s11 (h1:H.le≠[]) (h2:H.al≠[]):Shp H P k (.blk (40000+k) 0 [] 3 0 H.le.length) (.blk (50000+k) 0 [] 13 0 H.al.length) [(40000+k,0,one ⟨3,H.le.map MLet.cs,2,false⟩),(50000+k,0,one ⟨13,H.al.map MAl.cs,2,false⟩),(60000+k,0,one ⟨4,P.map MDig.cs,2,false⟩)] (60000+k)
def MHeard.zero:MHeard:=⟨zdisk,[],[],none,[],[]⟩
attribute [go_sem] MHeard.zero
def yF (w:MWit) (me:Int) (l:MLet):MHeard:=
 if yy w&&(qm l&&mIn me 1 20) then
  (if ((zl l.text).2.1==0)&&(((zl l.text).1.kind==3)&&decide (l.from_>0)) then yh w (zA w.disk) me l.from_ (zl l.text).1.session ⟨(zl l.text).1.size,(zl l.text).1.root⟩
   else if ((zl l.text).2.1==0)&&(((zl l.text).1.kind==5)&&(l.from_==0)) then ya w (zA w.disk) me (zl l.text).1
   else .base w)
 else .zero
theorem za7 {w:MWit} (h:yy w=true):w.wishes.length≤8:=by
 unfold yy at h
 rw [Bool.and_eq_true,decide_eq_true_eq] at h
 exact h.1
theorem zfk (w:MWit) (held:MPt) (me who s:Int) (p:MPt):(yh w held me who s p).letters.length≤100∧(yh w held me who s p).alarms.length≤100:=by
 unfold yh
 repeat' split
 all_goals simp [MHeard.base]
theorem zeI (w:MWit) (held:MPt) (me:Int) (m:MMsg) (h:w.wishes.length≤8):(ya w held me m).letters.length≤100∧(ya w held me m).alarms.length≤100:=by
 have h1:=zhP held m.size m.proof w.wishes
 have h2:=zcY me (gF held m.size m.proof w.wishes).p (gF held m.size m.proof w.wishes).al (gF held m.size m.proof w.wishes).left
 unfold ya
 repeat' split
 ·simp [MHeard.base]
 ·constructor
  ·simp [MHeard.base]
  ·show (gF held m.size m.proof w.wishes).al.length≤100;omega
 ·simp [MHeard.base]
 ·constructor
  ·show (hvF me (gF held m.size m.proof w.wishes).p (gF held m.size m.proof w.wishes).al (gF held m.size m.proof w.wishes).left).le.length≤100;omega
  ·show (hvF me (gF held m.size m.proof w.wishes).p (gF held m.size m.proof w.wishes).al (gF held m.size m.proof w.wishes).left).al.length≤100;omega
end Go.Proofs.YtpjpkmhaffmbmaaGreat.E
end
section
namespace Go.Proofs.YtpjpkmhaffmbmaaGreat.E
open Go Go.RowKit
set_option linter.unusedVariables false
set_option linter.unusedSimpArgs false
def zhk (h:Int) (x:MWish):Bool:=mIn x.who 1 20&&(mIn x.session 1 1000000&&mIn x.pt.size (h+1) 256)
theorem zcA {h:Int} {l:List MWish} (hi:0<l.length):yY h l 0=zhk h l[0]:=by
 unfold yY zhk
 rw [List.getElem?_eq_getElem hi]
 simp
theorem wQ {h:Int} {l:List MWish} {j:Nat} (hi:j+1<l.length):yY h l (j+1)=(zhk h l[j+1]&&decide (l[j].who<l[j+1].who)):=by
 unfold yY zhk
 rw [List.getElem?_eq_getElem hi]
 simp only [List.getElem?_eq_getElem (show j<l.length by omega)]
 cases mIn l[j+1].who 1 20<;>cases decide (l[j].who<l[j+1].who)<;>simp
theorem witOk_iff {w:MWit}:yy w=true↔w.wishes.length≤8∧w.wishes.Pairwise (fun x y=>x.who<y.who)∧∀x∈w.wishes,zhk (zA w.disk).size x=true:=by
 obtain ⟨d,l⟩:=w
 unfold yy
 simp only [Bool.and_eq_true,decide_eq_true_eq,List.all_eq_true,List.mem_range]
 generalize (zA d).size=h
 constructor
 ·rintro ⟨h8,ha⟩
  have adj:∀j (hj:j+1<l.length),l[j].who<l[j+1].who:=fun j hj=>by
   have:=ha (j+1) hj
   rw [wQ hj,Bool.and_eq_true,decide_eq_true_eq] at this
   exact this.2
  refine ⟨h8,List.pairwise_iff_getElem.2 fun i j hi hj hij=>?_,fun x hx=>?_⟩
  ·induction j with
   | zero=>omega
   | succ j ih=>
    rcases Nat.lt_succ_iff_lt_or_eq.1 hij with hij | rfl
    ·exact Int.lt_trans (ih (by omega) hij) (adj j hj)
    ·exact adj i hj
  ·obtain ⟨i,hi,rfl⟩:=List.getElem_of_mem hx
   cases i with
   | zero=>rw [←zcA hi];exact ha 0 hi
   | succ j=>
    have:=ha (j+1) hi
    rw [wQ hi,Bool.and_eq_true] at this
    exact this.1
 ·rintro ⟨h8,hp,ha⟩
  refine ⟨h8,fun i hi=>?_⟩
  cases i with
  | zero=>rw [zcA hi];exact ha _ (List.getElem_mem hi)
  | succ j=>
   rw [wQ hi,Bool.and_eq_true,decide_eq_true_eq]
   exact ⟨ha _ (List.getElem_mem hi),List.pairwise_iff_getElem.1 hp j (j+1) (by omega) hi (by omega)⟩
theorem zn5 (held:MPt) (size:Int) (P:List MDig) (l:List MWish):∀s:GSt,s.taken=true→(l.foldl (xd held size P) s).taken=true∧(l.foldl (xd held size P) s).p=s.p:=by
 induction l with
 | nil=>intro s h;exact ⟨h,rfl⟩
 | cons a l ih=>
  intro s h
  have e:xd held size P s a={s with left:=s.left++[a]}:=by unfold xd;rw [if_pos (.inl h)]
  rw [List.foldl_cons,e]
  exact ih _ h
theorem zdD (held:MPt) (size:Int) (P:List MDig) (l:List MWish):∀s:GSt,s.taken=false→(l.foldl (xd held size P) s).taken=true→∃x∈l,(l.foldl (xd held size P) s).p=x.pt∧x.pt.size=size∧mGC held x.pt (P.map MDig.bd)=0:=by
 induction l with
 | nil=>intro s h h2;rw [List.foldl_nil,h] at h2;cases h2
 | cons a l ih=>
  intro s h h2
  rw [List.foldl_cons] at h2 ⊢
  by_cases c:s.taken=true∨a.pt.size≠size
  ·have e:xd held size P s a={s with left:=s.left++[a]}:=by unfold xd;rw [if_pos c]
   rw [e] at h2 ⊢
   obtain ⟨x,hx,r⟩:=ih {s with left:=s.left++[a]} h h2
   exact ⟨x,List.mem_cons_of_mem _ hx,r⟩
  ·by_cases g:mGC held a.pt (P.map MDig.bd)≠0
   ·have e:xd held size P s a={s with al:=s.al++[⟨2,a.who,held,a.pt,mGC held a.pt (P.map MDig.bd)⟩]}:=by unfold xd;rw [if_neg c,if_pos g]
    rw [e] at h2 ⊢
    obtain ⟨x,hx,r⟩:=ih {s with al:=s.al++[⟨2,a.who,held,a.pt,mGC held a.pt (P.map MDig.bd)⟩]} h h2
    exact ⟨x,List.mem_cons_of_mem _ hx,r⟩
   ·have e:xd held size P s a={s with left:=s.left++[a],taken:=true,p:=a.pt}:=by unfold xd;rw [if_neg c,if_neg g]
    rw [e] at h2 ⊢
    refine ⟨a,List.mem_cons_self ..,(zn5 held size P l _ rfl).2,?_,?_⟩
    ·exact Classical.byContradiction fun h=>c (.inr h)
    ·exact Classical.byContradiction fun h=>g h
theorem zj1 (held:MPt) (size:Int) (P:List MDig) (l:List MWish):∀s:GSt,∃l',(l.foldl (xd held size P) s).left=s.left++l'∧l'.Sublist l:=by
 induction l with
 | nil=>intro s;exact ⟨[],(List.append_nil _).symm,List.Sublist.refl _⟩
 | cons a l ih=>
  intro s
  rw [List.foldl_cons]
  obtain ⟨l',e,hs⟩:=ih (xd held size P s a)
  have:(xd held size P s a).left=s.left++[a]∨(xd held size P s a).left=s.left:=by
   unfold xd
   split
   ·exact .inl rfl
   ·split
    ·exact .inr rfl
    ·exact .inl rfl
  rcases this with t | t
  ·exact ⟨a::l',by rw [e,t,List.append_assoc];rfl,hs.cons_cons a⟩
  ·exact ⟨l',by rw [e,t],hs.cons a⟩
theorem zjR (me:Int) (p:MPt) (l:List MWish):∀s:HSt,∃l',(l.foldl (xY me p) s).rest=s.rest++l'∧l'.Sublist l∧∀x∈l',x.pt.size>p.size:=by
 induction l with
 | nil=>intro s;exact ⟨[],(List.append_nil _).symm,List.Sublist.refl _,by simp⟩
 | cons a l ih=>
  intro s
  rw [List.foldl_cons]
  obtain ⟨l',e,hs,hg⟩:=ih (xY me p s a)
  have:((xY me p s a).rest=s.rest++[a]∧a.pt.size>p.size)∨(xY me p s a).rest=s.rest:=by
   unfold xY
   split
   ·exact .inr rfl
   ·split
    ·exact .inr rfl
    ·split
     ·rename_i h;exact .inl ⟨rfl,h⟩
     ·exact .inr rfl
  rcases this with ⟨t,ha⟩ | t
  ·exact ⟨a::l',by rw [e,t,List.append_assoc];rfl,hs.cons_cons a,fun x hx=>by rcases List.mem_cons.1 hx with rfl | hx;exact ha;exact hg x hx⟩
  ·exact ⟨l',by rw [e,t],hs.cons a,hg⟩
end Go.Proofs.YtpjpkmhaffmbmaaGreat.E
end
section
namespace Go.Proofs.YtpjpkmhaffmbmaaGreat.E
open Go Go.RowKit
set_option linter.unusedVariables false
set_option linter.unusedSimpArgs false
theorem zfj (x:MWish):∀(l:List MWish) (out:List MWish),(∀y∈l,x.who<y.who)→l.foldl (zV x) (out,true)=(out++l,true)
 | [],out,h=>by rw [List.append_nil];rfl
 | y::l,out,h=>by
  have hy:=h y (List.mem_cons_self ..)
  have e:zV x (out,true) y=(out++[y],true):=by
   unfold zV
   rw [if_neg (by simp),if_neg (by omega)]
  rw [List.foldl_cons,e,zfj x l _ fun z hz=>h z (List.mem_cons_of_mem _ hz),List.append_assoc]
  rfl
def wFin (x:MWish) (s:List MWish × Bool):List MWish:=if s.2 then s.1 else s.1++[x]
theorem ziq (x:MWish):∀(l out:List MWish),l.Pairwise (fun a b=>a.who<b.who)→wFin x (l.foldl (zV x) (out,false))=out++(l.filter (fun y=>decide (y.who<x.who))++x::l.filter fun y=>decide (x.who<y.who))
 | [],out,h=>rfl
 | y::l,out,h=>by
  obtain ⟨h1,h2⟩:=List.pairwise_cons.1 h
  rw [List.foldl_cons]
  by_cases c:y.who<x.who
  ·have e:zV x (out,false) y=(out++[y],false):=by
    unfold zV
    rw [if_neg (fun q=>by have:=q.2;omega),if_neg (by omega)]
   rw [e,ziq x l _ h2,List.filter_cons_of_pos (by simpa using c),List.filter_cons_of_neg (by simp;omega),List.append_assoc]
   rfl
  ·have hlt:∀z∈l,x.who<z.who:=fun z hz=>by have:=h1 z hz;omega
   have f1:l.filter (fun y=>decide (y.who<x.who))=[]:=by
    rw [List.filter_eq_nil_iff]
    intro z hz
    have:=hlt z hz
    simp
    omega
   have f2:l.filter (fun y=>decide (x.who<y.who))=l:=by
    rw [List.filter_eq_self]
    intro z hz
    simpa using hlt z hz
   rw [List.filter_cons_of_neg (by simpa using c),f1]
   by_cases g:y.who=x.who
   ·have e:zV x (out,false) y=(out++[x],true):=by
     unfold zV
     rw [if_pos ⟨rfl,by omega⟩,if_pos g]
    rw [e,zfj x l _ hlt,List.filter_cons_of_neg (by simp;omega),f2]
    simp [wFin]
   ·have e:zV x (out,false) y=(out++[x]++[y],true):=by
     unfold zV
     rw [if_pos ⟨rfl,by omega⟩,if_neg g]
    rw [e,zfj x l _ hlt,List.filter_cons_of_pos (by simp;omega),f2]
    simp [wFin]
theorem zhG {l:List MWish} (h:l.Pairwise fun a b=>a.who<b.who) (x:MWish):yu l x=l.filter (fun y=>decide (y.who<x.who))++x::l.filter fun y=>decide (x.who<y.who):=by
 have:=ziq x l [] h
 rw [List.nil_append] at this
 exact this
theorem zfg {l:List MWish} (h:l.Pairwise fun a b=>a.who<b.who) (x:MWish):(yu l x).Pairwise (fun a b=>a.who<b.who)∧∀y∈yu l x,y=x∨y∈l:=by
 rw [zhG h]
 constructor
 ·refine List.pairwise_append.2 ⟨h.sublist List.filter_sublist,List.pairwise_cons.2 ⟨fun y hy=>?_,h.sublist List.filter_sublist⟩,fun a ha b hb=>?_⟩
  ·simpa using (List.mem_filter.1 hy).2
  ·have ha:=(List.mem_filter.1 ha).2
   simp only [decide_eq_true_eq] at ha
   rcases List.mem_cons.1 hb with rfl | hb
   ·exact ha
   ·have hb:=(List.mem_filter.1 hb).2
    simp only [decide_eq_true_eq] at hb
    omega
 ·intro y hy
  rcases List.mem_append.1 hy with hy | hy
  ·exact .inr (List.mem_filter.1 hy).1
  ·rcases List.mem_cons.1 hy with rfl | hy
   ·exact .inl rfl
   ·exact .inr (List.mem_filter.1 hy).1
end Go.Proofs.YtpjpkmhaffmbmaaGreat.E
end
section
namespace Go.Proofs.YtpjpkmhaffmbmaaGreat.E
open Go Go.RowKit
set_option linter.unusedVariables false
set_option linter.unusedSimpArgs false
theorem zk1 {w:MWit} {me who s:Int} {p:MPt} (h:yy w=true) (h1:mIn who 1 20=true) (h2:mIn s 1 1000000=true) (h3:p.size≤256):
  yy ⟨(yh w (zA w.disk) me who s p).disk,(yh w (zA w.disk) me who s p).wishes⟩=true∧(yh w (zA w.disk) me who s p).disk=w.disk∧(yh w (zA w.disk) me who s p).kept=none∧(yh w (zA w.disk) me who s p).raws=[]:=by
 unfold yh
 split
 ·exact ⟨h,rfl,rfl,rfl⟩
 ·rename_i c1
  split
  ·exact ⟨h,rfl,rfl,rfl⟩
  ·split
   ·exact ⟨h,rfl,rfl,rfl⟩
   ·rename_i c4
    split
    ·rename_i h8
     obtain ⟨_,hp,ha⟩:=witOk_iff.1 h
     obtain ⟨q1,q2⟩:=zfg hp ⟨who,s,p⟩
     refine ⟨witOk_iff.2 ⟨h8,q1,fun x hx=>?_⟩,rfl,rfl,rfl⟩
     rcases q2 x hx with rfl | hx
     ·show (mIn who 1 20&&(mIn s 1 1000000&&mIn p.size ((zA w.disk).size+1) 256))=true
      rw [h1,h2,mIn_iff.2 ⟨by omega,h3⟩]
      rfl
     ·exact ha x hx
    ·exact ⟨h,rfl,rfl,rfl⟩
theorem zin {a b:Int} {x:MWish} (h:zhk a x=true) (hb:b+1≤x.pt.size):zhk b x=true:=by
 simp only [zhk,Bool.and_eq_true,mIn_iff] at h ⊢
 exact ⟨h.1,h.2.1,by omega⟩
structure GTop (w:MWit) (H:MHeard):Prop where
 ok:yy ⟨H.disk,H.wishes⟩=true
 no:H.kept=none→H.disk=w.disk∧H.raws=[]
 yes:∀k,H.kept=some k→(k.old=zA w.disk∧k.new=zA H.disk)∧(mGC k.old k.new (k.proof.map MDig.bd)=0∧H.disk=zC w.disk H.raws)∧(zA w.disk).size<(zA H.disk).size
theorem zjX {w:MWit} {me:Int} {m:MMsg} (h:yy w=true):GTop w (ya w (zA w.disk) me m):=by
 obtain ⟨h8,hp,ha⟩:=witOk_iff.1 h
 have hbase:GTop w (.base w):=⟨h,fun _=>⟨rfl,rfl⟩,fun k e=>(by cases e)⟩
 obtain ⟨l',e1,s1⟩:=zj1 (zA w.disk) m.size m.proof w.wishes ⟨[],false,.zero,[]⟩
 have tk:=zdD (zA w.disk) m.size m.proof w.wishes ⟨[],false,.zero,[]⟩ rfl
 have e1:(gF (zA w.disk) m.size m.proof w.wishes).left=l':=e1
 have tk:(gF (zA w.disk) m.size m.proof w.wishes).taken=true→∃x∈w.wishes,(gF (zA w.disk) m.size m.proof w.wishes).p=x.pt∧x.pt.size=m.size∧mGC (zA w.disk) x.pt (m.proof.map MDig.bd)=0:=tk
 unfold ya
 generalize gF (zA w.disk) m.size m.proof w.wishes=S at *
 split
 ·exact hbase
 ·split
  ·refine ⟨witOk_iff.2 ⟨?_,?_,?_⟩,fun _=>⟨rfl,rfl⟩,fun k e=>(by cases e)⟩
   ·show S.left.length≤8
    rw [e1]
    have:=s1.length_le
    omega
   ·show S.left.Pairwise _
    rw [e1]
    exact hp.sublist s1
   ·show ∀x∈S.left,zhk (zA w.disk).size x=true
    rw [e1]
    exact fun x hx=>ha x (s1.subset hx)
  ·rename_i ht
   split
   ·exact hbase
   ·rename_i hR
    obtain ⟨x,hx,p1,p2,p3⟩:=tk (by cases q:S.taken<;>simp_all)
    have hh:=zbP hR
    obtain ⟨l2,e2,s2,g2⟩:=zjR me S.p S.left ⟨[],S.al,[]⟩
    have e2:(hvF me S.p S.al S.left).rest=l2:=e2
    generalize hvF me S.p S.al S.left=H2 at *
    have hx1:=ha x hx
    simp only [zhk,Bool.and_eq_true,mIn_iff] at hx1
    have hsz:(zA w.disk).size<S.p.size:=by rw [p1];omega
    have s3:l2.Sublist w.wishes:=s2.trans (e1▸s1)
    refine ⟨witOk_iff.2 ⟨?_,?_,?_⟩,fun e=>(by cases e),fun k e=>?_⟩
    ·show H2.rest.length≤8
     rw [e2]
     have:=s3.length_le
     omega
    ·show H2.rest.Pairwise _
     rw [e2]
     exact hp.sublist s3
    ·show ∀y∈H2.rest,zhk (zA (zC w.disk (yQ w.disk S.p.size S.p.root))).size y=true
     rw [e2,hh]
     intro y hy
     have:=g2 y hy
     exact zin (ha y (s3.subset hy)) (by show S.p.size+1≤_;omega)
    ·cases e
     refine ⟨⟨rfl,?_⟩,⟨?_,rfl⟩,?_⟩
     ·show S.p=zA (zC w.disk (yQ w.disk S.p.size S.p.root))
      rw [hh]
     ·show mGC (zA w.disk) S.p (m.proof.map MDig.bd)=0
      rw [p1]
      exact p3
     ·show _<(zA (zC w.disk (yQ w.disk S.p.size S.p.root))).size
      rw [hh]
      exact hsz
end Go.Proofs.YtpjpkmhaffmbmaaGreat.E
end
section
namespace Go.Proofs.YtpjpkmhaffmbmaaGreat.E
open Go Go.RowKit
set_option linter.unusedVariables false
set_option linter.unusedSimpArgs false
def zco (me:Int) (now:MPt) (l:MLet):Prop:=(zl l.text).2.1=0∧l.from_=me∧
 (((zl l.text).1.kind=6∧((zl l.text).1.size=now.size∧(zl l.text).1.root=now.root)∧1≤now.size)∨((zl l.text).1.kind=4∧l.to_=0))
theorem zfW (me:Int) (p:MPt) (l:List MWish) (Q:MLet→Prop) (hq:∀x∈l,yR x.pt p=true→Q (zaP me x.who x.session p)):∀s:HSt,(∀y∈s.le,Q y)→∀y∈(l.foldl (xY me p) s).le,Q y:=by
 induction l with
 | nil=>intro s h;exact h
 | cons a l ih=>
  intro s h
  rw [List.foldl_cons]
  refine ih (fun x hx=>hq x (List.mem_cons_of_mem _ hx)) _ ?_
  unfold xY
  split
  ·rename_i e
   intro y hy
   rcases List.mem_append.1 hy with hy | hy
   ·exact h y hy
   ·rw [List.mem_singleton.1 hy]
    exact hq a (List.mem_cons_self ..) e
  ·split
   ·exact h
   ·split
    ·exact h
    ·exact h
theorem zc9 {m:MMsg} (hok:zy m=true) (hr:m.root.ok) (hd:∀d∈m.proof,d.ok):zl (zF m)=(m,0,0):=by
 unfold zF
 rw [if_pos hok]
 exact zil hok hr hd
theorem zkD {me who s:Int} {p:MPt} (hs:1≤s∧s≤1000000) (hz:1≤p.size∧p.size≤256) (hr:p.root.ok):zco me p (zaP me who s p):=by
 have h:=zc9 (m:=zjC s p) (zdn hs ⟨by omega,hz.2⟩) hr (by intro d hd;cases hd)
 unfold zco
 rw [show (zaP me who s p).text=zF (zjC s p) from rfl,h]
 exact ⟨rfl,rfl,.inl ⟨rfl,⟨rfl,rfl⟩,hz.1⟩⟩
theorem zi8 {me a b:Int} {now:MPt} (ha:0≤a∧a≤256) (hb:0≤b∧b≤256):zco me now (zdu me a b):=by
 have h:=zc9 (m:=⟨4,0,a,b,dig0,0,[],[]⟩) (zns ha hb) yw (by intro d hd;cases hd)
 unfold zco
 rw [show (zdu me a b).text=zF ⟨4,0,a,b,dig0,0,[],[]⟩ from rfl,h]
 exact ⟨rfl,rfl,.inr ⟨rfl,rfl⟩⟩
theorem zis {w:MWit} {me who s:Int} {p:MPt} (hs:1≤s∧s≤1000000) (hz:0≤p.size∧p.size≤256) (hr:p.root.ok):∀l∈(yh w (zA w.disk) me who s p).letters,zco me (zA w.disk) l:=by
 unfold yh
 split
 ·intro l hl;cases hl
 ·rename_i c1
  split
  ·rename_i e
   intro l hl
   have hp:p=zA w.disk:=by
    have e:=e
    generalize zA w.disk=q at *
    obtain ⟨a,⟨a1,a2,a3,a4⟩⟩:=p
    obtain ⟨b,⟨b1,b2,b3,b4⟩⟩:=q
    simp only [yR,Bool.and_eq_true,beq_iff_eq] at e
    obtain ⟨h1,h2,h3,h4,h5⟩:=e
    have:a1=b1:=by omega
    have:a2=b2:=by omega
    have:a3=b3:=by omega
    have:a4=b4:=by omega
    subst_vars
    rfl
   have hl:l=zaP me who s p:=List.mem_singleton.1 hl
   rw [hl,←hp]
   exact zkD hs ⟨by omega,hz.2⟩ hr
  ·split
   ·intro l hl;cases hl
   ·split
    ·intro l hl
     have hl:l=zdu me (zA w.disk).size p.size:=List.mem_singleton.1 hl
     rw [hl]
     exact zi8 (zaY w.disk) hz
    ·intro l hl;cases hl
theorem zhN {w:MWit} {me:Int} {m:MMsg} (h:yy w=true) (hwo:∀x∈w.wishes,x.pt.root.ok):∀l∈(ya w (zA w.disk) me m).letters,zco me (zA (ya w (zA w.disk) me m).disk) l:=by
 obtain ⟨h8,hp,ha⟩:=witOk_iff.1 h
 obtain ⟨l',e1,s1⟩:=zj1 (zA w.disk) m.size m.proof w.wishes ⟨[],false,.zero,[]⟩
 have tk:=zdD (zA w.disk) m.size m.proof w.wishes ⟨[],false,.zero,[]⟩ rfl
 have e1:(gF (zA w.disk) m.size m.proof w.wishes).left=l':=e1
 have tk:(gF (zA w.disk) m.size m.proof w.wishes).taken=true→∃x∈w.wishes,(gF (zA w.disk) m.size m.proof w.wishes).p=x.pt∧x.pt.size=m.size∧mGC (zA w.disk) x.pt (m.proof.map MDig.bd)=0:=tk
 unfold ya
 generalize gF (zA w.disk) m.size m.proof w.wishes=S at *
 split
 ·intro l hl;cases hl
 ·split
  ·intro l hl;cases hl
  ·rename_i ht
   split
   ·intro l hl;cases hl
   ·rename_i hR
    obtain ⟨x,hx,p1,p2,p3⟩:=tk (by cases q:S.taken<;>simp_all)
    have hx1:=ha x hx
    simp only [zhk,Bool.and_eq_true,mIn_iff] at hx1
    have hb:=zaY w.disk
    intro l hl
    show zco me (zA (zC w.disk (yQ w.disk S.p.size S.p.root))) l
    rw [zbP hR]
    refine zfW me S.p S.left (zco me ⟨S.p.size,S.p.root⟩) (fun y hy e=>?_) ⟨[],S.al,[]⟩ (fun y hy=>by cases hy) l hl
    rw [e1] at hy
    have hy1:=ha y (s1.subset hy)
    simp only [zhk,Bool.and_eq_true,mIn_iff] at hy1
    exact zkD (by omega) ⟨by show 1≤S.p.size;rw [p1];omega,by show S.p.size≤256;rw [p1];omega⟩ (by show S.p.root.ok;rw [p1];exact hwo x hx)
theorem GTop.vouch {w:MWit} {H:MHeard} (h:yy ⟨H.disk,H.wishes⟩=true∧H.disk=w.disk∧H.kept=none∧H.raws=[]):GTop w H:=
 ⟨h.1,fun _=>⟨h.2.1,h.2.2.2⟩,fun k e=>by rw [h.2.2.1] at e;cases e⟩
theorem zio {w:MWit} {me:Int} {l:MLet} (hw:yy w=true) (hl:qm l=true) (hm:mIn me 1 20=true) (hwo:∀x∈w.wishes,x.pt.root.ok):
  GTop w (yF w me l)∧∀x∈(yF w me l).letters,zco me (zA (yF w me l).disk) x:=by
 unfold yF
 rw [if_pos (by rw [hw,hl,hm];rfl)]
 have hinv:=ji l.text
 generalize zl l.text=W at *
 obtain ⟨x,code,at_⟩:=W
 simp only at hinv ⊢
 split
 ·rename_i c
  simp only [Bool.and_eq_true,beq_iff_eq,decide_eq_true_eq] at c
  obtain ⟨c1,c2,c3⟩:=c
  obtain ⟨i1,i2,-,-⟩:=hinv c1
  have ok:=WOk.of i1
  have hs:1≤x.session∧x.session≤1000000:=by
   simp only [zy,Bool.and_eq_true] at i1
   have h:=i1.2.1
   rw [c2] at h
   exact mIn_iff.1 h
  have hf:mIn l.from_ 1 20=true:=by
   simp only [qm,Bool.and_eq_true,mIn_iff] at hl
   exact mIn_iff.2 ⟨by omega,hl.1.2⟩
  have hv:=zk1 (w:=w) (me:=me) (p:=⟨x.size,x.root⟩) hw hf (mIn_iff.2 hs) ok.z.2
  refine ⟨.vouch hv,?_⟩
  rw [hv.2.1]
  exact zis hs ok.z i2
 ·split
  ·exact ⟨zjX hw,zhN hw hwo⟩
  ·exact ⟨⟨hw,fun _=>⟨rfl,rfl⟩,fun k e=>(by cases e)⟩,fun y hy=>(by cases hy)⟩
end Go.Proofs.YtpjpkmhaffmbmaaGreat.E
end
section
namespace Go.Proofs.YtpjpkmhaffmbmaaGreat.E
open Go Go.RowKit
set_option linter.unusedVariables false
set_option linter.unusedSimpArgs false
structure HMore (w:MWit) (H:MHeard):Prop where
 d:H.disk.ok
 ws:H.wishes.length≤17
 r:H.raws.length≤8
 l:H.letters.length≤100
 a:H.alarms.length≤100
 k:∀k,H.kept=some k→(∀d∈k.proof,d.ok)∧k.proof.length≤1000
 n:H.kept=none→H.raws=[]
 s:∀k,H.kept=some k→H.raws=yQ w.disk k.new.size k.new.root∧H.raws≠[]
 x:(∀x∈w.wishes,x.pt.root.ok)→∀x∈H.wishes,x.pt.root.ok
 v:∀r∈H.raws,r.value<18446744073709551616
theorem zif (d:MDisk) (size:Int) (root:MDig):(yQ d size root).length≤8:=by
 rw [xm]
 split
 ·exact Nat.le_refl 8
 ·exact Nat.zero_le _
theorem HMore.base {w:MWit} (hd:w.disk.ok) (h:w.wishes.length≤17):HMore w (.base w):=
 ⟨hd,h,Nat.zero_le _,Nat.zero_le _,Nat.zero_le _,fun k e=>(by cases e),fun _=>rfl,fun k e=>(by cases e),fun h=>h,fun r hr=>(by cases hr)⟩
theorem zhm {w:MWit} {held:MPt} {me who s:Int} {p:MPt} (hd:w.disk.ok) (h:w.wishes.length≤8) (hp:p.root.ok):HMore w (yh w held me who s p):=by
 have hb:=HMore.base hd (show w.wishes.length≤17 by omega)
 have hl:=jQ h ⟨who,s,p⟩
 have hm:(∀x∈w.wishes,x.pt.root.ok)→∀x∈yu w.wishes ⟨who,s,p⟩,x.pt.root.ok:=by
  intro hw
  unfold yu
  have key:∀(l:List MWish) (st:List MWish × Bool),(∀x∈l,x.pt.root.ok)→(∀x∈st.1,x.pt.root.ok)→∀x∈(l.foldl (zV ⟨who,s,p⟩) st).1,x.pt.root.ok:=by
   intro l
   induction l with
   | nil=>intro st _ h;exact h
   | cons a l ih=>
    intro st h1 h2
    rw [List.foldl_cons]
    refine ih _ (fun x hx=>h1 x (List.mem_cons_of_mem _ hx)) ?_
    have ha:=h1 a (List.mem_cons_self ..)
    unfold zV
    intro x hx
    repeat' split at hx
    all_goals
     try simp only [List.mem_append,List.mem_singleton,List.mem_cons,List.not_mem_nil,or_false] at hx
    all_goals first
     | exact h2 x hx
     | (rcases hx with hx | rfl
        ·exact h2 x hx
        ·first | exact ha | exact hp)
     | (rcases hx with (hx | rfl) | rfl
        ·exact h2 x hx
        ·exact hp
        ·exact ha)
     | (rcases hx with hx | rfl | rfl
        ·exact h2 x hx
        ·exact hp
        ·exact ha)
  have hk:=key w.wishes ([],false) hw (fun x hx=>by cases hx)
  split
  ·exact hk
  ·intro x hx
   rcases List.mem_append.1 hx with hx | hx
   ·exact hk x hx
   ·rw [List.mem_singleton.1 hx];exact hp
 unfold yh
 split
 ·exact hb
 ·split
  ·exact ⟨hd,hb.ws,Nat.zero_le _,by show 1≤100;omega,Nat.zero_le _,fun k e=>(by cases e),fun _=>rfl,fun k e=>(by cases e),fun h=>h,fun r hr=>(by cases hr)⟩
  ·split
   ·exact ⟨hd,hb.ws,Nat.zero_le _,Nat.zero_le _,by show 1≤100;omega,fun k e=>(by cases e),fun _=>rfl,fun k e=>(by cases e),fun h=>h,fun r hr=>(by cases hr)⟩
   ·split
    ·exact ⟨hd,hl,Nat.zero_le _,by show 1≤100;omega,Nat.zero_le _,fun k e=>(by cases e),fun _=>rfl,fun k e=>(by cases e),hm,fun r hr=>(by cases hr)⟩
    ·exact hb
theorem zfY {w:MWit} {held:MPt} {me:Int} {m:MMsg} (hd:w.disk.ok) (h:w.wishes.length≤8) (hm:∀d∈m.proof,d.ok) (hml:m.proof.length≤1000) (hwo:∀x∈w.wishes,x.pt.root.ok):HMore w (ya w held me m):=by
 have hb:=HMore.base hd (show w.wishes.length≤17 by omega)
 have h1:=zhP held m.size m.proof w.wishes
 have h2:=zcY me (gF held m.size m.proof w.wishes).p (gF held m.size m.proof w.wishes).al (gF held m.size m.proof w.wishes).left
 obtain ⟨l',e1,s1⟩:=zj1 held m.size m.proof w.wishes ⟨[],false,.zero,[]⟩
 have tk:(gF held m.size m.proof w.wishes).taken=true→∃x∈w.wishes,(gF held m.size m.proof w.wishes).p=x.pt∧x.pt.size=m.size∧mGC held x.pt (m.proof.map MDig.bd)=0:=zdD held m.size m.proof w.wishes ⟨[],false,.zero,[]⟩ rfl
 have e1:(gF held m.size m.proof w.wishes).left=l':=e1
 obtain ⟨l2,e2,s2,-⟩:=zjR me (gF held m.size m.proof w.wishes).p (gF held m.size m.proof w.wishes).left ⟨[],(gF held m.size m.proof w.wishes).al,[]⟩
 have e2:(hvF me (gF held m.size m.proof w.wishes).p (gF held m.size m.proof w.wishes).al (gF held m.size m.proof w.wishes).left).rest=l2:=e2
 unfold ya
 generalize gF held m.size m.proof w.wishes=S at *
 split
 ·exact hb
 ·split
  ·exact ⟨hd,by show S.left.length≤17;omega,Nat.zero_le _,Nat.zero_le _,by show S.al.length≤100;omega,fun k e=>(by cases e),fun _=>rfl,fun k e=>(by cases e),fun hw x hx=>hw x (s1.subset (e1▸hx)),fun r hr=>(by cases hr)⟩
  ·rename_i ht
   split
   ·exact hb
   ·rename_i hR
    obtain ⟨x,hx,p1,p2,p3⟩:=tk (by cases q:S.taken<;>simp_all)
    generalize hvF me S.p S.al S.left=T at *
    refine ⟨zjP hd (by rw [p1];exact hwo x hx),by show T.rest.length≤17;omega,zif _ _ _,by show T.le.length≤100;omega,by show T.al.length≤100;omega,fun k e=>?_,fun e=>(by cases e),fun k e=>?_,fun hw x hx=>hw x (s1.subset (e1▸s2.subset (e2▸hx))),zey (by rw [p1];exact hwo x hx)⟩
    ·cases e;exact ⟨hm,hml⟩
    ·cases e;exact ⟨rfl,hR⟩
theorem zhl {w:MWit} {me:Int} {l:MLet} (hd:w.disk.ok) (hwo:∀x∈w.wishes,x.pt.root.ok):HMore w (yF w me l):=by
 have hinv:=ji l.text
 have hro:=zgO (s:=l.text)
 have hln:=zbD l.text
 unfold yF
 generalize zl l.text=W at *
 obtain ⟨x,code,at_⟩:=W
 simp only at hinv hro hln ⊢
 split
 ·rename_i h
  simp only [Bool.and_eq_true] at h
  have h8:=za7 h.1
  split
  ·exact zhm hd h8 hro
  ·split
   ·rename_i c
    simp only [Bool.and_eq_true,beq_iff_eq] at c
    obtain ⟨i1,i2,i3,-⟩:=hinv c.1
    exact zfY hd h8 i3 hln.1 hwo
   ·exact HMore.base hd (by omega)
 ·exact ⟨zaS,Nat.zero_le _,Nat.zero_le _,Nat.zero_le _,Nat.zero_le _,fun k e=>(by cases e),fun _=>rfl,fun k e=>(by cases e),fun _ x hx=>(by cases hx),fun r hr=>(by cases hr)⟩
theorem zq1 {d:MDisk} {l:List MRaw} {cut:Int} (hd:d.ok) (hl:∀r∈l,r.value<18446744073709551616):(zfR d l cut).ok:=zbC hd (qv hl _)
theorem mend_ok {d:MDisk} {cut:Int} (hd:d.ok):(zfR d (zeA d) cut).ok:=zq1 hd fun r hr=>by rw [zjw d r hr];decide
theorem zpp {w:MWit} {H:MHeard} (h:HMore w H) (cut:Nat) (j:Int):
  (cut<H.raws.length→zA (zfR (zfR w.disk H.raws cut) (zeA (zfR w.disk H.raws cut)) j)=zA w.disk)∧
  (cut=H.raws.length→∀k,H.kept=some k→zA (zfR (zfR w.disk H.raws cut) (zeA (zfR w.disk H.raws cut)) j)=k.new):=by
 have hm:=zaD (zjp (zfR w.disk H.raws cut) j)
 rw [hm]
 refine ⟨fun hlt=>?_,fun he k hk=>?_⟩
 ·cases hk:H.kept with
  | none=>
   rw [h.n hk] at hlt
   cases hlt
  | some k=>
   rw [(h.s k hk).1] at hlt ⊢
   exact zaD (zi1 hlt)
 ·have e:zfR w.disk H.raws cut=zC w.disk H.raws:=by
   unfold zfR
   rw [show ((cut:Int)).toNat=cut from rfl,he,List.take_length]
  obtain ⟨e1,e2⟩:=h.s k hk
  rw [e]
  rw [e1] at e2 ⊢
  exact zbP e2
end Go.Proofs.YtpjpkmhaffmbmaaGreat.E
end
