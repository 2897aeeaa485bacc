/- Contracts: a message read, in the specification. -/
import Derived.Test.YtobpfkgabdeefaaGreatQ5
namespace Go.Proofs.YtobpfkgabdeefaaGreat.E
open Go Go.RowKit
set_option maxHeartbeats 4000000
set_option maxRecDepth 10000
set_option linter.unusedSimpArgs false
set_option linter.unusedVariables false
set_option linter.unusedSectionVars false
def afh:cc:=⟨[(265,.cm [true,false,false,false]),(267,.cm [true]),(268,.cm [true,false]),(269,.cm [true,false,false])],cw,cz,false⟩
structure aJ where
 kind:Int
 bU:Int
 from_:Int
 size:Int
 root:aX
 count:Int
 proof:List aX
 az:List ByteArray
def aJ.zero:aJ:=⟨0,0,0,0,⟨0,0,0,0⟩,0,[],[]⟩
def cF (s:ByteArray):List AV:=[vS s]
def aJ.av (m:aJ) (q:List Nat):AV:=.agg [vI m.kind,vI m.bU,vI m.from_,vI m.size,vU m.root.a,vU m.root.b,vU m.root.c,vU m.root.d,vI m.count,.aw 0 0 (q++[9]) 4 0 m.proof.length,.aw 0 0 (q++[10]) 1 0 m.az.length]
def aJ.rf (m:aJ) (q:List Nat):List (List Nat × Row):=[(q++[9],⟨4,m.proof.map aX.cs,2,false⟩),(q++[10],⟨1,m.az.map cF,2,false⟩)]
attribute [go_sem] aJ.av aJ.rf cF
structure ni (text:ByteArray) (r:ch):Prop where
 t:r.t=text
 p:r.p<=text.size
theorem ni.raw {text:ByteArray}{r:ch}(h:ni text r) (n:Nat):ni text (eR r n).2:=by
 unfold eR;split
 ·split
  ·exact⟨h.t,h.p⟩
  exact⟨h.t,by have:=h.t;subst this;show r.p+n<=_;omega⟩
 exact h
theorem ni.num {text:ByteArray}{r:ch}(h:ni text r) (n:Nat) (a b:Int):ni text (cV r n a b).2:=by
 have:=h.raw n;unfold cV;split
 ·split
  ·exact this
  exact⟨this.t,this.p⟩
 exact this
theorem ni.dg {text:ByteArray}{r:ch}(h:ni text r):ni text (jS r).2:=h.raw 32
def gC:Nat->ch->List aX × ch
 | 0,r=>([],r)
 | n+1,r=>((gC n r).1++[(jS (gC n r).2).1],(jS (gC n r).2).2)
def qp (r:ch):ByteArray × ch:=eR (cV r 1 0 40).2 (cV r 1 0 40).1.toNat
def fq:Nat->ch->List ByteArray × ch
 | 0,r=>([],r)
 | n+1,r=>((fq n r).1++[(qp (fq n r).2).1],(qp (fq n r).2).2)
theorem ni.T5 {text:ByteArray}{r:ch}(h:ni text r) (n:Nat):ni text (gC n r).2:=by
 induction n with
 | zero=>exact h
 | succ n ih=>exact ih.dg
theorem ni.R3 {text:ByteArray}{r:ch}(h:ni text r) (n:Nat):ni text (fq n r).2:=by
 induction n with
 | zero=>exact h
 | succ n ih=>exact(ih.num 1 0 40).raw _
def pS (x:ch × aJ):ch × aJ:=((cV x.1 3 1 1000000).2,{x.2 with bU:=(cV x.1 3 1 1000000).1})
def pF (x:ch × aJ):ch × aJ:=((cV x.1 2 0 256).2,{x.2 with from_:=(cV x.1 2 0 256).1})
def pZ (x:ch × aJ):ch × aJ:=((cV x.1 2 0 256).2,{x.2 with size:=(cV x.1 2 0 256).1})
def pR (x:ch × aJ):ch × aJ:=((jS x.1).2,{x.2 with root:=(jS x.1).1})
def pC (x:ch × aJ):ch × aJ:=((cV x.1 1 1 8).2,{x.2 with count:=(cV x.1 1 1 8).1})
def pP (x:ch × aJ):ch × aJ:=((gC (cV x.1 1 0 16).1.toNat (cV x.1 1 0 16).2).2,{x.2 with proof:=(gC (cV x.1 1 0 16).1.toNat (cV x.1 1 0 16).2).1})
def pL (x:ch × aJ):ch × aJ:=((fq (cV x.1 1 0 8).1.toNat (cV x.1 1 0 8).2).2,{x.2 with az:=(fq (cV x.1 1 0 8).1.toNat (cV x.1 1 0 8).2).1})
def mP (k:Nat) (x:ch × aJ):ch × aJ:=match k with
 | 1=>pS x
 | 2=>pR (pZ (pS x))
 | 3=>pR (pZ (pS x))
 | 4=>pZ (pF x)
 | 5=>pP (pZ (pF x))
 | 6=>pR (pZ (pS x))
 | 7=>pC (pF x)
 | 8=>pL (pF x)
 | _=>x
def ek (text:ByteArray) (x:ch × aJ):aJ × Int × Int:=
 if x.1.code=0 then(if x.1.p<text.size then(.zero,4,x.1.p) else(x.2,0,0)) else(.zero,x.1.code,x.1.at_)
def cf (text:ByteArray):aJ × Int × Int:=
 if text.size=0 then(.zero,2,0) else if 1<=bN text 0/\bN text 0<=8 then ek text (mP (bN text 0) (⟨text,1,0,0⟩,{aJ.zero with kind:=bN text 0})) else(.zero,1,0)
theorem Kd (i:Nat) (r:ch):(gC i r).1.length=i:=by
 induction i with
 | zero=>rfl
 | succ i ih=>simp[gC,ih]
theorem Ka (i:Nat) (r:ch):(fq i r).1.length=i:=by
 induction i with
 | zero=>rfl
 | succ i ih=>simp[fq,ih]
theorem aX.wide (l:List aX):fN 4 (l.map aX.cs)=true:=by
 induction l with
 | nil=>rfl
 | cons a l ih=>simp only[List.map_cons,fN,ih,aX.cs];rfl
theorem aX.flat (l:List aX):dJ (l.map aX.cs)=2:=by
 induction l with
 | nil=>rfl
 | cons a l ih=>simp only[List.map_cons,dJ,ih,aX.cs];rfl
theorem ab3 (l:List ByteArray):fN 1 (l.map cF)=true:=by
 induction l with
 | nil=>rfl
 | cons a l ih=>simp only[List.map_cons,fN,ih,cF];rfl
theorem ab5 (l:List ByteArray):dJ (l.map cF)=2:=by
 induction l with
 | nil=>rfl
 | cons a l ih=>simp only[List.map_cons,dJ,ih,cF];rfl
theorem Yn {α β:Type}(f:α->β) (l:List α):List.take l.length (l.map f)=l.map f:=List.take_of_length_le (by simp)
theorem aey {α:Type}(n:Nat) (x:α):List.drop n (List.replicate n x)=[]:=List.drop_of_length_le (by simp)
attribute [go_sem] aX.wide aX.flat ab3 ab5 Yn aey
theorem pA {a b:Nat}(h:a * b<=140737488355328) (hb:1<=b):a<=maxLen:=by
 have:a * 1<=a * b:=Nat.mul_le_mul_left a hb;unfold maxLen;omega
theorem ed {α:Type}{E:α->List AV}{l:List α}{xs:List (List AV)}{b n:Nat}(hn:(l.length+xs.length)<=n) (h:n * b<=140737488355328) (hb:1<=b):(l.map E++xs).length<=maxLen/\(l.map E++xs).length * b<=140737488355328:=by
 have e:(l.map E++xs).length=l.length+xs.length:=by simp
 rw[e];have:=Nat.mul_le_mul_right b hn;exact⟨pA (by omega) hb,by omega⟩
theorem ve (r:ch) (n:Nat) (b:Int) (hb:0<=b):0<=(cV r n 0 b).1/\(cV r n 0 b).1<=b:=by
 unfold cV;split
 ·split
  ·rename_i h1 h;simp only[aS,Bool.and_eq_true,decide_eq_true_eq]at h;exact h
  exact⟨Int.le_refl _,hb⟩
 exact⟨Int.le_refl _,hb⟩
theorem sm:(⟨#[]⟩:ByteArray).toList=[]:=by
 simp[ByteArray.toList,ByteArray.toList.loop,ByteArray.size]
theorem OJ (a:UInt8):(⟨#[a]⟩:ByteArray).toList=[a]:=by
 simp[ByteArray.toList,ByteArray.toList.loop,ByteArray.size,ByteArray.get!]
theorem EJ (a b:UInt8):(⟨#[a,b]⟩:ByteArray).toList=[a,b]:=by
 simp[ByteArray.toList,ByteArray.toList.loop,ByteArray.size,ByteArray.get!]
theorem A9 (a b c:UInt8):(⟨#[a,b,c]⟩:ByteArray).toList=[a,b,c]:=by
 simp[ByteArray.toList,ByteArray.toList.loop,ByteArray.size,ByteArray.get!]
theorem Wp {s:ByteArray}(h:0<s.size):bN (s.extract 0 1) 0=bN s 0:=by
 have h':0<s.data.size:=h;show(((s.extract 0 1).data[0]!).toNat)=(s.data[0]!).toNat
 rw[ByteArray.data_extract,getElem!_def,getElem!_def,Array.getElem?_extract];have h2:0<min 1 s.data.size:=by omega
 simp[h2];split<;>simp_all
theorem abJ {text:ByteArray}(h:0<text.size) (h1:1<=bN text 0/\bN text 0<=8):cV ⟨text,0,0,0⟩ 1 1 8=((bN text 0:Int),⟨text,1,0,0⟩):=by
 have hr:eR ⟨text,0,0,0⟩ 1=(text.extract 0 1,⟨text,1,0,0⟩):=by
  unfold eR;rw[if_pos rfl,if_neg (show ¬0+1>text.size by omega)]
 have hs:(text.extract 0 1).size=1:=by rw[ByteArray.size_extract];omega
 unfold cV;rw[hr];simp only[hs,kh,Nat.mul_zero,Nat.zero_add,Wp h,if_true];rw[if_pos];simp[aS];omega
theorem Dw (text:ByteArray) (ht:text.size<=1000000000000):ba Tryz.prog 232 [vS text] (.aZ [(cf text).1.av [0],.agg [vI (cf text).2.1,vI (cf text).2.2]]) ((cf text).1.rf [0]):=by
 refine aF afh false Tryz.f232 ?_;conv=>enter[1];reduce
 refine bu Tryz.f232 116 [.cell 2 193,.cell 3 195] (by kernel_rfl) (by decide +kernel) rfl ?_;refine au ?_;refine bX (fun h=>?_) (fun h=>?_)
 ·have h':text.size=0:=by simpa using h
  simp -implicitDefEqProofs only[go_sem,h,cf,h',aJ.zero];rfl
 have h':¬text.size=0:=by simpa using h
 have hg:=yu (s:=text) (i:=0) (by omega);have hb:=yF text 0;have w1:IntKind.i64.wrap (bN text 0:Int)=(bN text 0:Int):=aN (by omega);refine eV h hg w1 ?_;refine cT (ML _) ?_;by_cases cq:1<=bN text 0/\bN text 0<=8
 ·have hf:=abJ (text:=text) (by omega) cq;have r1:ni text ⟨text,1,0,0⟩:=⟨rfl,by show 1<=text.size;omega⟩;have hk:bN text 0=1\/bN text 0=2\/bN text 0=3\/bN text 0=4\/bN text 0=5\/bN text 0=6\/bN text 0=7\/bN text 0=8:=by omega
  rcases hk with hk|hk|hk|hk|hk|hk|hk|hk
  ·have hH:gS (bN text 0:Int)=⟨#[115]⟩:=by rw[hk];rfl
   have hP:∀x,mP (bN text 0) x=pS x:=fun x=>by rw[hk];rfl
   have he:((⟨#[115]⟩:ByteArray).toList==(⟨#[]⟩:ByteArray).toList)=false:=by rw[OJ,sm];rfl
   refine b8 hH he ?_;refine aE.intro (jD ⟨text,0,0,0⟩ 1 1 8 (by omega) (aR _) ht) ?_;simp -implicitDefEqProofs only[go_sem,hf];repeat(refine aq.intro (by first|exact aM _ 115 (by decide)|exact aM _ 102 (by decide)|exact aM _ 110 (by decide)|exact aM _ 114 (by decide)|exact aM _ 99 (by decide)|exact aM _ 112 (by decide)|exact aM _ 108 (by decide)) ?_;simp -implicitDefEqProofs only[go_sem])
   refine aE.intro (jD ⟨text,1,0,0⟩ 3 1 1000000 (by omega) r1.p ht) ?_;have r2:=r1.num 3 1 1000000;generalize oo:cV ⟨text,1,0,0⟩ 3 1 1000000=x at *;obtain⟨v2,t2,p2,c2,a2⟩:=x;have xK:t2=text:=r2.t;subst t2;simp -implicitDefEqProofs only[go_sem];repeat(refine aq.intro (by first|exact aM _ 115 (by decide)|exact aM _ 102 (by decide)|exact aM _ 110 (by decide)|exact aM _ 114 (by decide)|exact aM _ 99 (by decide)|exact aM _ 112 (by decide)|exact aM _ 108 (by decide)) ?_;simp -implicitDefEqProofs only[go_sem])
   have hM:cf text=ek text (⟨text,p2,c2,a2⟩,⟨bN text 0,v2,0,0,⟨0,0,0,0⟩,0,[],[]⟩):=by
    unfold cf;rw[if_neg h',if_pos cq,hP];simp only[pS,pF,pZ,pR,pC,oo];rfl
   refine bX (fun h=>?_) (fun h=>?_)
   ·have hp:p2<text.size:=by have:=of_decide_eq_true h;omega
    refine aA h ?_;refine aE.intro (tq ⟨text,p2,c2,a2⟩ 4 p2) ?_;by_cases hc:c2=0
    ·simp -implicitDefEqProofs only[go_sem,kE,hM,ek,hc,hp,aJ.zero];try rfl
    have ff:(c2 != 0)=true:=by simpa using hc
    simp -implicitDefEqProofs only[go_sem,kE,hM,ek,hc,ff,hp,aJ.zero];try rfl
   have hp:¬p2<text.size:=by have:=of_decide_eq_false h;omega
   by_cases hc:c2=0
   ·subst hc;simp -implicitDefEqProofs only[go_sem,h,hM,ek,hp,aJ.zero];try rfl
   have ff:(c2 != 0)=true:=by simpa using hc
   simp -implicitDefEqProofs only[go_sem,h,hM,ek,hc,ff,hp,aJ.zero];try rfl
  ·have hH:gS (bN text 0:Int)=⟨#[115,110,114]⟩:=by rw[hk];rfl
   have hP:∀x,mP (bN text 0) x=pR (pZ (pS x)):=fun x=>by rw[hk];rfl
   have he:((⟨#[115,110,114]⟩:ByteArray).toList==(⟨#[]⟩:ByteArray).toList)=false:=by rw[A9,sm];rfl
   refine b8 hH he ?_;refine aE.intro (jD ⟨text,0,0,0⟩ 1 1 8 (by omega) (aR _) ht) ?_;simp -implicitDefEqProofs only[go_sem,hf];repeat(refine aq.intro (by first|exact aM _ 115 (by decide)|exact aM _ 102 (by decide)|exact aM _ 110 (by decide)|exact aM _ 114 (by decide)|exact aM _ 99 (by decide)|exact aM _ 112 (by decide)|exact aM _ 108 (by decide)) ?_;simp -implicitDefEqProofs only[go_sem])
   refine aE.intro (jD ⟨text,1,0,0⟩ 3 1 1000000 (by omega) r1.p ht) ?_;have r2:=r1.num 3 1 1000000;generalize oo:cV ⟨text,1,0,0⟩ 3 1 1000000=x at *;obtain⟨v2,t2,p2,c2,a2⟩:=x;have xK:t2=text:=r2.t;subst t2;simp -implicitDefEqProofs only[go_sem];repeat(refine aq.intro (by first|exact aM _ 115 (by decide)|exact aM _ 102 (by decide)|exact aM _ 110 (by decide)|exact aM _ 114 (by decide)|exact aM _ 99 (by decide)|exact aM _ 112 (by decide)|exact aM _ 108 (by decide)) ?_;simp -implicitDefEqProofs only[go_sem])
   refine aE.intro (jD ⟨text,p2,c2,a2⟩ 2 0 256 (by omega) r2.p ht) ?_;have r3:=r2.num 2 0 256;generalize pI:cV ⟨text,p2,c2,a2⟩ 2 0 256=x at *;obtain⟨v3,t3,p3,c3,a3⟩:=x;have zL:t3=text:=r3.t;subst t3;simp -implicitDefEqProofs only[go_sem];repeat(refine aq.intro (by first|exact aM _ 115 (by decide)|exact aM _ 102 (by decide)|exact aM _ 110 (by decide)|exact aM _ 114 (by decide)|exact aM _ 99 (by decide)|exact aM _ 112 (by decide)|exact aM _ 108 (by decide)) ?_;simp -implicitDefEqProofs only[go_sem])
   refine aE.intro (HD ⟨text,p3,c3,a3⟩ r3.p ht) ?_;have r4:=r3.dg;generalize uf:jS ⟨text,p3,c3,a3⟩=x at *;obtain⟨⟨A8,A7,A6,A4⟩,t4,p4,c4,a4⟩:=x;have Gm:t4=text:=r4.t;subst t4;simp -implicitDefEqProofs only[go_sem];repeat(refine aq.intro (by first|exact aM _ 115 (by decide)|exact aM _ 102 (by decide)|exact aM _ 110 (by decide)|exact aM _ 114 (by decide)|exact aM _ 99 (by decide)|exact aM _ 112 (by decide)|exact aM _ 108 (by decide)) ?_;simp -implicitDefEqProofs only[go_sem])
   have hM:cf text=ek text (⟨text,p4,c4,a4⟩,⟨bN text 0,v2,0,v3,⟨A8,A7,A6,A4⟩,0,[],[]⟩):=by
    unfold cf;rw[if_neg h',if_pos cq,hP];simp only[pS,pF,pZ,pR,pC,oo,pI,uf];rfl
   refine bX (fun h=>?_) (fun h=>?_)
   ·have hp:p4<text.size:=by have:=of_decide_eq_true h;omega
    refine aA h ?_;refine aE.intro (tq ⟨text,p4,c4,a4⟩ 4 p4) ?_;by_cases hc:c4=0
    ·simp -implicitDefEqProofs only[go_sem,kE,hM,ek,hc,hp,aJ.zero];try rfl
    have ff:(c4 != 0)=true:=by simpa using hc
    simp -implicitDefEqProofs only[go_sem,kE,hM,ek,hc,ff,hp,aJ.zero];try rfl
   have hp:¬p4<text.size:=by have:=of_decide_eq_false h;omega
   by_cases hc:c4=0
   ·subst hc;simp -implicitDefEqProofs only[go_sem,h,hM,ek,hp,aJ.zero];try rfl
   have ff:(c4 != 0)=true:=by simpa using hc
   simp -implicitDefEqProofs only[go_sem,h,hM,ek,hc,ff,hp,aJ.zero];try rfl
  ·have hH:gS (bN text 0:Int)=⟨#[115,110,114]⟩:=by rw[hk];rfl
   have hP:∀x,mP (bN text 0) x=pR (pZ (pS x)):=fun x=>by rw[hk];rfl
   have he:((⟨#[115,110,114]⟩:ByteArray).toList==(⟨#[]⟩:ByteArray).toList)=false:=by rw[A9,sm];rfl
   refine b8 hH he ?_;refine aE.intro (jD ⟨text,0,0,0⟩ 1 1 8 (by omega) (aR _) ht) ?_;simp -implicitDefEqProofs only[go_sem,hf];repeat(refine aq.intro (by first|exact aM _ 115 (by decide)|exact aM _ 102 (by decide)|exact aM _ 110 (by decide)|exact aM _ 114 (by decide)|exact aM _ 99 (by decide)|exact aM _ 112 (by decide)|exact aM _ 108 (by decide)) ?_;simp -implicitDefEqProofs only[go_sem])
   refine aE.intro (jD ⟨text,1,0,0⟩ 3 1 1000000 (by omega) r1.p ht) ?_;have r2:=r1.num 3 1 1000000;generalize oo:cV ⟨text,1,0,0⟩ 3 1 1000000=x at *;obtain⟨v2,t2,p2,c2,a2⟩:=x;have xK:t2=text:=r2.t;subst t2;simp -implicitDefEqProofs only[go_sem];repeat(refine aq.intro (by first|exact aM _ 115 (by decide)|exact aM _ 102 (by decide)|exact aM _ 110 (by decide)|exact aM _ 114 (by decide)|exact aM _ 99 (by decide)|exact aM _ 112 (by decide)|exact aM _ 108 (by decide)) ?_;simp -implicitDefEqProofs only[go_sem])
   refine aE.intro (jD ⟨text,p2,c2,a2⟩ 2 0 256 (by omega) r2.p ht) ?_;have r3:=r2.num 2 0 256;generalize pI:cV ⟨text,p2,c2,a2⟩ 2 0 256=x at *;obtain⟨v3,t3,p3,c3,a3⟩:=x;have zL:t3=text:=r3.t;subst t3;simp -implicitDefEqProofs only[go_sem];repeat(refine aq.intro (by first|exact aM _ 115 (by decide)|exact aM _ 102 (by decide)|exact aM _ 110 (by decide)|exact aM _ 114 (by decide)|exact aM _ 99 (by decide)|exact aM _ 112 (by decide)|exact aM _ 108 (by decide)) ?_;simp -implicitDefEqProofs only[go_sem])
   refine aE.intro (HD ⟨text,p3,c3,a3⟩ r3.p ht) ?_;have r4:=r3.dg;generalize uf:jS ⟨text,p3,c3,a3⟩=x at *;obtain⟨⟨A8,A7,A6,A4⟩,t4,p4,c4,a4⟩:=x;have Gm:t4=text:=r4.t;subst t4;simp -implicitDefEqProofs only[go_sem];repeat(refine aq.intro (by first|exact aM _ 115 (by decide)|exact aM _ 102 (by decide)|exact aM _ 110 (by decide)|exact aM _ 114 (by decide)|exact aM _ 99 (by decide)|exact aM _ 112 (by decide)|exact aM _ 108 (by decide)) ?_;simp -implicitDefEqProofs only[go_sem])
   have hM:cf text=ek text (⟨text,p4,c4,a4⟩,⟨bN text 0,v2,0,v3,⟨A8,A7,A6,A4⟩,0,[],[]⟩):=by
    unfold cf;rw[if_neg h',if_pos cq,hP];simp only[pS,pF,pZ,pR,pC,oo,pI,uf];rfl
   refine bX (fun h=>?_) (fun h=>?_)
   ·have hp:p4<text.size:=by have:=of_decide_eq_true h;omega
    refine aA h ?_;refine aE.intro (tq ⟨text,p4,c4,a4⟩ 4 p4) ?_;by_cases hc:c4=0
    ·simp -implicitDefEqProofs only[go_sem,kE,hM,ek,hc,hp,aJ.zero];try rfl
    have ff:(c4 != 0)=true:=by simpa using hc
    simp -implicitDefEqProofs only[go_sem,kE,hM,ek,hc,ff,hp,aJ.zero];try rfl
   have hp:¬p4<text.size:=by have:=of_decide_eq_false h;omega
   by_cases hc:c4=0
   ·subst hc;simp -implicitDefEqProofs only[go_sem,h,hM,ek,hp,aJ.zero];try rfl
   have ff:(c4 != 0)=true:=by simpa using hc
   simp -implicitDefEqProofs only[go_sem,h,hM,ek,hc,ff,hp,aJ.zero];try rfl
  ·have hH:gS (bN text 0:Int)=⟨#[102,110]⟩:=by rw[hk];rfl
   have hP:∀x,mP (bN text 0) x=pZ (pF x):=fun x=>by rw[hk];rfl
   have he:((⟨#[102,110]⟩:ByteArray).toList==(⟨#[]⟩:ByteArray).toList)=false:=by rw[EJ,sm];rfl
   refine b8 hH he ?_;refine aE.intro (jD ⟨text,0,0,0⟩ 1 1 8 (by omega) (aR _) ht) ?_;simp -implicitDefEqProofs only[go_sem,hf];repeat(refine aq.intro (by first|exact aM _ 115 (by decide)|exact aM _ 102 (by decide)|exact aM _ 110 (by decide)|exact aM _ 114 (by decide)|exact aM _ 99 (by decide)|exact aM _ 112 (by decide)|exact aM _ 108 (by decide)) ?_;simp -implicitDefEqProofs only[go_sem])
   refine aE.intro (jD ⟨text,1,0,0⟩ 2 0 256 (by omega) r1.p ht) ?_;have r2:=r1.num 2 0 256;generalize oo:cV ⟨text,1,0,0⟩ 2 0 256=x at *;obtain⟨v2,t2,p2,c2,a2⟩:=x;have xK:t2=text:=r2.t;subst t2;simp -implicitDefEqProofs only[go_sem];repeat(refine aq.intro (by first|exact aM _ 115 (by decide)|exact aM _ 102 (by decide)|exact aM _ 110 (by decide)|exact aM _ 114 (by decide)|exact aM _ 99 (by decide)|exact aM _ 112 (by decide)|exact aM _ 108 (by decide)) ?_;simp -implicitDefEqProofs only[go_sem])
   refine aE.intro (jD ⟨text,p2,c2,a2⟩ 2 0 256 (by omega) r2.p ht) ?_;have r3:=r2.num 2 0 256;generalize pI:cV ⟨text,p2,c2,a2⟩ 2 0 256=x at *;obtain⟨v3,t3,p3,c3,a3⟩:=x;have zL:t3=text:=r3.t;subst t3;simp -implicitDefEqProofs only[go_sem];repeat(refine aq.intro (by first|exact aM _ 115 (by decide)|exact aM _ 102 (by decide)|exact aM _ 110 (by decide)|exact aM _ 114 (by decide)|exact aM _ 99 (by decide)|exact aM _ 112 (by decide)|exact aM _ 108 (by decide)) ?_;simp -implicitDefEqProofs only[go_sem])
   have hM:cf text=ek text (⟨text,p3,c3,a3⟩,⟨bN text 0,0,v2,v3,⟨0,0,0,0⟩,0,[],[]⟩):=by
    unfold cf;rw[if_neg h',if_pos cq,hP];simp only[pS,pF,pZ,pR,pC,oo,pI];rfl
   refine bX (fun h=>?_) (fun h=>?_)
   ·have hp:p3<text.size:=by have:=of_decide_eq_true h;omega
    refine aA h ?_;refine aE.intro (tq ⟨text,p3,c3,a3⟩ 4 p3) ?_;by_cases hc:c3=0
    ·simp -implicitDefEqProofs only[go_sem,kE,hM,ek,hc,hp,aJ.zero];try rfl
    have ff:(c3 != 0)=true:=by simpa using hc
    simp -implicitDefEqProofs only[go_sem,kE,hM,ek,hc,ff,hp,aJ.zero];try rfl
   have hp:¬p3<text.size:=by have:=of_decide_eq_false h;omega
   by_cases hc:c3=0
   ·subst hc;simp -implicitDefEqProofs only[go_sem,h,hM,ek,hp,aJ.zero];try rfl
   have ff:(c3 != 0)=true:=by simpa using hc
   simp -implicitDefEqProofs only[go_sem,h,hM,ek,hc,ff,hp,aJ.zero];try rfl
  ·have hH:gS (bN text 0:Int)=⟨#[102,110,112]⟩:=by rw[hk];rfl
   have hP:∀x,mP (bN text 0) x=pP (pZ (pF x)):=fun x=>by rw[hk];rfl
   have he:((⟨#[102,110,112]⟩:ByteArray).toList==(⟨#[]⟩:ByteArray).toList)=false:=by rw[A9,sm];rfl
   refine b8 hH he ?_;refine aE.intro (jD ⟨text,0,0,0⟩ 1 1 8 (by omega) (aR _) ht) ?_;simp -implicitDefEqProofs only[go_sem,hf];repeat(refine aq.intro (by first|exact aM _ 115 (by decide)|exact aM _ 102 (by decide)|exact aM _ 110 (by decide)|exact aM _ 114 (by decide)|exact aM _ 99 (by decide)|exact aM _ 112 (by decide)|exact aM _ 108 (by decide)) ?_;simp -implicitDefEqProofs only[go_sem])
   refine aE.intro (jD ⟨text,1,0,0⟩ 2 0 256 (by omega) r1.p ht) ?_;have r2:=r1.num 2 0 256;generalize oo:cV ⟨text,1,0,0⟩ 2 0 256=x at *;obtain⟨v2,t2,p2,c2,a2⟩:=x;have xK:t2=text:=r2.t;subst t2;simp -implicitDefEqProofs only[go_sem];repeat(refine aq.intro (by first|exact aM _ 115 (by decide)|exact aM _ 102 (by decide)|exact aM _ 110 (by decide)|exact aM _ 114 (by decide)|exact aM _ 99 (by decide)|exact aM _ 112 (by decide)|exact aM _ 108 (by decide)) ?_;simp -implicitDefEqProofs only[go_sem])
   refine aE.intro (jD ⟨text,p2,c2,a2⟩ 2 0 256 (by omega) r2.p ht) ?_;have r3:=r2.num 2 0 256;generalize pI:cV ⟨text,p2,c2,a2⟩ 2 0 256=x at *;obtain⟨v3,t3,p3,c3,a3⟩:=x;have zL:t3=text:=r3.t;subst t3;simp -implicitDefEqProofs only[go_sem];repeat(refine aq.intro (by first|exact aM _ 115 (by decide)|exact aM _ 102 (by decide)|exact aM _ 110 (by decide)|exact aM _ 114 (by decide)|exact aM _ 99 (by decide)|exact aM _ 112 (by decide)|exact aM _ 108 (by decide)) ?_;simp -implicitDefEqProofs only[go_sem])
   refine aE.intro (jD ⟨text,p3,c3,a3⟩ 1 0 16 (by omega) r3.p ht) ?_;have r4:=r3.num 1 0 16;have hv4:=ve ⟨text,p3,c3,a3⟩ 1 16 (by omega);generalize uf:cV ⟨text,p3,c3,a3⟩ 1 0 16=x at *;obtain⟨v4,t4,p4,c4,a4⟩:=x;have Gm:t4=text:=r4.t;subst t4;simp only at hv4;refine au ?_;refine mj [(10005,4)] (fun m z=>∃i:Nat,i<=v4.toNat/\m=v4.toNat - i/\z=⟨116,[(0,vS text),(2,.ptr 2 0 [] 11 0 0),(3,.ptr 3 0 [] 2 0 0),(4,.ptr 4 0 [] 4 0 0),(5,.ptr 5 0 [] 11 0 0),(6,vS ⟨#[102,110,112]⟩),(7,vI v4),(8,vI (i:Int))],[(2,0,one ⟨11,[[vI 0,vI 0,vI 0,vI 0,vU 0,vU 0,vU 0,vU 0,vI 0,.aG,.aG]],0,false⟩),(3,0,one ⟨2,[[vI 0,vI 0]],0,false⟩),(4,0,one ⟨4,[(gC i ⟨text,p4,c4,a4⟩).2.cs],0,false⟩),(5,0,one ⟨11,[[vI (bN text 0:Int),vI 0,vI v2,vI v3,vU 0,vU 0,vU 0,vU 0,vI 0,.aw 10005 0 [] 4 0 (gC i ⟨text,p4,c4,a4⟩).1.length,.aG]],0,false⟩),(10005,0,one ⟨4,(gC i ⟨text,p4,c4,a4⟩).1.map aX.cs,2,false⟩)],1⟩) v4.toNat ?_ ?_
   ·refine au ?_;exact⟨0,aR _,rfl,rfl⟩
   rintro m z ⟨i,hi,rfl,rfl⟩;have hlen:=Kd i ⟨text,p4,c4,a4⟩;have kG:=r4.T5 i;rcases bp i v4.toNat with ab|bM
   ·have ah:(i:Int)<v4:=by omega
    have w4:IntKind.i64.wrap ((i:Int)+1)=((i+1:Nat):Int):=by rw[aN (by omega)];omega
    have ha:∀x,_:=fun x=>ed (E:=aX.cs) (l:=(gC i ⟨text,p4,c4,a4⟩).1) (xs:=[x]) (b:=32) (n:=i+1) (by rw[hlen];simp) (by omega) (by omega)
    refine aA ah ?_;refine eK (HD (gC i ⟨text,p4,c4,a4⟩).2 (by rw[kG.t];exact kG.p) (by rw[kG.t];exact ht)) ha w4 ?_;exact⟨_,by omega,i+1,ab,rfl,by simp[gC];rfl⟩
   have hi:i=v4.toNat:=by omega
   have ah:¬(i:Int)<v4:=by omega
   refine aA ah ?_;subst hi;generalize hn5:gC v4.toNat ⟨text,p4,c4,a4⟩=x at *;obtain⟨ds,t5,p5,c5,a5⟩:=x;have ht5:t5=text:=kG.t;subst t5;simp -implicitDefEqProofs only[go_sem];repeat(refine aq.intro (by first|exact aM _ 115 (by decide)|exact aM _ 102 (by decide)|exact aM _ 110 (by decide)|exact aM _ 114 (by decide)|exact aM _ 99 (by decide)|exact aM _ 112 (by decide)|exact aM _ 108 (by decide)) ?_;simp -implicitDefEqProofs only[go_sem])
   have hM:cf text=ek text (⟨text,p5,c5,a5⟩,⟨bN text 0,0,v2,v3,⟨0,0,0,0⟩,0,ds,[]⟩):=by
    unfold cf;rw[if_neg h',if_pos cq,hP];simp only[pS,pF,pZ,pR,pC,pP,pL,oo,pI,uf,hn5];rfl
   refine bX (fun h=>?_) (fun h=>?_)
   ·have hp:p5<text.size:=by have:=of_decide_eq_true h;omega
    refine aA h ?_;refine aE.intro (tq ⟨text,p5,c5,a5⟩ 4 p5) ?_;by_cases hc:c5=0
    ·simp -implicitDefEqProofs only[go_sem,kE,hM,ek,hc,hp,aJ.zero];try rfl
    have ff:(c5 != 0)=true:=by simpa using hc
    simp -implicitDefEqProofs only[go_sem,kE,hM,ek,hc,ff,hp,aJ.zero];try rfl
   have hp:¬p5<text.size:=by have:=of_decide_eq_false h;omega
   by_cases hc:c5=0
   ·subst hc;simp -implicitDefEqProofs only[go_sem,h,hM,ek,hp,aJ.zero];try rfl
   have ff:(c5 != 0)=true:=by simpa using hc
   simp -implicitDefEqProofs only[go_sem,h,hM,ek,hc,ff,hp,aJ.zero];try rfl
  ·have hH:gS (bN text 0:Int)=⟨#[115,110,114]⟩:=by rw[hk];rfl
   have hP:∀x,mP (bN text 0) x=pR (pZ (pS x)):=fun x=>by rw[hk];rfl
   have he:((⟨#[115,110,114]⟩:ByteArray).toList==(⟨#[]⟩:ByteArray).toList)=false:=by rw[A9,sm];rfl
   refine b8 hH he ?_;refine aE.intro (jD ⟨text,0,0,0⟩ 1 1 8 (by omega) (aR _) ht) ?_;simp -implicitDefEqProofs only[go_sem,hf];repeat(refine aq.intro (by first|exact aM _ 115 (by decide)|exact aM _ 102 (by decide)|exact aM _ 110 (by decide)|exact aM _ 114 (by decide)|exact aM _ 99 (by decide)|exact aM _ 112 (by decide)|exact aM _ 108 (by decide)) ?_;simp -implicitDefEqProofs only[go_sem])
   refine aE.intro (jD ⟨text,1,0,0⟩ 3 1 1000000 (by omega) r1.p ht) ?_;have r2:=r1.num 3 1 1000000;generalize oo:cV ⟨text,1,0,0⟩ 3 1 1000000=x at *;obtain⟨v2,t2,p2,c2,a2⟩:=x;have xK:t2=text:=r2.t;subst t2;simp -implicitDefEqProofs only[go_sem];repeat(refine aq.intro (by first|exact aM _ 115 (by decide)|exact aM _ 102 (by decide)|exact aM _ 110 (by decide)|exact aM _ 114 (by decide)|exact aM _ 99 (by decide)|exact aM _ 112 (by decide)|exact aM _ 108 (by decide)) ?_;simp -implicitDefEqProofs only[go_sem])
   refine aE.intro (jD ⟨text,p2,c2,a2⟩ 2 0 256 (by omega) r2.p ht) ?_;have r3:=r2.num 2 0 256;generalize pI:cV ⟨text,p2,c2,a2⟩ 2 0 256=x at *;obtain⟨v3,t3,p3,c3,a3⟩:=x;have zL:t3=text:=r3.t;subst t3;simp -implicitDefEqProofs only[go_sem];repeat(refine aq.intro (by first|exact aM _ 115 (by decide)|exact aM _ 102 (by decide)|exact aM _ 110 (by decide)|exact aM _ 114 (by decide)|exact aM _ 99 (by decide)|exact aM _ 112 (by decide)|exact aM _ 108 (by decide)) ?_;simp -implicitDefEqProofs only[go_sem])
   refine aE.intro (HD ⟨text,p3,c3,a3⟩ r3.p ht) ?_;have r4:=r3.dg;generalize uf:jS ⟨text,p3,c3,a3⟩=x at *;obtain⟨⟨A8,A7,A6,A4⟩,t4,p4,c4,a4⟩:=x;have Gm:t4=text:=r4.t;subst t4;simp -implicitDefEqProofs only[go_sem];repeat(refine aq.intro (by first|exact aM _ 115 (by decide)|exact aM _ 102 (by decide)|exact aM _ 110 (by decide)|exact aM _ 114 (by decide)|exact aM _ 99 (by decide)|exact aM _ 112 (by decide)|exact aM _ 108 (by decide)) ?_;simp -implicitDefEqProofs only[go_sem])
   have hM:cf text=ek text (⟨text,p4,c4,a4⟩,⟨bN text 0,v2,0,v3,⟨A8,A7,A6,A4⟩,0,[],[]⟩):=by
    unfold cf;rw[if_neg h',if_pos cq,hP];simp only[pS,pF,pZ,pR,pC,oo,pI,uf];rfl
   refine bX (fun h=>?_) (fun h=>?_)
   ·have hp:p4<text.size:=by have:=of_decide_eq_true h;omega
    refine aA h ?_;refine aE.intro (tq ⟨text,p4,c4,a4⟩ 4 p4) ?_;by_cases hc:c4=0
    ·simp -implicitDefEqProofs only[go_sem,kE,hM,ek,hc,hp,aJ.zero];try rfl
    have ff:(c4 != 0)=true:=by simpa using hc
    simp -implicitDefEqProofs only[go_sem,kE,hM,ek,hc,ff,hp,aJ.zero];try rfl
   have hp:¬p4<text.size:=by have:=of_decide_eq_false h;omega
   by_cases hc:c4=0
   ·subst hc;simp -implicitDefEqProofs only[go_sem,h,hM,ek,hp,aJ.zero];try rfl
   have ff:(c4 != 0)=true:=by simpa using hc
   simp -implicitDefEqProofs only[go_sem,h,hM,ek,hc,ff,hp,aJ.zero];try rfl
  ·have hH:gS (bN text 0:Int)=⟨#[102,99]⟩:=by rw[hk];rfl
   have hP:∀x,mP (bN text 0) x=pC (pF x):=fun x=>by rw[hk];rfl
   have he:((⟨#[102,99]⟩:ByteArray).toList==(⟨#[]⟩:ByteArray).toList)=false:=by rw[EJ,sm];rfl
   refine b8 hH he ?_;refine aE.intro (jD ⟨text,0,0,0⟩ 1 1 8 (by omega) (aR _) ht) ?_;simp -implicitDefEqProofs only[go_sem,hf];repeat(refine aq.intro (by first|exact aM _ 115 (by decide)|exact aM _ 102 (by decide)|exact aM _ 110 (by decide)|exact aM _ 114 (by decide)|exact aM _ 99 (by decide)|exact aM _ 112 (by decide)|exact aM _ 108 (by decide)) ?_;simp -implicitDefEqProofs only[go_sem])
   refine aE.intro (jD ⟨text,1,0,0⟩ 2 0 256 (by omega) r1.p ht) ?_;have r2:=r1.num 2 0 256;generalize oo:cV ⟨text,1,0,0⟩ 2 0 256=x at *;obtain⟨v2,t2,p2,c2,a2⟩:=x;have xK:t2=text:=r2.t;subst t2;simp -implicitDefEqProofs only[go_sem];repeat(refine aq.intro (by first|exact aM _ 115 (by decide)|exact aM _ 102 (by decide)|exact aM _ 110 (by decide)|exact aM _ 114 (by decide)|exact aM _ 99 (by decide)|exact aM _ 112 (by decide)|exact aM _ 108 (by decide)) ?_;simp -implicitDefEqProofs only[go_sem])
   refine aE.intro (jD ⟨text,p2,c2,a2⟩ 1 1 8 (by omega) r2.p ht) ?_;have r3:=r2.num 1 1 8;generalize pI:cV ⟨text,p2,c2,a2⟩ 1 1 8=x at *;obtain⟨v3,t3,p3,c3,a3⟩:=x;have zL:t3=text:=r3.t;subst t3;simp -implicitDefEqProofs only[go_sem];repeat(refine aq.intro (by first|exact aM _ 115 (by decide)|exact aM _ 102 (by decide)|exact aM _ 110 (by decide)|exact aM _ 114 (by decide)|exact aM _ 99 (by decide)|exact aM _ 112 (by decide)|exact aM _ 108 (by decide)) ?_;simp -implicitDefEqProofs only[go_sem])
   have hM:cf text=ek text (⟨text,p3,c3,a3⟩,⟨bN text 0,0,v2,0,⟨0,0,0,0⟩,v3,[],[]⟩):=by
    unfold cf;rw[if_neg h',if_pos cq,hP];simp only[pS,pF,pZ,pR,pC,oo,pI];rfl
   refine bX (fun h=>?_) (fun h=>?_)
   ·have hp:p3<text.size:=by have:=of_decide_eq_true h;omega
    refine aA h ?_;refine aE.intro (tq ⟨text,p3,c3,a3⟩ 4 p3) ?_;by_cases hc:c3=0
    ·simp -implicitDefEqProofs only[go_sem,kE,hM,ek,hc,hp,aJ.zero];try rfl
    have ff:(c3 != 0)=true:=by simpa using hc
    simp -implicitDefEqProofs only[go_sem,kE,hM,ek,hc,ff,hp,aJ.zero];try rfl
   have hp:¬p3<text.size:=by have:=of_decide_eq_false h;omega
   by_cases hc:c3=0
   ·subst hc;simp -implicitDefEqProofs only[go_sem,h,hM,ek,hp,aJ.zero];try rfl
   have ff:(c3 != 0)=true:=by simpa using hc
   simp -implicitDefEqProofs only[go_sem,h,hM,ek,hc,ff,hp,aJ.zero];try rfl
  have hH:gS (bN text 0:Int)=⟨#[102,108]⟩:=by rw[hk];rfl
  have hP:∀x,mP (bN text 0) x=pL (pF x):=fun x=>by rw[hk];rfl
  have he:((⟨#[102,108]⟩:ByteArray).toList==(⟨#[]⟩:ByteArray).toList)=false:=by rw[EJ,sm];rfl
  refine b8 hH he ?_;refine aE.intro (jD ⟨text,0,0,0⟩ 1 1 8 (by omega) (aR _) ht) ?_;simp -implicitDefEqProofs only[go_sem,hf];repeat(refine aq.intro (by first|exact aM _ 115 (by decide)|exact aM _ 102 (by decide)|exact aM _ 110 (by decide)|exact aM _ 114 (by decide)|exact aM _ 99 (by decide)|exact aM _ 112 (by decide)|exact aM _ 108 (by decide)) ?_;simp -implicitDefEqProofs only[go_sem])
  refine aE.intro (jD ⟨text,1,0,0⟩ 2 0 256 (by omega) r1.p ht) ?_;have r2:=r1.num 2 0 256;generalize oo:cV ⟨text,1,0,0⟩ 2 0 256=x at *;obtain⟨v2,t2,p2,c2,a2⟩:=x;have xK:t2=text:=r2.t;subst t2;simp -implicitDefEqProofs only[go_sem];repeat(refine aq.intro (by first|exact aM _ 115 (by decide)|exact aM _ 102 (by decide)|exact aM _ 110 (by decide)|exact aM _ 114 (by decide)|exact aM _ 99 (by decide)|exact aM _ 112 (by decide)|exact aM _ 108 (by decide)) ?_;simp -implicitDefEqProofs only[go_sem])
  refine aE.intro (jD ⟨text,p2,c2,a2⟩ 1 0 8 (by omega) r2.p ht) ?_;have r3:=r2.num 1 0 8;have hv3:=ve ⟨text,p2,c2,a2⟩ 1 8 (by omega);generalize pI:cV ⟨text,p2,c2,a2⟩ 1 0 8=x at *;obtain⟨v3,t3,p3,c3,a3⟩:=x;have zL:t3=text:=r3.t;subst t3;simp only at hv3;refine au ?_;refine mj [(11005,1)] (fun m z=>∃i:Nat,i<=v3.toNat/\m=v3.toNat - i/\z=⟨116,[(0,vS text),(2,.ptr 2 0 [] 11 0 0),(3,.ptr 3 0 [] 2 0 0),(4,.ptr 4 0 [] 4 0 0),(5,.ptr 5 0 [] 11 0 0),(9,vI v3),(10,vI (i:Int))],[(2,0,one ⟨11,[[vI 0,vI 0,vI 0,vI 0,vU 0,vU 0,vU 0,vU 0,vI 0,.aG,.aG]],0,false⟩),(3,0,one ⟨2,[[vI 0,vI 0]],0,false⟩),(4,0,one ⟨4,[(fq i ⟨text,p3,c3,a3⟩).2.cs],0,false⟩),(5,0,one ⟨11,[[vI (bN text 0:Int),vI 0,vI v2,vI 0,vU 0,vU 0,vU 0,vU 0,vI 0,.aG,.aw 10005 0 [] 1 0 (fq i ⟨text,p3,c3,a3⟩).1.length]],0,false⟩),(10005,0,one ⟨1,(fq i ⟨text,p3,c3,a3⟩).1.map cF,2,false⟩)],1⟩) v3.toNat ?_ ?_
  ·refine au ?_;exact⟨0,aR _,rfl,rfl⟩
  rintro m z ⟨i,hi,rfl,rfl⟩;have hlen:=Ka i ⟨text,p3,c3,a3⟩;have kG:=r3.R3 i;rcases bp i v3.toNat with ab|bM
  ·have ah:(i:Int)<v3:=by omega
   have w4:IntKind.i64.wrap ((i:Int)+1)=((i+1:Nat):Int):=by rw[aN (by omega)];omega
   have ha:∀x,_:=fun x=>ed (E:=cF) (l:=(fq i ⟨text,p3,c3,a3⟩).1) (xs:=[x]) (b:=16) (n:=i+1) (by rw[hlen];simp) (by omega) (by omega)
   refine aA ah ?_;refine aE.intro (jD (fq i ⟨text,p3,c3,a3⟩).2 1 0 40 (by omega) (by rw[kG.t];exact kG.p) (by rw[kG.t];exact ht)) ?_;have nF:=kG.num 1 0 40;have rH:=ve (fq i ⟨text,p3,c3,a3⟩).2 1 40 (by omega);have Ls:(cV (fq i ⟨text,p3,c3,a3⟩).2 1 0 40).1=((cV (fq i ⟨text,p3,c3,a3⟩).2 1 0 40).1.toNat:Int):=(Int.toNat_of_nonneg rH.1).symm;refine au ?_;rw[Ls];refine eK (MJ (cV (fq i ⟨text,p3,c3,a3⟩).2 1 0 40).2 (cV (fq i ⟨text,p3,c3,a3⟩).2 1 0 40).1.toNat (by omega) (by rw[nF.t];exact nF.p) (by rw[nF.t];exact ht)) ha w4 ?_;exact⟨_,by omega,i+1,ab,rfl,by simp[fq,qp,cF]⟩
  have hi:i=v3.toNat:=by omega
  have ah:¬(i:Int)<v3:=by omega
  refine aA ah ?_;subst hi;generalize uf:fq v3.toNat ⟨text,p3,c3,a3⟩=x at *;obtain⟨ds,t4,p4,c4,a4⟩:=x;have Gm:t4=text:=kG.t;subst t4;simp -implicitDefEqProofs only[go_sem];repeat(refine aq.intro (by first|exact aM _ 115 (by decide)|exact aM _ 102 (by decide)|exact aM _ 110 (by decide)|exact aM _ 114 (by decide)|exact aM _ 99 (by decide)|exact aM _ 112 (by decide)|exact aM _ 108 (by decide)) ?_;simp -implicitDefEqProofs only[go_sem])
  have hM:cf text=ek text (⟨text,p4,c4,a4⟩,⟨bN text 0,0,v2,0,⟨0,0,0,0⟩,0,[],ds⟩):=by
   unfold cf;rw[if_neg h',if_pos cq,hP];simp only[pS,pF,pZ,pR,pC,pP,pL,oo,pI,uf];rfl
  refine bX (fun h=>?_) (fun h=>?_)
  ·have hp:p4<text.size:=by have:=of_decide_eq_true h;omega
   refine aA h ?_;refine aE.intro (tq ⟨text,p4,c4,a4⟩ 4 p4) ?_;by_cases hc:c4=0
   ·simp -implicitDefEqProofs only[go_sem,kE,hM,ek,hc,hp,aJ.zero];try rfl
   have ff:(c4 != 0)=true:=by simpa using hc
   simp -implicitDefEqProofs only[go_sem,kE,hM,ek,hc,ff,hp,aJ.zero];try rfl
  have hp:¬p4<text.size:=by have:=of_decide_eq_false h;omega
  by_cases hc:c4=0
  ·subst hc;simp -implicitDefEqProofs only[go_sem,h,hM,ek,hp,aJ.zero];try rfl
  have ff:(c4 != 0)=true:=by simpa using hc
  simp -implicitDefEqProofs only[go_sem,h,hM,ek,hc,ff,hp,aJ.zero];try rfl
 have hH:gS (bN text 0:Int)=⟨#[]⟩:=by rw[gS,if_neg (by omega),if_neg (by omega),if_neg (by omega),if_neg (by omega),if_neg (by omega),if_neg (by omega)]
 have he:((⟨#[]⟩:ByteArray).toList==(⟨#[]⟩:ByteArray).toList)=true:=by rw[sm];rfl
 simp -implicitDefEqProofs only[go_sem,hH,he,aT,cf,h',cq,aJ.zero];rfl
end Go.Proofs.YtobpfkgabdeefaaGreat.E
