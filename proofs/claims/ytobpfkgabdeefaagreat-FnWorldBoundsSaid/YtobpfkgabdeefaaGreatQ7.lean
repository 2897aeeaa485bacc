/- Contracts: a message read, in the program; Contracts: messages that are the same; what is marked and held; Contracts: messages that are the same, marked, held; the law of WireRead; Contracts: parts of messages; numbers in bytes; Contracts: numbers in bytes, in the program; Contracts: digests in bytes; Contracts: messages that are ok -/
import Derived.Test.YtobpfkgabdeefaaGreatQ6
namespace Go.Proofs.YtobpfkgabdeefaaGreat.E
open Go Go.RowKit
set_option maxHeartbeats 4000000
set_option maxRecDepth 10000
set_option linter.unusedSimpArgs false
set_option linter.unusedVariables false
set_option linter.unusedSectionVars false
def Mk:cc:=⟨[(217,.cm [true,false]),(219,.cm [true,false,false,false]),(220,.cm [true])],cw,cz,false⟩
theorem DE (l:List aX) (hl:l.length * 32<=140737488355328):ba Tryz.prog 128 [.ro 4 (l.map aX.cs)] (.aw 0 0 [] 4 0 l.length) [([],⟨4,l.map aX.cs,2,false⟩)]:=by
 refine aF Mk false Tryz.f128 ?_;conv=>enter[1];reduce
 refine bu Tryz.f128 14 [.tmp 2] (by kernel_rfl) (by decide +kernel) rfl ?_;refine au ?_;refine bX (fun h=>?_) (fun h=>?_)
 ·have:l=[]:=by simpa using h
  subst this;exact dy
 have hm:=pA hl (by omega);have jz:((32:Nat):Int) * (l.length:Int)<=281474976710656/\(l.length:Int)<=9223372036854775807:=by unfold maxLen at hm;omega
 exact uO h jz
theorem uB (l:List ByteArray) (hl:l.length * 16<=140737488355328):ba Tryz.prog 118 [.ro 1 (l.map cF)] (.aw 0 0 [] 1 0 l.length) [([],⟨1,l.map cF,2,false⟩)]:=by
 refine aF Mk false Tryz.f118 ?_;conv=>enter[1];reduce
 refine bu Tryz.f118 14 [.tmp 2] (by kernel_rfl) (by decide +kernel) rfl ?_;refine au ?_;refine bX (fun h=>?_) (fun h=>?_)
 ·have:l=[]:=by simpa using h
  subst this;exact dy
 have hm:=pA hl (by omega);have jz:((16:Nat):Int) * (l.length:Int)<=281474976710656/\(l.length:Int)<=9223372036854775807:=by unfold maxLen at hm;omega
 exact uO h jz
def pP2 (x:ch × aJ):ch × aJ:=((gC (cV x.1 1 0 16).1.toNat (cV x.1 1 0 16).2).2,{x.2 with proof:=x.2.proof++(gC (cV x.1 1 0 16).1.toNat (cV x.1 1 0 16).2).1})
def pL2 (x:ch × aJ):ch × aJ:=((fq (cV x.1 1 0 8).1.toNat (cV x.1 1 0 8).2).2,{x.2 with az:=x.2.az++(fq (cV x.1 1 0 8).1.toNat (cV x.1 1 0 8).2).1})
def BC (c:Nat) (x:ch × aJ):ch × aJ:=match c with
 | 115=>pS x
 | 102=>pF x
 | 122=>pZ x
 | 114=>pR x
 | 99=>pC x
 | 112=>pP2 x
 | 108=>pL2 x
 | _=>x
def zn (l:List UInt8) (x:ch × aJ):ch × aJ:=l.foldl (fun x b=>BC b.toNat x) x
theorem aay (l:List UInt8) (b:UInt8) (x:ch × aJ):zn (l++[b]) x=BC b.toNat (zn l x):=by
 unfold zn;rw[List.foldl_append];rfl
theorem bR {k:Nat}(hk:1<=k/\k<=8) {pos:Nat}(h:pos<(fJ (k:Int)).size):pos<=2/\∃c,Utf8.decode (fJ (k:Int)) pos=(c,1)/\(fJ (k:Int)).data.toList.take (pos+1)=(fJ (k:Int)).data.toList.take pos++[UInt8.ofNat c]/\(UInt8.ofNat c).toNat=c/\
  (c=115\/c=102\/c=122\/c=114\/c=99\/c=112\/c=108):=by
 have bV:k=1\/k=2\/k=3\/k=4\/k=5\/k=6\/k=7\/k=8:=by omega
 have hs:(fJ (k:Int)).size<=3:=by rcases bV with rfl|rfl|rfl|rfl|rfl|rfl|rfl|rfl<;>decide
 have hp:pos=0\/pos=1\/pos=2:=by omega
 refine⟨by omega,?_⟩;rcases bV with rfl|rfl|rfl|rfl|rfl|rfl|rfl|rfl<;>rcases hp with rfl|rfl|rfl<;>
  first
  | exact absurd h (by decide)
  | exact⟨115,by decide,by decide,by decide,by decide⟩
  | exact⟨102,by decide,by decide,by decide,by decide⟩
  | exact⟨122,by decide,by decide,by decide,by decide⟩
  | exact⟨114,by decide,by decide,by decide,by decide⟩
  | exact⟨99,by decide,by decide,by decide,by decide⟩
  | exact⟨112,by decide,by decide,by decide,by decide⟩
  | exact⟨108,by decide,by decide,by decide,by decide⟩
theorem aaw {k:Nat}(hk:1<=k/\k<=8) (r:ch) (z:Int):mP k (r,{aJ.zero with kind:=z})=zn ((fJ (k:Int)).data.toList.take (fJ (k:Int)).size) (r,{aJ.zero with kind:=z}):=by
 have bV:k=1\/k=2\/k=3\/k=4\/k=5\/k=6\/k=7\/k=8:=by omega
 rcases bV with rfl|rfl|rfl|rfl|rfl|rfl|rfl|rfl<;>rfl
def NS:List AV:=[vI 0,vI 0,vI 0,vI 0,vU 0,vU 0,vU 0,vU 0,vI 0,.aG,.aG]
def Rs (m:aJ):List AV:=[vI m.kind,vI m.bU,vI m.from_,vI m.size,vU m.root.a,vU m.root.b,vU m.root.c,vU m.root.d,vI m.count,.aw 10006 0 [] 4 0 m.proof.length,.aw 20006 0 [] 1 0 m.az.length]
def FP (x:ch × aJ):ak:=[(2,0,one ⟨11,[NS],0,false⟩),(3,0,one ⟨2,[[vI 0,vI 0]],0,false⟩),(4,0,one ⟨4,[x.1.cs],0,false⟩),(6,0,one ⟨11,[Rs x.2],0,false⟩),(10006,0,one ⟨4,x.2.proof.map aX.cs,2,false⟩),(20006,0,one ⟨1,x.2.az.map cF,2,false⟩)]
attribute [go_sem] NS Rs FP
structure ais (text:ByteArray) (pos:Nat) (x:ch × aJ):Prop where
 rd:ni text x.1
 pl:x.2.proof.length<=16 * pos
 ll:x.2.az.length<=8 * pos
def aJ.Nm (m:aJ):AV:=.agg [vI m.kind,vI m.bU,vI m.from_,vI m.size,vU m.root.a,vU m.root.b,vU m.root.c,vU m.root.d,vI m.count,.aw 0 0 [] 4 0 m.proof.length,.aw 1 0 [] 1 0 m.az.length]
def aJ.out (m:aJ):ak:=[(0,0,one ⟨4,m.proof.map aX.cs,2,false⟩),(1,0,one ⟨1,m.az.map cF,2,false⟩)]
attribute [go_sem] aJ.Nm aJ.out
theorem DB (text:ByteArray) (ht:text.size<=1000000000000):aY Tryz.prog 165 [] [vS text] (.aZ [(cf text).1.Nm,.agg [vI (cf text).2.1,vI (cf text).2.2]]) (cf text).1.out:=by
 refine aF Mk false Tryz.f165 ?_;conv=>enter[1];reduce
 refine bI Tryz.f165 157 [.cell 2 193,.cell 3 195] (by kernel_rfl) (by decide +kernel) rfl ?_;refine au ?_;refine aE.intro (HG ⟨text,0,0,0⟩ 1 (by omega) (aR _) ht) ?_;rcases Nat.eq_zero_or_pos text.size with h0|h0
 ·have hr:eR ⟨text,0,0,0⟩ 1=(⟨#[]⟩,⟨text,0,2,(text.size:Int)⟩):=by
   unfold eR;rw[if_pos rfl,if_pos (show 0+1>text.size by omega)]
  have hM:cf text=(.zero,2,0):=by unfold cf;rw[if_pos h0]
  rw[hM];simp -implicitDefEqProofs only[go_sem,hr,h0,aJ.zero]
  first|rfl|exact⟨rfl,rfl⟩
 have hr:eR ⟨text,0,0,0⟩ 1=(text.extract 0 1,⟨text,1,0,0⟩):=by
  unfold eR;rw[if_pos rfl,if_neg (show ¬0+1>text.size by omega)]
 have hs:(text.extract 0 1).size=1:=by rw[ByteArray.size_extract];omega
 have hg:=yu (s:=text.extract 0 1) (i:=0) (by omega);rw[Wp h0]at hg;have hb:=yF text 0;have w1:IntKind.i64.wrap (bN text 0:Int)=(bN text 0:Int):=aN (by omega);have h':¬text.size=0:=by omega
 refine eV hr hg w1 ?_;refine cT (dQ _ _ _) ?_;refine bX (fun h=>?_) (fun h=>?_)
 ·have cq:¬(1<=bN text 0/\bN text 0<=8):=fun hh=>by
   have h3:(1:Int)<=(bN text 0:Int)/\(bN text 0:Int)<=8:=by omega
   simp[aS,h3.1,h3.2]at h
  have hM:cf text=(.zero,1,0):=by unfold cf;rw[if_neg h',if_neg cq]
  rw[hM];simp -implicitDefEqProofs only[go_sem,h,aJ.zero]
  first|rfl|exact⟨rfl,rfl⟩
 have cq:1<=bN text 0/\bN text 0<=8:=by
  have:(1:Int)<=(bN text 0:Int)/\(bN text 0:Int)<=8:=by simpa[aS]using h
  omega
 refine eV h hg w1 ?_;refine cT (Vr (bN text 0)) ?_;refine PI (fJ (bN text 0:Int)) [0,2,3,4,6,51] [(10006,4),(11006,1)] (fun r pos z=>pos<=(fJ (bN text 0:Int)).size/\∃X,X=zn ((fJ (bN text 0:Int)).data.toList.take pos) (⟨text,1,0,0⟩,{aJ.zero with kind:=bN text 0})/\ais text pos X/\z=⟨157,[(0,vS text),(2,.ptr 2 0 [] 11 0 0),(3,.ptr 3 0 [] 2 0 0),(4,.ptr 4 0 [] 4 0 0),(6,.ptr 6 0 [] 11 0 0),(51,.it r)],FP X,1⟩) ?_ ?_ ?_ ?_ ?_ ?_
 ·rfl
 ·omega
 ·intro r;refine au ?_;exact⟨aR _,_,rfl,⟨⟨rfl,by show 1<=text.size;omega⟩,aR _,aR _⟩,rfl⟩
 ·rintro r pos z ⟨-,X,-,-,rfl⟩;exact⟨rfl,rfl⟩
 ·rintro r pos z ⟨hle,X,hX,hinv,rfl⟩ ab;obtain⟨mS,c,hd,iu,KD,hc⟩:=bR cq ab;have uk:BC c X=zn ((fJ (bN text 0:Int)).data.toList.take (pos+1)) (⟨text,1,0,0⟩,{aJ.zero with kind:=bN text 0}):=by rw[iu,aay,KD,<-hX]
  refine⟨c,hd,?_⟩;clear hX;have ub:X.1.p<=X.1.t.size:=by rw[hinv.rd.t];exact hinv.rd.p
  have xN:X.1.t.size<=1000000000000:=by rw[hinv.rd.t];exact ht
  have gU:=hinv.pl;have dY:=hinv.ll;rcases hc with rfl|rfl|rfl|rfl|rfl|rfl|rfl
  ·have aU:((115:Nat):Int)=115:=rfl;refine aA aU ?_;refine ep (yB X.1 3 1 1000000 (by omega) ub xN) ?_;exact⟨ab,pS X,uk,⟨hinv.rd.num _ _ _,by show X.2.proof.length<=_;omega,by show X.2.az.length<=_;omega⟩,rfl⟩
  ·have aU:((102:Nat):Int)=102:=rfl;refine aA aU ?_;refine ep (yB X.1 2 0 256 (by omega) ub xN) ?_;exact⟨ab,pF X,uk,⟨hinv.rd.num _ _ _,by show X.2.proof.length<=_;omega,by show X.2.az.length<=_;omega⟩,rfl⟩
  ·have aU:((122:Nat):Int)=122:=rfl;refine aA aU ?_;refine ep (yB X.1 2 0 256 (by omega) ub xN) ?_;exact⟨ab,pZ X,uk,⟨hinv.rd.num _ _ _,by show X.2.proof.length<=_;omega,by show X.2.az.length<=_;omega⟩,rfl⟩
  ·have aU:((114:Nat):Int)=114:=rfl;refine aA aU ?_;refine ep (Vq X.1 ub xN) ?_;exact⟨ab,pR X,uk,⟨hinv.rd.dg,by show X.2.proof.length<=_;omega,by show X.2.az.length<=_;omega⟩,rfl⟩
  ·have aU:((99:Nat):Int)=99:=rfl;refine aA aU ?_;refine ep (yB X.1 1 1 8 (by omega) ub xN) ?_;exact⟨ab,pC X,uk,⟨hinv.rd.num _ _ _,by show X.2.proof.length<=_;omega,by show X.2.az.length<=_;omega⟩,rfl⟩
  ·have aU:((112:Nat):Int)=112:=rfl;refine aA aU ?_;refine aE.intro (yB X.1 1 0 16 (by omega) ub xN) ?_;have hv:=ve X.1 1 16 (by omega);have jJ:=hinv.rd.num 1 0 16;have vG:BC 112 X=((gC (cV X.1 1 0 16).1.toNat (cV X.1 1 0 16).2).2,{X.2 with proof:=X.2.proof++(gC (cV X.1 1 0 16).1.toNat (cV X.1 1 0 16).2).1}):=rfl;generalize cV X.1 1 0 16=y at *;obtain⟨v,R⟩:=y;simp only at hv jJ vG;refine au ?_;refine dq (fun m z=>∃i:Nat,i<=v.toNat/\m=v.toNat - i/\z=⟨157,[(0,vS text),(2,.ptr 2 0 [] 11 0 0),(3,.ptr 3 0 [] 2 0 0),(4,.ptr 4 0 [] 4 0 0),(6,.ptr 6 0 [] 11 0 0),(9,vI (v - (i:Int))),(51,.it r)],FP ((gC i R).2,{X.2 with proof:=X.2.proof++(gC i R).1}),1⟩) v.toNat ?_ ?_
   ·refine au ?_;exact⟨0,aR _,rfl,by simp[gC]⟩
   rintro m z ⟨i,hi,rfl,rfl⟩;have hlen:=Kd i R;have kG:=jJ.T5 i;rcases bp i v.toNat with hl|bM
   ·have ah:v - (i:Int)>0:=by omega
    have w4:IntKind.i64.wrap (v - (i:Int) - 1)=v - ((i+1:Nat):Int):=by rw[aN (by omega)];omega
    have ha:∀x,_:=fun x=>ed (E:=aX.cs) (l:=X.2.proof++(gC i R).1) (xs:=[x]) (b:=32) (n:=100) (by simp[hlen];omega) (by omega) (by omega)
    refine aA ah ?_;refine eK (Vq (gC i R).2 (by rw[kG.t];exact kG.p) (by rw[kG.t];exact ht)) ha w4 ?_;exact⟨_,by omega,i+1,hl,rfl,by simp[gC];rfl⟩
   have hi:i=v.toNat:=by omega
   have ah:¬(v - (i:Int)>0):=by omega
   refine aA ah ?_;subst hi;rw[vG]at uk;exact⟨ab,_,uk,⟨kG,by simp[hlen];omega,by simp[hlen];omega⟩,rfl⟩
  have aU:((108:Nat):Int)=108:=rfl;refine aA aU ?_;refine aE.intro (yB X.1 1 0 8 (by omega) ub xN) ?_;have hv:=ve X.1 1 8 (by omega);have jJ:=hinv.rd.num 1 0 8;have vG:BC 108 X=((fq (cV X.1 1 0 8).1.toNat (cV X.1 1 0 8).2).2,{X.2 with az:=X.2.az++(fq (cV X.1 1 0 8).1.toNat (cV X.1 1 0 8).2).1}):=rfl;generalize cV X.1 1 0 8=y at *;obtain⟨v,R⟩:=y;simp only at hv jJ vG;refine au ?_;refine dq (fun m z=>∃i:Nat,i<=v.toNat/\m=v.toNat - i/\z=⟨157,[(0,vS text),(2,.ptr 2 0 [] 11 0 0),(3,.ptr 3 0 [] 2 0 0),(4,.ptr 4 0 [] 4 0 0),(6,.ptr 6 0 [] 11 0 0),(10,vI (v - (i:Int))),(51,.it r)],FP ((fq i R).2,{X.2 with az:=X.2.az++(fq i R).1}),1⟩) v.toNat ?_ ?_
  ·refine au ?_;exact⟨0,aR _,rfl,by simp[fq]⟩
  rintro m z ⟨i,hi,rfl,rfl⟩;have hlen:=Ka i R;have kG:=jJ.R3 i;rcases bp i v.toNat with hl|bM
  ·have ah:v - (i:Int)>0:=by omega
   have w4:IntKind.i64.wrap (v - (i:Int) - 1)=v - ((i+1:Nat):Int):=by rw[aN (by omega)];omega
   have ha:∀x,_:=fun x=>ed (E:=cF) (l:=X.2.az++(fq i R).1) (xs:=[x]) (b:=16) (n:=100) (by simp[hlen];omega) (by omega) (by omega)
   refine aA ah ?_;refine aE.intro (yB (fq i R).2 1 0 40 (by omega) (by rw[kG.t];exact kG.p) (by rw[kG.t];exact ht)) ?_;have nF:=kG.num 1 0 40;have rH:=ve (fq i R).2 1 40 (by omega);have Ls:(cV (fq i R).2 1 0 40).1=((cV (fq i R).2 1 0 40).1.toNat:Int):=(Int.toNat_of_nonneg rH.1).symm;refine au ?_;rw[Ls];refine eK (HG (cV (fq i R).2 1 0 40).2 (cV (fq i R).2 1 0 40).1.toNat (by omega) (by rw[nF.t];exact nF.p) (by rw[nF.t];exact ht)) ha w4 ?_;exact⟨_,by omega,i+1,hl,rfl,by simp[fq,qp,cF]⟩
  have hi:i=v.toNat:=by omega
  have ah:¬(v - (i:Int)>0):=by omega
  refine aA ah ?_;subst hi;rw[vG]at uk;exact⟨ab,_,uk,⟨kG,by simp[hlen];omega,by simp[hlen];omega⟩,rfl⟩
 rintro r pos z ⟨hle,X,hX,hinv,rfl⟩ bM;have jU:pos=(fJ (bN text 0:Int)).size:=by omega
 subst jU;have hM:cf text=ek text X:=by
  unfold cf;rw[if_neg h',if_pos cq,aaw cq,hX]
 have Cn:(fJ (bN text 0:Int)).size<=3:=by
  have bV:bN text 0=1\/bN text 0=2\/bN text 0=3\/bN text 0=4\/bN text 0=5\/bN text 0=6\/bN text 0=7\/bN text 0=8:=by omega
  rcases bV with e|e|e|e|e|e|e|e<;>rw[e]<;>decide
 have gU:=hinv.pl;have dY:=hinv.ll;have ub:=hinv.rd.p;rw[hM];obtain⟨⟨t1,p1,c1,a1⟩,k1,s1,f1,z1,⟨da,db,dc,dd⟩,n1,ps,ls⟩:=X;have ht1:t1=text:=hinv.rd.t;subst t1;simp only at gU dY ub;clear hM hX hinv;by_cases hc:c1=0
 ·subst hc;by_cases hp:p1<text.size
  ·have jy:(p1:Int)<(text.size:Int):=by omega
   rw[show ek text (⟨text,p1,0,a1⟩,⟨k1,s1,f1,z1,⟨da,db,dc,dd⟩,n1,ps,ls⟩)=(.zero,4,(p1:Int)) from by simp[ek,hp]];simp -implicitDefEqProofs only[go_sem,jy,aJ.zero]
   first|done|rfl|exact⟨rfl,rfl⟩
  have jy:¬(p1:Int)<(text.size:Int):=by omega
  rw[show ek text (⟨text,p1,0,a1⟩,⟨k1,s1,f1,z1,⟨da,db,dc,dd⟩,n1,ps,ls⟩)=(⟨k1,s1,f1,z1,⟨da,db,dc,dd⟩,n1,ps,ls⟩,0,0) from by simp[ek,hp]];refine aA jy ?_;refine cT (DE ps (by omega)) ?_;refine cT (uB ls (by omega)) ?_
  first|exact True.intro|rfl|exact⟨rfl,rfl⟩
 have ui:(c1==0)=false:=by simpa using hc
 have ff:(c1 != 0)=true:=by simpa using hc
 rw[show ek text (⟨text,p1,c1,a1⟩,⟨k1,s1,f1,z1,⟨da,db,dc,dd⟩,n1,ps,ls⟩)=(.zero,c1,a1) from by simp[ek,hc]];simp -implicitDefEqProofs only[go_sem,ui,ff,aJ.zero]
 first|done|rfl|exact⟨rfl,rfl⟩
theorem dx {i n:Nat}(h:i<n) (hn:n<=maxLen):IntKind.i64.wrap ((i:Int)+1)=((i+1:Nat):Int):=by
 unfold maxLen at hn;rw[aN (by omega)];omega
def G3 {α:Type} (mk:Int->α × Int):Nat->Int->List α × Int
 | 0,k=>([],k)
 | n+1,k=>((G3 mk n k).1++[(mk (G3 mk n k).2).1],(mk (G3 mk n k).2).2)
def marked {α:Type} (E:α->List AV) (mk:Int->α × Int) (l:List α) (i:Nat) (k:Int):List (List AV):=(G3 mk i k).1.map E++(l.drop i).map E
attribute [go_sem] bytesOf
def te (a b:aX):Bool:=!((a.a:Int) != (b.a:Int))&&(!((a.b:Int) != (b.b:Int))&&(!((a.c:Int) != (b.c:Int))&&!((a.d:Int) != (b.d:Int))))
def aJ.ro (m:aJ):AV:=.agg [vI m.kind,vI m.bU,vI m.from_,vI m.size,vU m.root.a,vU m.root.b,vU m.root.c,vU m.root.d,vI m.count,.ro 4 (m.proof.map aX.cs),.ro 1 (m.az.map cF)]
def aJ.mv (m:aJ):AV:=.agg [vI m.kind,vI m.bU,vI m.from_,vI m.size,vU m.root.a,vU m.root.b,vU m.root.c,vU m.root.d,vI m.count,.aw 1000000 0 [] 4 0 m.proof.length,.aw 1000001 0 [] 1 0 m.az.length]
attribute [go_sem] aJ.ro aJ.mv
theorem abI {text:ByteArray}(r:ch) (z:Int) (k:Nat):(mP k (r,{aJ.zero with kind:=z})).2.proof.length<=1000/\(mP k (r,{aJ.zero with kind:=z})).2.az.length<=1000:=by
 unfold mP;split<;>first
  | exact⟨aR _,aR _⟩
  | (refine ⟨?_,aR _⟩
     show(gC _ _).1.length<=1000
     rw[Kd];have:=ve (pZ (pF (r,{aJ.zero with kind:=z}))).1 1 16 (by omega);omega)
  | (refine ⟨aR _,?_⟩
     show(fq _ _).1.length<=1000
     rw[Ka];have:=ve (pF (r,{aJ.zero with kind:=z})).1 1 8 (by omega);omega)
theorem xv (text:ByteArray):(cf text).1.proof.length<=1000/\(cf text).1.az.length<=1000:=by
 unfold cf;split
 ·exact⟨aR _,aR _⟩
 split
 ·unfold ek;split
  ·split
   ·exact⟨aR _,aR _⟩
   exact abI (text:=text) _ _ _
  exact⟨aR _,aR _⟩
 exact⟨aR _,aR _⟩
def Al:cc:=⟨[],cw,cz,false⟩
def kj (h:Bool) (n lo hi:Int):Bool:=if h then aS n lo hi else n==0
theorem U7 (h:Bool) (n lo hi:Int):ba Tryz.prog 281 [vB h,vI n,vI lo,vI hi] (vB (kj h n lo hi)) []:=by
 refine aF Al false Tryz.f281 ?_;conv=>enter[1];reduce
 refine bu Tryz.f281 17 [.tmp 8] (by kernel_rfl) (by decide +kernel) rfl ?_;refine au ?_;refine bX (fun h1=>?_) (fun h1=>?_)
 ·have h2:h=false:=by simpa using h1
  subst h2;simp -implicitDefEqProofs only[go_sem,kj];try rfl
 have h2:h=true:=by simpa using h1
 subst h2;simp -implicitDefEqProofs only[go_sem,kj];refine aq.intro (dQ n lo hi) ?_;simp -implicitDefEqProofs only[go_sem];try rfl
def ec (l:List ByteArray):Bool:=l.all fun s=>decide (s.size<=40)
theorem F7 {l:List ByteArray}{i:Nat}(h:i<l.length):ec (l.drop i)=(decide (l[i].size<=40)&&ec (l.drop (i+1))):=by
 rw[List.drop_eq_getElem_cons h];rfl
theorem U1 (l:List ByteArray) (hl:l.length<=maxLen):ba Tryz.prog 296 [.ro 1 (l.map cF)] (vB (decide (l.length<=8)&&ec l)) []:=by
 refine aF Al false Tryz.f296 ?_;conv=>enter[1];reduce
 refine bu Tryz.f296 19 [.tmp 2] (by kernel_rfl) (by decide +kernel) rfl ?_;refine au ?_;refine bX (fun h=>?_) (fun h=>?_)
 ·have h2:¬l.length<=8:=by have:=of_decide_eq_true h;omega
  refine aA h ?_;simp[h2]
 have h2:l.length<=8:=by have:=of_decide_eq_false h;omega
 refine aA h ?_;refine dq (fun k s=>∃(i:Nat),i<=l.length/\k=l.length - i/\ec (l.drop i)=ec l/\s=⟨19,[(0,.ro 1 (l.map cF)),(3,vI i)],[],1⟩) l.length
  (by simp -implicitDefEqProofs only[go_sem];exact⟨0,aR _,rfl,rfl,rfl⟩) ?_
 rintro k s ⟨i,hi,rfl,hx,rfl⟩;rcases bp i l.length with ab|bM
 ·have ah:(i:Int)<(l.length:Int):=by omega
  have hg:l[i]?=some l[i]:=bm ab;have hw:=dx ab hl;rw[F7 ab]at hx;refine b8 ah hg ?_;refine bX (fun h=>?_) (fun h=>?_)
  ·have h3:¬l[i].size<=40:=by have:=of_decide_eq_true h;omega
   refine aA h ?_;simp[h3]at hx;simp[h2,<-hx]
  have h3:l[i].size<=40:=by have:=of_decide_eq_false h;omega
  refine b8 h hw ?_;refine⟨_,by omega,i+1,ab,rfl,?_,rfl⟩;rw[<-hx];simp[h3]
 have hi:i=l.length:=by omega
 subst hi;have ah:¬((l.length:Int)<(l.length:Int)):=by omega
 rw[List.drop_length]at hx;refine aA ah ?_;simp[h2,<-hx];try rfl
def fW (v:Nat):Nat->ByteArray
 | 0=>⟨#[]⟩
 | n+1=>fW (v/256) n++⟨#[UInt8.ofNat (v%256)]⟩
theorem JH (v n:Nat):(fW v n).size=n:=by
 induction n generalizing v with
 | zero=>rfl
 | succ n ih=>rw[fW,ByteArray.size_append,ih];rfl
theorem HC:∀(n v:Nat),n<=10->v<=1000000000->ba Tryz.prog 272 [vI v,vI n] (vS (fW v n)) []
 | 0,v,hn,hv=>by
  refine aF Al false Tryz.f272 ?_;conv=>enter[1];reduce
  refine bu Tryz.f272 18 [.tmp 4] (by kernel_rfl) (by decide +kernel) rfl ?_;refine au ?_;refine bX (fun h=>?_) (fun h=>?_)
  ·refine aA h ?_;rfl
  exact absurd h (by decide)
 | n+1,v,hn,hv=>by
  refine aF Al false Tryz.f272 ?_;conv=>enter[1];reduce
  refine bu Tryz.f272 18 [.tmp 4] (by kernel_rfl) (by decide +kernel) rfl ?_;refine au ?_;have ab:¬(((n+1:Nat):Int)<1):=by omega
  have oj:((v:Int)).tmod 256=((v%256:Nat):Int):=by rw[Int.tmod_eq_emod_of_nonneg (by omega)];omega
  have zK:((v:Int)).tdiv 256=((v/256:Nat):Int):=by rw[Int.tdiv_eq_ediv_of_nonneg (by omega)];omega
  have w1:IntKind.i64.wrap ((v/256:Nat):Int)=((v/256:Nat):Int):=aN (by omega);have w2:IntKind.i64.wrap (((n+1:Nat):Int) - 1)=(n:Int):=by rw[aN (by omega)];omega
  have w3:(IntKind.u8.wrap ((v%256:Nat):Int))=((v%256:Nat):Int):=by
   have h8:IntKind.u8.bits=8:=rfl;have hs:IntKind.u8.signed=false:=rfl;simp only[IntKind.wrap,h8,hs,Bool.false_and,Bool.false_eq_true,if_false];omega
  refine nS ab oj zK w1 w2 w3 ?_;refine aq.intro (HC n (v/256) (by omega) (by omega)) ?_;have dv:¬((((fW (v/256) n).size+(#[UInt8.ofNat (v%256)]:Array UInt8).size:Nat):Int)>9223372036854775807):=by
   rw[JH];simp;omega
  refine aA dv ?_;rfl
theorem Qu (k:Int):ba Tryz.prog 218 [vI k] (vS (fJ k)) []:=by
 by_cases hk:0<=k
 ·obtain⟨n,rfl⟩:∃n:Nat,k=n:=⟨k.toNat,by omega⟩;exact Vr n
 refine aF Al false Tryz.f218 ?_;conv=>enter[1];reduce
 refine bu Tryz.f218 10 [.tmp 2] (by kernel_rfl) (by decide +kernel) rfl ?_;refine au ?_;refine aq.intro (dQ _ _ _) ?_;have cq:aS k 1 8=false:=by simp[aS];omega
 refine aA cq ?_;rw[fJ,if_neg (by omega),if_neg (by omega),if_neg (by omega),if_neg (by omega),if_neg (by omega),if_neg (by omega)]
theorem ab8 (k:Int):(fJ k).size<=3:=by
 unfold fJ
 repeat' split
 all_goals decide
theorem pd (k:Int) (c:Nat):ba Tryz.prog 282 [vI k,.sc (.int .u8 (c:Int))] (vB (dC (fJ k) c)) []:=by
 refine aF Al false Tryz.f282 ?_;conv=>enter[1];reduce
 refine bu Tryz.f282 20 [.tmp 4] (by kernel_rfl) (by decide +kernel) rfl ?_;refine au ?_;refine aq.intro (Qu k) ?_;have Cn:=ab8 k;generalize fJ k=s at *;refine au ?_;refine dq (fun m z=>∃i,i<=s.size/\m=s.size - i/\xw (s.data.toList.drop i) c=dC s c/\z=⟨20,[(1,.sc (.int .u8 (c:Int))),(5,vS s),(6,vI i)],[],1⟩) s.size ?_ ?_
 ·refine au ?_;exact⟨0,aR _,rfl,rfl,rfl⟩
 rintro m z ⟨i,hi,rfl,hx,rfl⟩;rcases bp i s.size with ab|bM
 ·have ah:(i:Int)<(s.size:Int):=by omega
  have hg:=yu (s:=s) (i:=i) ab;have w4:IntKind.i64.wrap ((i:Int)+1)=((i+1:Nat):Int):=by rw[aN (by omega)];omega
  rw[RA ab]at hx;refine b8 ah hg ?_;refine bX (fun h=>?_) (fun h=>?_)
  ·have h2:bN s i=c:=by have:=of_decide_eq_true h;omega
   refine aA h ?_;rw[<-hx,h2];simp
  have h2:¬bN s i=c:=fun e=>by rw[e]at h;simp at h
  refine b8 h w4 ?_;refine⟨_,by omega,i+1,ab,rfl,?_,rfl⟩;rw[<-hx];simp[h2]
 have hi:i=s.size:=by omega
 subst hi;have ah:¬((s.size:Int)<(s.size:Int)):=by omega
 refine aA ah ?_;rw[<-hx];rw[List.drop_of_length_le (by rw[Array.length_toList];exact Nat.le_refl _)];rfl
def afg:cc:=⟨[],cw,cz,false⟩
def low (v:Nat):Nat->List UInt8
 | 0=>[]
 | j+1=>UInt8.ofNat (v/256 ^ j%256)::low v j
theorem gY (v j:Nat):(low v j).length=j:=by
 induction j with
 | zero=>rfl
 | succ j ih=>simp[low,ih]
theorem F1 (v n:Nat):low v (n+1)=low (v/256) n++[UInt8.ofNat (v%256)]:=by
 induction n with
 | zero=>simp[low]
 | succ n ih=>
  rw[low,ih,low];simp[Nat.div_div_eq_div_mul,Nat.pow_succ,Nat.mul_comm]
theorem Fy (v n:Nat):(fW v n).data.toList=low v n:=by
 induction n generalizing v with
 | zero=>rfl
 | succ n ih=>
  rw[F1,fW,ByteArray.data_append,Array.toList_append,ih]
theorem Yh (q:Nat):((q:Int)).tmod 256=((q%256:Nat):Int):=by rw[Int.tmod_eq_emod_of_nonneg (by omega)];omega
theorem Ym (q:Nat):((q:Int)).tdiv 256=((q/256:Nat):Int):=by rw[Int.tdiv_eq_ediv_of_nonneg (by omega)];omega
theorem Xm {q:Nat}(h:q<=1000000000):IntKind.i64.wrap (q:Int)=(q:Int):=aN (by omega)
def sD (v n j:Nat):List (List AV):=List.replicate (n - j) [.sc (.int .u8 0)]++(low v j).map cE
theorem QO {v n j:Nat}(h:j<=n):(sD v n j).length=n:=by simp[sD,gY];omega
theorem aaV {v n j:Nat}(h:j<n):(sD v n j)[n - 1 - j]?=some [.sc (.int .u8 0)]:=by
 unfold sD;rw[List.getElem?_append_left (by simp;omega),List.getElem?_replicate,if_pos (by omega)]
theorem aaU {v n j:Nat}(h:j<n):(sD v n j).set (n - 1 - j) [.sc (.int .u8 ((v/256 ^ j%256:Nat):Int))]=sD v n (j+1):=by
 unfold sD;obtain⟨m,hm⟩:∃m,n - j=m+1:=⟨n - j - 1,by omega⟩;have h1:n - 1 - j=m:=by omega
 have h2:n - (j+1)=m:=by omega
 rw[hm,h1,h2,List.replicate_succ',List.append_assoc,List.set_append_right _ _ (by simp)];simp[low,cE]
theorem MD (v n:Nat) (hn:n<=10) (hv:v<=1000000000):ba Tryz.prog 288 [vI v,vI n] (.aw 0 0 [] 1 0 n) [([],⟨1,(low v n).map cE,2,false⟩)]:=by
 refine aF afg false Tryz.f288 ?_;conv=>enter[1];reduce
 refine bu Tryz.f288 24 [.tmp 4] (by kernel_rfl) (by decide +kernel) rfl ?_;have jz:((1:Nat):Int) * (n:Int)<=281474976710656/\(n:Int)<=9223372036854775807:=by omega
 have w1:IntKind.i64.wrap ((n:Int) - 1)=(n:Int) - 1:=aN (by omega);simp -implicitDefEqProofs only[go_sem,jz,w1,List.length_replicate];refine dq (fun m z=>∃j,j<=n/\m=n - j/\z=⟨24,[(0,vI ((v/256 ^ j:Nat):Int)),(5,.aw 5 0 [] 1 0 n),(6,vI ((n:Int) - 1 - (j:Int)))],[(5,0,one ⟨1,sD v n j,2,false⟩)],1⟩) n ?_ ?_
 ·refine au ?_;exact⟨0,aR _,rfl,by simp[sD,low]⟩
 rintro m z ⟨j,hj,rfl,rfl⟩;rcases bp j n with ab|bM
 ·have CE:(n:Int) - 1 - (j:Int)=((n - 1 - j:Nat):Int):=by omega
  have x8:((n - 1 - j:Nat):Int)>=0:=by omega
  have ah:((n - 1 - j:Nat):Int)<(n:Int):=by omega
  have hq:v/256 ^ j<=v:=Nat.div_le_self _ _;have oj:(((v/256 ^ j:Nat):Int)).tmod 256=((v/256 ^ j%256:Nat):Int):=Yh _;have zK:(((v/256 ^ j:Nat):Int)).tdiv 256=((v/256 ^ (j+1):Nat):Int):=by
   rw[Ym,Nat.pow_succ,<-Nat.div_div_eq_div_mul]
  have KK:v/256 ^ (j+1)<=v:=Nat.div_le_self _ _;have w2:IntKind.i64.wrap ((v/256 ^ (j+1):Nat):Int)=((v/256 ^ (j+1):Nat):Int):=Xm (Nat.le_trans KK hv);have w4:IntKind.i64.wrap (((n - 1 - j:Nat):Int) - 1)=(n:Int) - 1 - ((j+1:Nat):Int):=by rw[aN (by omega)];omega
  have w3:(IntKind.u8.wrap ((v/256 ^ j%256:Nat):Int))=((v/256 ^ j%256:Nat):Int):=by
   have h8:IntKind.u8.bits=8:=rfl;have hs:IntKind.u8.signed=false:=rfl;simp only[IntKind.wrap,h8,hs,Bool.false_and,Bool.false_eq_true,if_false];omega
  have nI:=aaV (v:=v) ab;have Gp:=aaU (v:=v) ab;have hlen:=QO (v:=v) hj;simp -implicitDefEqProofs only[go_sem,CE,x8,ah,oj,zK,w2,w3,nI,Gp,hlen];exact⟨_,by omega,j+1,ab,rfl,by rw[w4]⟩
 have hj:j=n:=by omega
 subst hj;have x8:¬((j:Int) - 1 - (j:Int)>=0):=by omega
 have hlen:=QO (v:=v) (Nat.le_refl j);refine b8 x8 hlen ?_;simp[sD]
def Hr:cc:=⟨[(152,.cm [false,true,false])],cw,cz,false⟩
theorem VY (l:List UInt8):bytesOf (l.map cE)=some l:=by
 induction l with
 | nil=>rfl
 | cons a l ih=>simp[bytesOf,cE,ih]
theorem rU (v:Nat) (hv:v<18446744073709551616):ba Tryz.prog 148 [vU v] (vS (fW v 8)) []:=by
 refine aF Hr false Tryz.f148 ?_;conv=>enter[1];reduce
 refine bu Tryz.f148 21 [.tmp 2] (by kernel_rfl) (by decide +kernel) rfl ?_;refine au ?_;refine dq (fun m z=>∃j,j<=8/\m=8 - j/\z=⟨21,[(0,vU v),(3,.aw 3 0 [] 1 0 (low (v/256 ^ (8 - j)) j).length),(4,vI (7 - (j:Int)))],[(3,0,one ⟨1,(low (v/256 ^ (8 - j)) j).map cE,2,false⟩)],1⟩) 8 ?_ ?_
 ·refine au ?_;exact⟨0,by omega,rfl,rfl⟩
 rintro m z ⟨j,hj,rfl,rfl⟩;rcases bp j 8 with ab|bM
 ·have x8:7 - (j:Int)>=0:=by omega
  have e1:IntKind.i64.wrap (8 * (7 - (j:Int)))=((8 * (7 - j):Nat):Int):=by rw[aN (by omega)];omega
  have e2:IntKind.u64.wrap ((8 * (7 - j):Nat):Int)=((8 * (7 - j):Nat):Int):=qW _ (by omega);have e3:¬(((8 * (7 - j):Nat):Int)<0):=by omega
  have e4:8 * (7 - j)<=64:=by omega
  have e5:((v:Int)).fdiv (2 ^ (8 * (7 - j)))=((v/256 ^ (7 - j):Nat):Int):=by
   have hp:(2:Int) ^ (8 * (7 - j))=((256 ^ (7 - j):Nat):Int):=by
    rw[Int.pow_mul];simp
   rw[hp,Int.fdiv_eq_ediv_of_nonneg _ (Int.natCast_nonneg _)];rfl
  have e6:IntKind.u8.wrap ((v/256 ^ (7 - j):Nat):Int)=((v/256 ^ (7 - j)%256:Nat):Int):=by
   generalize v/256 ^ (7 - j)=q;have h8:IntKind.u8.bits=8:=rfl;have hs:IntKind.u8.signed=false:=rfl;simp only[IntKind.wrap,h8,hs,Bool.false_and,Bool.false_eq_true,if_false];omega
  have e7:IntKind.i64.wrap (7 - (j:Int) - 1)=7 - ((j+1:Nat):Int):=by rw[aN (by omega)];omega
  have ha:∀x,_:=fun x=>ed (E:=cE) (l:=low (v/256 ^ (8 - j)) j) (xs:=[x]) (b:=1) (n:=100) (by simp[gY];omega) (by omega) (by omega)
  simp -implicitDefEqProofs only[go_sem,x8,e1,e2,e3,e4,e5,e6,e7,ha];have aD:low (v/256 ^ (8 - (j+1))) (j+1)=low (v/256 ^ (8 - j)) j++[UInt8.ofNat (v/256 ^ (7 - j)%256)]:=by
   rw[show 8 - (j+1)=7 - j by omega,F1,Nat.div_div_eq_div_mul,<-Nat.pow_succ,show(7 - j).succ=8 - j by omega]
  exact⟨_,by omega,j+1,ab,rfl,by rw[aD];simp[cE]⟩
 have hj:j=8:=by omega
 subst hj;have x8:¬(7 - ((8:Nat):Int)>=0):=by omega
 refine yP x8 ?_;have e:(⟨(low (v/256 ^ 0) 8).toArray⟩:ByteArray)=fW v 8:=by
  have:=Fy v 8;rw[show v/256 ^ 0=v by simp,<-this]
 rw[e]
structure aX.ok (d:aX):Prop where
 a:d.a<18446744073709551616
 b:d.b<18446744073709551616
 c:d.c<18446744073709551616
 d:d.d<18446744073709551616
def aX.bytes (d:aX):ByteArray:=fW d.a 8++fW d.b 8++fW d.c 8++fW d.d 8
theorem EH (q:Nat):IntKind.u8.wrap (q:Int)=((q%256:Nat):Int):=by
 have h8:IntKind.u8.bits=8:=rfl;have hs:IntKind.u8.signed=false:=rfl;simp only[IntKind.wrap,h8,hs,Bool.false_and,Bool.false_eq_true,if_false];omega
theorem wO (v:Nat) {m:Nat}(j:Nat) (h:m=8 * j):IntKind.u8.wrap ((v:Int).fdiv (2 ^ m))=((v/256 ^ j%256:Nat):Int):=by
 subst h;have hp:(2:Int) ^ (8 * j)=((256 ^ j:Nat):Int):=by
  rw[Int.pow_mul];simp
 rw[hp,Int.fdiv_eq_ediv_of_nonneg _ (Int.natCast_nonneg _)];exact EH _
theorem Ve (d:aX) (h:d.ok):ba Tryz.prog 251 [.agg d.cs] (vS d.bytes) []:=by
 refine aF Hr false Tryz.f251 ?_;conv=>enter[1];reduce
 refine bu Tryz.f251 18 [.tmp 2] (by kernel_rfl) (by decide +kernel) rfl ?_;have hs:∀v,(fW v 8).size=8:=fun v=>JH v 8
 have dv:∀a b c d:Nat,¬((((fW a 8).size+(fW b 8).size:Nat):Int)>9223372036854775807)/\¬((((fW a 8).size+(fW b 8).size+(fW c 8).size:Nat):Int)>9223372036854775807)/\¬((((fW a 8).size+(fW b 8).size+(fW c 8).size+(fW d 8).size:Nat):Int)>9223372036854775807):=by
  intro a b c d;simp only[hs];omega
 simp -implicitDefEqProofs only[go_sem]
 repeat' first|(refine aq.intro (by first|exact rU _ h.a|exact rU _ h.b|exact rU _ h.c|exact rU _ h.d) ?_;try simp -implicitDefEqProofs only[go_sem,(dv d.a d.b d.c d.d).1,(dv d.a d.b d.c d.d).2.1,(dv d.a d.b d.c d.d).2.2])|(refine aE.intro (by first|exact rU _ h.a|exact rU _ h.b|exact rU _ h.c|exact rU _ h.d) ?_;try simp -implicitDefEqProofs only[go_sem,(dv d.a d.b d.c d.d).1,(dv d.a d.b d.c d.d).2.1,(dv d.a d.b d.c d.d).2.2])|(refine fv (fun h=>?_) (fun h=>?_)<;>try simp -implicitDefEqProofs only[go_sem,(dv d.a d.b d.c d.d).1,(dv d.a d.b d.c d.d).2.1,(dv d.a d.b d.c d.d).2.2,h])|(refine bX (fun h=>?_) (fun h=>?_)<;>try simp -implicitDefEqProofs only[go_sem,(dv d.a d.b d.c d.d).1,(dv d.a d.b d.c d.d).2.1,(dv d.a d.b d.c d.d).2.2,h])
 rfl
theorem wj (l:List UInt8) (v:Nat) (hl:l.length<=1000000):aY Tryz.prog 152 [(1000000,0,one ⟨1,l.map cE,2,false⟩)] [.agg [],.aw 1000000 0 [] 1 0 l.length,vU v] (.aw 0 0 [] 1 0 (l++low v 8).length) [(0,0,one ⟨1,(l++low v 8).map cE,2,false⟩)]:=by
 refine aF Hr false Tryz.f152 ?_;conv=>enter[1];reduce
 refine bI Tryz.f152 33 [.tmp 6] (by kernel_rfl) (by decide +kernel) rfl ?_;have e0:=EH v;have e7:=wO v (m:=56) 7 rfl;have e6:=wO v (m:=48) 6 rfl;have e5:=wO v (m:=40) 5 rfl;have e4:=wO v (m:=32) 4 rfl;have e3:=wO v (m:=24) 3 rfl;have e2:=wO v (m:=16) 2 rfl;have e1:=wO v (m:=8) 1 rfl;have ha:∀x0 x1 x2 x3 x4 x5 x6 x7,_:=fun x0 x1 x2 x3 x4 x5 x6 x7=>ed (E:=cE) (l:=l) (xs:=[x0,x1,x2,x3,x4,x5,x6,x7]) (b:=1) (n:=10000000) (by simp;omega) (by omega) (by omega)
 simp -implicitDefEqProofs only[go_sem,e0,e1,e2,e3,e4,e5,e6,e7,ha];simp[low,cE]
def aX.bk (d:aX):Nat->List UInt8
 | 0=>[]
 | 1=>low d.a 8
 | 2=>low d.a 8++low d.b 8
 | 3=>low d.a 8++low d.b 8++low d.c 8
 | _=>low d.a 8++low d.b 8++low d.c 8++low d.d 8
theorem aX.VX (d:aX):d.bytes=⟨(d.bk 4).toArray⟩:=by
 unfold aX.bytes aX.bk;apply ByteArray.ext;apply Array.toList_inj.1;simp[ByteArray.data_append,Array.toList_append,Fy]
theorem F2 (v:Nat):(low v 8).length=8:=gY v 8
theorem aX.Wc (d:aX) {i:Nat}(h:i<=4):(d.bk i).length=8 * i:=by
 have fS:i=0\/i=1\/i=2\/i=3\/i=4:=by omega
 rcases fS with rfl|rfl|rfl|rfl|rfl<;>simp[aX.bk,F2]
theorem U5 (d:aX):ba Tryz.prog 289 [.agg d.cs] (vS d.bytes) []:=by
 refine aF Hr false Tryz.f289 ?_;conv=>enter[1];reduce
 refine bu Tryz.f289 27 [.tmp 2] (by kernel_rfl) (by decide +kernel) rfl ?_;refine au ?_;refine mj [(3,1)] (fun m s=>∃i,i<=4/\m=4 - i/\s=⟨27,[(3,.aw 3 0 [] 1 0 (d.bk i).length),(14,.aw 14 0 [] 1 0 4),(15,vI 4),(16,vI i)],[(3,0,one ⟨1,(d.bk i).map cE,2,false⟩),(14,0,one ⟨1,[[vU d.a],[vU d.b],[vU d.c],[vU d.d]],2,false⟩)],1⟩) 4 ?_ ?_
 ·refine au ?_;exact⟨0,by omega,rfl,rfl⟩
 rintro m s ⟨i,hi,rfl,rfl⟩;rcases bp i 4 with ab|bM
 ·have ah:(i:Int)<4:=by omega
  have w4:IntKind.i64.wrap ((i:Int)+1)=((i+1:Nat):Int):=by rw[aN (by omega)];omega
  obtain⟨w,hg,hk⟩:∃w,([[vU d.a],[vU d.b],[vU d.c],[vU d.d]]:List (List AV))[i]?=some [vU w]/\d.bk (i+1)=d.bk i++low w 8:=by
   have fS:i=0\/i=1\/i=2\/i=3:=by omega
   rcases fS with rfl|rfl|rfl|rfl
   ·exact⟨d.a,rfl,rfl⟩
   ·exact⟨d.b,rfl,rfl⟩
   ·exact⟨d.c,rfl,rfl⟩
   exact⟨d.d,rfl,rfl⟩
  have hb:=d.Wc (i:=i) (by omega);simp -implicitDefEqProofs only[go_sem,ah,Int.cast_ofNat_Int,hg];refine eW (wj (d.bk i) w (by omega)) w4 ?_;exact⟨_,by omega,i+1,ab,rfl,by rw[hk]⟩
 have hi4:i=4:=by omega
 subst hi4;have ah:¬(((4:Nat):Int)<4):=by omega
 refine yP ah ?_;rw[d.VX]
def Uu:cc:=⟨[],cw,cz,false⟩
def hS (k:Int):Bool:=decide (k=1\/k=2\/k=3\/k=6)
def hF (k:Int):Bool:=decide (k=4\/k=5\/k=7\/k=8)
def hZ (k:Int):Bool:=decide (k=2\/k=3\/k=4\/k=5\/k=6)
def hR (k:Int):Bool:=decide (k=2\/k=3\/k=6)
def hC (k:Int):Bool:=decide (k=7)
def hP (k:Int):Bool:=decide (k=5)
def hL (k:Int):Bool:=decide (k=8)
theorem kinds (k:Int):k=1\/k=2\/k=3\/k=4\/k=5\/k=6\/k=7\/k=8\/(¬k=1/\¬k=2/\¬k=3/\¬k=4/\¬k=5/\¬k=6/\¬k=7/\¬k=8):=by omega
theorem adH (k:Int):(dC (fJ k) 115=hS k/\dC (fJ k) 102=hF k/\dC (fJ k) 122=hZ k/\dC (fJ k) 114=hR k/\dC (fJ k) 99=hC k/\dC (fJ k) 112=hP k/\dC (fJ k) 108=hL k)/\
  (dC (gS k) 115=hS k/\dC (gS k) 102=hF k/\dC (gS k) 110=hZ k/\dC (gS k) 114=hR k/\dC (gS k) 99=hC k/\dC (gS k) 112=hP k/\dC (gS k) 108=hL k):=by
 rcases kinds k with rfl|rfl|rfl|rfl|rfl|rfl|rfl|rfl|⟨h1,h2,h3,h4,h5,h6,h7,h8⟩
 iterate 8 exact⟨⟨rfl,rfl,rfl,rfl,rfl,rfl,rfl⟩,⟨rfl,rfl,rfl,rfl,rfl,rfl,rfl⟩⟩
 have e1:fJ k=⟨#[]⟩:=by simp[fJ,h1,h2,h3,h4,h5,h6,h7,h8]
 have e2:gS k=⟨#[]⟩:=by simp[gS,h1,h2,h3,h4,h5,h6,h7,h8]
 rw[e1,e2];simp[hS,hF,hZ,hR,hC,hP,hL,h1,h2,h3,h4,h5,h6,h7,h8,dC,xw]
def gh:aX:=⟨0,0,0,0⟩
def fi (m:aJ):Bool:=aS m.kind 1 8&&(kj (hS m.kind) m.bU 1 1000000&&(kj (hF m.kind) m.from_ 0 256&&(kj (hZ m.kind) m.size 0 256&&((hR m.kind||te m.root gh)&&(kj (hC m.kind) m.count 1 8&&(kj (hP m.kind) m.proof.length 0 16&&(kj (hL m.kind) m.az.length 0 8&&ec m.az)))))))
def aJ.qj (m:aJ):List AV:=[vI m.kind,vI m.bU,vI m.from_,vI m.size,vU m.root.a,vU m.root.b,vU m.root.c,vU m.root.d,vI m.count,.ro 4 (m.proof.map aX.cs),.ro 1 (m.az.map cF)]
attribute [go_sem] aJ.qj
theorem Vd (m:aJ) (hl:m.az.length<=maxLen):ba Tryz.prog 254 [m.ro] (vB (fi m)) []:=by
 refine aF Uu false Tryz.f254 ?_;conv=>enter[1];reduce
 refine bu Tryz.f254 75 [.tmp 2] (by kernel_rfl) (by decide +kernel) rfl ?_;refine au ?_;refine dq (fun k s=>∃i:Nat,i<=m.az.length/\k=m.az.length - i/\ec (m.az.drop i)=ec m.az/\s=⟨75,[(1,.ptr 1 0 [] 11 0 0),(3,vI m.kind),(9,.ro 1 (m.az.map cF)),(10,vI m.az.length),(11,vI i)],[(1,0,one ⟨11,[m.qj],0,false⟩)],1⟩) m.az.length ?_ ?_
 ·refine au ?_;exact⟨0,aR _,rfl,rfl,rfl⟩
 rintro k s ⟨i,hi,rfl,hx,rfl⟩;rcases bp i m.az.length with ab|bM
 ·have ah:(i:Int)<(m.az.length:Int):=by omega
  have hg:m.az[i]?=some m.az[i]:=bm ab;have hw:=dx ab hl;rw[F7 ab]at hx;refine b8 ah hg ?_;refine bX (fun h=>?_) (fun h=>?_)
  ·have h3:¬m.az[i].size<=40:=by have:=of_decide_eq_true h;omega
   refine aA h ?_;have sN:ec m.az=false:=by rw[<-hx];simp[h3]
   simp[fi,sN]
  have h3:m.az[i].size<=40:=by have:=of_decide_eq_false h;omega
  refine b8 h hw ?_;refine⟨_,by omega,i+1,ab,rfl,?_,rfl⟩;rw[<-hx];simp[h3]
 have hi:i=m.az.length:=by omega
 subst hi;have ah:¬((m.az.length:Int)<(m.az.length:Int)):=by omega
 rw[List.drop_length]at hx;have sN:ec m.az=true:=hx.symm;obtain⟨e1,e2,e3,e4,e5,e6,e7⟩:=(adH m.kind).1;simp -implicitDefEqProofs only[go_sem,ah]
 repeat' first|(refine aq.intro (by first|exact dQ _ _ _|exact pd m.kind 115|exact pd m.kind 102|exact pd m.kind 122|exact pd m.kind 114|exact pd m.kind 99|exact pd m.kind 112|exact pd m.kind 108|exact U7 _ _ _ _) ?_;try simp -implicitDefEqProofs only[go_sem,e1,e2,e3,e4,e5,e6,e7])|(refine aE.intro (by first|exact dQ _ _ _|exact pd m.kind 115|exact pd m.kind 102|exact pd m.kind 122|exact pd m.kind 114|exact pd m.kind 99|exact pd m.kind 112|exact pd m.kind 108|exact U7 _ _ _ _) ?_;try simp -implicitDefEqProofs only[go_sem,e1,e2,e3,e4,e5,e6,e7])|(refine fv (fun h=>?_) (fun h=>?_)<;>try simp -implicitDefEqProofs only[go_sem,e1,e2,e3,e4,e5,e6,e7,h])|(refine bX (fun h=>?_) (fun h=>?_)<;>try simp -implicitDefEqProofs only[go_sem,e1,e2,e3,e4,e5,e6,e7,h])
 all_goals simp_all[fi,gh,te]
theorem ab9:gS 1=⟨#[115]⟩/\gS 2=⟨#[115,110,114]⟩/\gS 3=⟨#[115,110,114]⟩/\gS 4=⟨#[102,110]⟩/\gS 5=⟨#[102,110,112]⟩/\gS 6=⟨#[115,110,114]⟩/\gS 7=⟨#[102,99]⟩/\gS 8=⟨#[102,108]⟩:=⟨rfl,rfl,rfl,rfl,rfl,rfl,rfl,rfl⟩
theorem sQ:(hS 1=true/\hS 2=true/\hS 3=true/\hS 4=false/\hS 5=false/\hS 6=true/\hS 7=false/\hS 8=false)/\(hF 1=false/\hF 2=false/\hF 3=false/\hF 4=true/\hF 5=true/\hF 6=false/\hF 7=true/\hF 8=true)/\(hZ 1=false/\hZ 2=true/\hZ 3=true/\hZ 4=true/\hZ 5=true/\hZ 6=true/\hZ 7=false/\hZ 8=false)/\(hR 1=false/\hR 2=true/\hR 3=true/\hR 4=false/\hR 5=false/\hR 6=true/\hR 7=false/\hR 8=false)/\(hC 1=false/\hC 2=false/\hC 3=false/\hC 4=false/\hC 5=false/\hC 6=false/\hC 7=true/\hC 8=false)/\(hP 1=false/\hP 2=false/\hP 3=false/\hP 4=false/\hP 5=true/\hP 6=false/\hP 7=false/\hP 8=false)/\(hL 1=false/\hL 2=false/\hL 3=false/\hL 4=false/\hL 5=false/\hL 6=false/\hL 7=false/\hL 8=true):=by decide
theorem tW:aS 1 1 8=true/\aS 2 1 8=true/\aS 3 1 8=true/\aS 4 1 8=true/\aS 5 1 8=true/\aS 6 1 8=true/\aS 7 1 8=true/\aS 8 1 8=true:=by decide
theorem beq_cons_nil (a:UInt8) (l:List UInt8):((a::l)==([]:List UInt8))=false:=rfl
theorem beq_nil_nil:(([]:List UInt8)==[])=true:=rfl
attribute [go_sem] beq_cons_nil beq_nil_nil ab9 sm OJ EJ A9
theorem Vb (m:aJ) (hl:m.az.length<=maxLen):ba Tryz.prog 270 [m.ro] (vB (fi m)) []:=by
 refine aF Uu false Tryz.f270 ?_;conv=>enter[1];reduce
 refine bu Tryz.f270 127 [.tmp 2] (by kernel_rfl) (by decide +kernel) rfl ?_;obtain⟨k,se,fr,si,ro,co,pr,le⟩:=m;refine au ?_;refine aq.intro (ML k) ?_;rcases kinds k with rfl|rfl|rfl|rfl|rfl|rfl|rfl|rfl|⟨h1,h2,h3,h4,h5,h6,h7,h8⟩
 case inr.inr.inr.inr.inr.inr.inr.inr=>
  have e2:gS k=⟨#[]⟩:=by simp[gS,h1,h2,h3,h4,h5,h6,h7,h8]
  refine Ey e2 ?_;have:aS k 1 8=false:=by simp[aS];omega
  simp[fi,this]
 all_goals simp -implicitDefEqProofs only[go_sem,aT,aV]
 all_goals repeat' first|(refine aq.intro (by first|exact fG _ _ _|exact aM _ 115 (by decide)|exact aM _ 102 (by decide)|exact aM _ 110 (by decide)|exact aM _ 114 (by decide)|exact aM _ 99 (by decide)|exact aM _ 112 (by decide)|exact aM _ 108 (by decide)|exact U1 le hl) ?_;try simp -implicitDefEqProofs only[go_sem,aT,aV])|(refine aE.intro (by first|exact fG _ _ _|exact aM _ 115 (by decide)|exact aM _ 102 (by decide)|exact aM _ 110 (by decide)|exact aM _ 114 (by decide)|exact aM _ 99 (by decide)|exact aM _ 112 (by decide)|exact aM _ 108 (by decide)|exact U1 le hl) ?_;try simp -implicitDefEqProofs only[go_sem,aT,aV])|(refine fv (fun h=>?_) (fun h=>?_)<;>try simp -implicitDefEqProofs only[go_sem,aT,aV,h])|(refine bX (fun h=>?_) (fun h=>?_)<;>try simp -implicitDefEqProofs only[go_sem,aT,aV,h])
 all_goals simp_all[fi,gh,te,kj,sQ,tW]
 all_goals first
  | (intros;subst_vars;simp_all;done)
  | (cases le<;>simp_all[ec];done)
  | (cases iU:ec le<;>simp_all[aS]<;>intros<;>first|omega|(intro e;subst e;simp_all[ec];done)|(subst_vars;simp_all[ec];done))
end Go.Proofs.YtobpfkgabdeefaaGreat.E
