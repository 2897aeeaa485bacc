/- Contracts: a message read, in the program; Contracts: messages that are the same; what is marked and held; Contracts: messages that are the same, marked, held; the law of WireRead; Contracts: parts of messages; numbers in bytes; Contracts: numbers in bytes, in the program; Contracts: digests in bytes; Contracts: messages that are ok -/
import Derived.Test.YtobpfkgabdeefaaGreatP6
namespace Go.Proofs.YtobpfkgabdeefaaGreat.E
open Go Go.RowKit
set_option maxHeartbeats 4000000
set_option maxRecDepth 10000
set_option linter.unusedSimpArgs false
set_option linter.unusedVariables false
set_option linter.unusedSectionVars false
def Mt:bX:=⟨[(217,.cm [true,false]),(219,.cm [true,false,false,false]),(220,.cm [true])],[9,10,11],[24,26,30,44,47,50,51,52,57,58,59,62,76,88,138,185,186,187,253,254,297,311],false⟩
theorem DI (l:List aW) (hl:l.length * 32≤140737488355328):aR Tryz.prog 128 [.ro 4 (l.map aW.cs)] (.au 0 0 [] 4 0 l.length) [([],⟨4,l.map aW.cs,2,false⟩)]:=by
 refine aA Mt false Tryz.f128 ?_;conv=>enter[1];reduce
 refine bf Tryz.f128 14 [.tmp 2] (by kernel_rfl) (by decide +kernel) rfl ?_;refine aw ?_;refine b8 (fun h=>?_) (fun h=>?_)
 ·have:l=[]:=by simpa using h
  subst this;exact dt
 have hm:=mm hl (by omega);have hJ:((32:Nat):Int) * (l.length:Int)≤281474976710656∧(l.length:Int)≤9223372036854775807:=by unfold maxLen at hm;omega
 exact rN h hJ
theorem uu (l:List ByteArray) (hl:l.length * 16≤140737488355328):aR Tryz.prog 118 [.ro 1 (l.map cY)] (.au 0 0 [] 1 0 l.length) [([],⟨1,l.map cY,2,false⟩)]:=by
 refine aA Mt false Tryz.f118 ?_;conv=>enter[1];reduce
 refine bf Tryz.f118 14 [.tmp 2] (by kernel_rfl) (by decide +kernel) rfl ?_;refine aw ?_;refine b8 (fun h=>?_) (fun h=>?_)
 ·have:l=[]:=by simpa using h
  subst this;exact dt
 have hm:=mm hl (by omega);have hJ:((16:Nat):Int) * (l.length:Int)≤281474976710656∧(l.length:Int)≤9223372036854775807:=by unfold maxLen at hm;omega
 exact rN h hJ
def pP2 (x:bY × aM):bY × aM:=((f9 (cP x.1 1 0 16).1.toNat (cP x.1 1 0 16).2).2,{x.2 with proof:=x.2.proof++(f9 (cP x.1 1 0 16).1.toNat (cP x.1 1 0 16).2).1})
def pL2 (x:bY × aM):bY × aM:=((eV (cP x.1 1 0 8).1.toNat (cP x.1 1 0 8).2).2,{x.2 with az:=x.2.az++(eV (cP x.1 1 0 8).1.toNat (cP x.1 1 0 8).2).1})
def BK (c:Nat) (x:bY × aM):bY × aM:=match c with
 | 115=>pS x
 | 102=>pF x
 | 122=>pZ x
 | 114=>pR x
 | 99=>pC x
 | 112=>pP2 x
 | 108=>pL2 x
 | _=>x
def zt (l:List UInt8) (x:bY × aM):bY × aM:=l.foldl (fun x b=>BK b.toNat x) x
theorem aap (l:List UInt8) (b:UInt8) (x:bY × aM):zt (l++[b]) x=BK b.toNat (zt l x):=by
 unfold zt;rw[List.foldl_append];rfl
theorem bM {k:Nat}(hk:1≤k∧k≤8) {pos:Nat}(h:pos<(fy (k:Int)).size):pos≤2∧∃c,Utf8.decode (fy (k:Int)) pos=(c,1)∧(fy (k:Int)).data.toList.take (pos+1)=(fy (k:Int)).data.toList.take pos++[UInt8.ofNat c]∧(UInt8.ofNat c).toNat=c∧
  (c=115∨c=102∨c=122∨c=114∨c=99∨c=112∨c=108):=by
 have bW:k=1∨k=2∨k=3∨k=4∨k=5∨k=6∨k=7∨k=8:=by omega
 have hs:(fy (k:Int)).size≤3:=by rcases bW with rfl|rfl|rfl|rfl|rfl|rfl|rfl|rfl<;>decide
 have hp:pos=0∨pos=1∨pos=2:=by omega
 refine⟨by omega,?_⟩;rcases bW with rfl|rfl|rfl|rfl|rfl|rfl|rfl|rfl<;>rcases hp with rfl|rfl|rfl<;>
  first
  | exact absurd h (by decide)
  | exact⟨115,by decide,by decide,by decide,by decide⟩
  | exact⟨102,by decide,by decide,by decide,by decide⟩
  | exact⟨122,by decide,by decide,by decide,by decide⟩
  | exact⟨114,by decide,by decide,by decide,by decide⟩
  | exact⟨99,by decide,by decide,by decide,by decide⟩
  | exact⟨112,by decide,by decide,by decide,by decide⟩
  | exact⟨108,by decide,by decide,by decide,by decide⟩
theorem aan {k:Nat}(hk:1≤k∧k≤8) (r:bY) (z:Int):mz k (r,{aM.zero with kind:=z})=zt ((fy (k:Int)).data.toList.take (fy (k:Int)).size) (r,{aM.zero with kind:=z}):=by
 have bW:k=1∨k=2∨k=3∨k=4∨k=5∨k=6∨k=7∨k=8:=by omega
 rcases bW with rfl|rfl|rfl|rfl|rfl|rfl|rfl|rfl<;>rfl
def N8:List AV:=[vI 0,vI 0,vI 0,vI 0,vU 0,vU 0,vU 0,vU 0,vI 0,.aG,.aG]
def Rr (m:aM):List AV:=[vI m.kind,vI m.bR,vI m.from_,vI m.size,vU m.root.a,vU m.root.b,vU m.root.c,vU m.root.d,vI m.count,.au 10006 0 [] 4 0 m.proof.length,.au 20006 0 [] 1 0 m.az.length]
def FR (x:bY × aM):aj:=[(2,0,one ⟨11,[N8],0,false⟩),(3,0,one ⟨2,[[vI 0,vI 0]],0,false⟩),(4,0,one ⟨4,[x.1.cs],0,false⟩),(6,0,one ⟨11,[Rr x.2],0,false⟩),(10006,0,one ⟨4,x.2.proof.map aW.cs,2,false⟩),(20006,0,one ⟨1,x.2.az.map cY,2,false⟩)]
attribute [go_sem] N8 Rr FR
structure aic (text:ByteArray) (pos:Nat) (x:bY × aM):Prop where
 rd:mS text x.1
 pl:x.2.proof.length≤16 * pos
 ll:x.2.az.length≤8 * pos
def aM.NC (m:aM):AV:=.agg [vI m.kind,vI m.bR,vI m.from_,vI m.size,vU m.root.a,vU m.root.b,vU m.root.c,vU m.root.d,vI m.count,.au 0 0 [] 4 0 m.proof.length,.au 1 0 [] 1 0 m.az.length]
def aM.out (m:aM):aj:=[(0,0,one ⟨4,m.proof.map aW.cs,2,false⟩),(1,0,one ⟨1,m.az.map cY,2,false⟩)]
attribute [go_sem] aM.NC aM.out
theorem DF (text:ByteArray) (ht:text.size≤1000000000000):bb Tryz.prog 165 [] [vS text] (.ba [(bV text).1.NC,.agg [vI (bV text).2.1,vI (bV text).2.2]]) (bV text).1.out:=by
 refine aA Mt false Tryz.f165 ?_;conv=>enter[1];reduce
 refine bT Tryz.f165 157 [.cell 2 193,.cell 3 195] (by kernel_rfl) (by decide +kernel) rfl ?_;refine aw ?_;refine aD.intro (HE ⟨text,0,0,0⟩ 1 (by omega) (aQ _) ht) ?_;rcases Nat.eq_zero_or_pos text.size with h0|h0
 ·have hr:eD ⟨text,0,0,0⟩ 1=(⟨#[]⟩,⟨text,0,2,(text.size:Int)⟩):=by
   unfold eD;rw[if_pos rfl,if_pos (show 0+1>text.size by omega)]
  have hM:bV text=(.zero,2,0):=by unfold bV;rw[if_pos h0]
  rw[hM];simp -implicitDefEqProofs only[go_sem,hr,h0,aM.zero]
  first|rfl|exact⟨rfl,rfl⟩
 have hr:eD ⟨text,0,0,0⟩ 1=(text.extract 0 1,⟨text,1,0,0⟩):=by
  unfold eD;rw[if_pos rfl,if_neg (show ¬0+1>text.size by omega)]
 have hs:(text.extract 0 1).size=1:=by rw[ByteArray.size_extract];omega
 have hg:=yy (s:=text.extract 0 1) (i:=0) (by omega);rw[Wi h0]at hg;have hb:=yH text 0;have w1:IntKind.i64.wrap (bN text 0:Int)=(bN text 0:Int):=aV (by omega);have h':¬text.size=0:=by omega
 refine ez hr hg w1 ?_;refine cz (dG _ _ _) ?_;refine b8 (fun h=>?_) (fun h=>?_)
 ·have cc:¬(1≤bN text 0∧bN text 0≤8):=fun hh=>by
   have h3:(1:Int)≤(bN text 0:Int)∧(bN text 0:Int)≤8:=by omega
   simp[aT,h3.1,h3.2]at h
  have hM:bV text=(.zero,1,0):=by unfold bV;rw[if_neg h',if_neg cc]
  rw[hM];simp -implicitDefEqProofs only[go_sem,h,aM.zero]
  first|rfl|exact⟨rfl,rfl⟩
 have cc:1≤bN text 0∧bN text 0≤8:=by
  have:(1:Int)≤(bN text 0:Int)∧(bN text 0:Int)≤8:=by simpa[aT]using h
  omega
 refine ez h hg w1 ?_;refine cz (Vr (bN text 0)) ?_;refine PC (fy (bN text 0:Int)) [0,2,3,4,6,51] [(10006,4),(11006,1)] (fun r pos z=>pos≤(fy (bN text 0:Int)).size∧∃X,X=zt ((fy (bN text 0:Int)).data.toList.take pos) (⟨text,1,0,0⟩,{aM.zero with kind:=bN text 0})∧aic text pos X∧z=⟨157,[(0,vS text),(2,.ptr 2 0 [] 11 0 0),(3,.ptr 3 0 [] 2 0 0),(4,.ptr 4 0 [] 4 0 0),(6,.ptr 6 0 [] 11 0 0),(51,.it r)],FR X,1⟩) ?_ ?_ ?_ ?_ ?_ ?_
 ·rfl
 ·omega
 ·intro r;refine aw ?_;exact⟨aQ _,_,rfl,⟨⟨rfl,by show 1≤text.size;omega⟩,aQ _,aQ _⟩,rfl⟩
 ·rintro r pos z ⟨-,X,-,-,rfl⟩;exact⟨rfl,rfl⟩
 ·rintro r pos z ⟨hle,X,hX,hinv,rfl⟩ ab;obtain⟨mE,c,hd,gY,KM,hc⟩:=bM cc ab;have ud:BK c X=zt ((fy (bN text 0:Int)).data.toList.take (pos+1)) (⟨text,1,0,0⟩,{aM.zero with kind:=bN text 0}):=by rw[gY,aap,KM,←hX]
  refine⟨c,hd,?_⟩;clear hX;have tV:X.1.p≤X.1.t.size:=by rw[hinv.rd.t];exact hinv.rd.p
  have xQ:X.1.t.size≤1000000000000:=by rw[hinv.rd.t];exact ht
  have g9:=hinv.pl;have dW:=hinv.ll;rcases hc with rfl|rfl|rfl|rfl|rfl|rfl|rfl
  ·have aU:((115:Nat):Int)=115:=rfl;refine aC aU ?_;refine eP (yE X.1 3 1 1000000 (by omega) tV xQ) ?_;exact⟨ab,pS X,ud,⟨hinv.rd.num _ _ _,by show X.2.proof.length≤_;omega,by show X.2.az.length≤_;omega⟩,rfl⟩
  ·have aU:((102:Nat):Int)=102:=rfl;refine aC aU ?_;refine eP (yE X.1 2 0 256 (by omega) tV xQ) ?_;exact⟨ab,pF X,ud,⟨hinv.rd.num _ _ _,by show X.2.proof.length≤_;omega,by show X.2.az.length≤_;omega⟩,rfl⟩
  ·have aU:((122:Nat):Int)=122:=rfl;refine aC aU ?_;refine eP (yE X.1 2 0 256 (by omega) tV xQ) ?_;exact⟨ab,pZ X,ud,⟨hinv.rd.num _ _ _,by show X.2.proof.length≤_;omega,by show X.2.az.length≤_;omega⟩,rfl⟩
  ·have aU:((114:Nat):Int)=114:=rfl;refine aC aU ?_;refine eP (Vq X.1 tV xQ) ?_;exact⟨ab,pR X,ud,⟨hinv.rd.c9,by show X.2.proof.length≤_;omega,by show X.2.az.length≤_;omega⟩,rfl⟩
  ·have aU:((99:Nat):Int)=99:=rfl;refine aC aU ?_;refine eP (yE X.1 1 1 8 (by omega) tV xQ) ?_;exact⟨ab,pC X,ud,⟨hinv.rd.num _ _ _,by show X.2.proof.length≤_;omega,by show X.2.az.length≤_;omega⟩,rfl⟩
  ·have aU:((112:Nat):Int)=112:=rfl;refine aC aU ?_;refine aD.intro (yE X.1 1 0 16 (by omega) tV xQ) ?_;have hv:=u6 X.1 1 16 (by omega);have js:=hinv.rd.num 1 0 16;have vr:BK 112 X=((f9 (cP X.1 1 0 16).1.toNat (cP X.1 1 0 16).2).2,{X.2 with proof:=X.2.proof++(f9 (cP X.1 1 0 16).1.toNat (cP X.1 1 0 16).2).1}):=rfl;generalize cP X.1 1 0 16=y at *;obtain⟨v,R⟩:=y;simp only at hv js vr;refine aw ?_;refine cR (fun m z=>∃i:Nat,i≤v.toNat∧m=v.toNat - i∧z=⟨157,[(0,vS text),(2,.ptr 2 0 [] 11 0 0),(3,.ptr 3 0 [] 2 0 0),(4,.ptr 4 0 [] 4 0 0),(6,.ptr 6 0 [] 11 0 0),(9,vI (v - (i:Int))),(51,.it r)],FR ((f9 i R).2,{X.2 with proof:=X.2.proof++(f9 i R).1}),1⟩) v.toNat ?_ ?_
   ·refine aw ?_;exact⟨0,aQ _,rfl,by simp[f9]⟩
   rintro m z ⟨i,hi,rfl,rfl⟩;have hlen:=Kj i R;have ku:=js.TY i;rcases bm i v.toNat with hl|bH
   ·have ae:v - (i:Int)>0:=by omega
    have w4:IntKind.i64.wrap (v - (i:Int) - 1)=v - ((i+1:Nat):Int):=by rw[aV (by omega)];omega
    have ha:∀x,_:=fun x=>du (E:=aW.cs) (l:=X.2.proof++(f9 i R).1) (xs:=[x]) (b:=32) (n:=100) (by simp[hlen];omega) (by omega) (by omega)
    refine aC ae ?_;refine ff (Vq (f9 i R).2 (by rw[ku.t];exact ku.p) (by rw[ku.t];exact ht)) ha w4 ?_;exact⟨_,by omega,i+1,hl,rfl,by simp[f9];rfl⟩
   have hi:i=v.toNat:=by omega
   have ae:¬(v - (i:Int)>0):=by omega
   refine aC ae ?_;subst hi;rw[vr]at ud;exact⟨ab,_,ud,⟨ku,by simp[hlen];omega,by simp[hlen];omega⟩,rfl⟩
  have aU:((108:Nat):Int)=108:=rfl;refine aC aU ?_;refine aD.intro (yE X.1 1 0 8 (by omega) tV xQ) ?_;have hv:=u6 X.1 1 8 (by omega);have js:=hinv.rd.num 1 0 8;have vr:BK 108 X=((eV (cP X.1 1 0 8).1.toNat (cP X.1 1 0 8).2).2,{X.2 with az:=X.2.az++(eV (cP X.1 1 0 8).1.toNat (cP X.1 1 0 8).2).1}):=rfl;generalize cP X.1 1 0 8=y at *;obtain⟨v,R⟩:=y;simp only at hv js vr;refine aw ?_;refine cR (fun m z=>∃i:Nat,i≤v.toNat∧m=v.toNat - i∧z=⟨157,[(0,vS text),(2,.ptr 2 0 [] 11 0 0),(3,.ptr 3 0 [] 2 0 0),(4,.ptr 4 0 [] 4 0 0),(6,.ptr 6 0 [] 11 0 0),(10,vI (v - (i:Int))),(51,.it r)],FR ((eV i R).2,{X.2 with az:=X.2.az++(eV i R).1}),1⟩) v.toNat ?_ ?_
  ·refine aw ?_;exact⟨0,aQ _,rfl,by simp[eV]⟩
  rintro m z ⟨i,hi,rfl,rfl⟩;have hlen:=Kg i R;have ku:=js.RZ i;rcases bm i v.toNat with hl|bH
  ·have ae:v - (i:Int)>0:=by omega
   have w4:IntKind.i64.wrap (v - (i:Int) - 1)=v - ((i+1:Nat):Int):=by rw[aV (by omega)];omega
   have ha:∀x,_:=fun x=>du (E:=cY) (l:=X.2.az++(eV i R).1) (xs:=[x]) (b:=16) (n:=100) (by simp[hlen];omega) (by omega) (by omega)
   refine aC ae ?_;refine aD.intro (yE (eV i R).2 1 0 40 (by omega) (by rw[ku.t];exact ku.p) (by rw[ku.t];exact ht)) ?_;have nP:=ku.num 1 0 40;have re:=u6 (eV i R).2 1 40 (by omega);have LD:(cP (eV i R).2 1 0 40).1=((cP (eV i R).2 1 0 40).1.toNat:Int):=(Int.toNat_of_nonneg re.1).symm;refine aw ?_;rw[LD];refine ff (HE (cP (eV i R).2 1 0 40).2 (cP (eV i R).2 1 0 40).1.toNat (by omega) (by rw[nP.t];exact nP.p) (by rw[nP.t];exact ht)) ha w4 ?_;exact⟨_,by omega,i+1,hl,rfl,by simp[eV,qb,cY]⟩
  have hi:i=v.toNat:=by omega
  have ae:¬(v - (i:Int)>0):=by omega
  refine aC ae ?_;subst hi;rw[vr]at ud;exact⟨ab,_,ud,⟨ku,by simp[hlen];omega,by simp[hlen];omega⟩,rfl⟩
 rintro r pos z ⟨hle,X,hX,hinv,rfl⟩ bH;have gZ:pos=(fy (bN text 0:Int)).size:=by omega
 subst gZ;have hM:bV text=eb text X:=by
  unfold bV;rw[if_neg h',if_pos cc,aan cc,hX]
 have KP:(fy (bN text 0:Int)).size≤3:=by
  have bW:bN text 0=1∨bN text 0=2∨bN text 0=3∨bN text 0=4∨bN text 0=5∨bN text 0=6∨bN text 0=7∨bN text 0=8:=by omega
  rcases bW with e|e|e|e|e|e|e|e<;>rw[e]<;>decide
 have g9:=hinv.pl;have dW:=hinv.ll;have tV:=hinv.rd.p;rw[hM];obtain⟨⟨t1,p1,c1,a1⟩,k1,s1,f1,z1,⟨da,db,dc,dd⟩,n1,ps,ls⟩:=X;have ht1:t1=text:=hinv.rd.t;subst t1;simp only at g9 dW tV;clear hM hX hinv;by_cases hc:c1=0
 ·subst hc;by_cases hp:p1<text.size
  ·have je:(p1:Int)<(text.size:Int):=by omega
   rw[show eb text (⟨text,p1,0,a1⟩,⟨k1,s1,f1,z1,⟨da,db,dc,dd⟩,n1,ps,ls⟩)=(.zero,4,(p1:Int)) from by simp[eb,hp]];simp -implicitDefEqProofs only[go_sem,je,aM.zero]
   first|done|rfl|exact⟨rfl,rfl⟩
  have je:¬(p1:Int)<(text.size:Int):=by omega
  rw[show eb text (⟨text,p1,0,a1⟩,⟨k1,s1,f1,z1,⟨da,db,dc,dd⟩,n1,ps,ls⟩)=(⟨k1,s1,f1,z1,⟨da,db,dc,dd⟩,n1,ps,ls⟩,0,0) from by simp[eb,hp]];refine aC je ?_;refine cz (DI ps (by omega)) ?_;refine cz (uu ls (by omega)) ?_
  first|exact True.intro|rfl|exact⟨rfl,rfl⟩
 have ua:(c1==0)=false:=by simpa using hc
 have eN:(c1 != 0)=true:=by simpa using hc
 rw[show eb text (⟨text,p1,c1,a1⟩,⟨k1,s1,f1,z1,⟨da,db,dc,dd⟩,n1,ps,ls⟩)=(.zero,c1,a1) from by simp[eb,hc]];simp -implicitDefEqProofs only[go_sem,ua,eN,aM.zero]
 first|done|rfl|exact⟨rfl,rfl⟩
def Ul:bX:=⟨[],[9,10,11],[24,26,30,44,47,50,51,52,57,58,59,62,76,88,138,185,186,187,253,254,297,311],false⟩
theorem df {i n:Nat}(h:i<n) (hn:n≤maxLen):IntKind.i64.wrap ((i:Int)+1)=((i+1:Nat):Int):=by
 unfold maxLen at hn;rw[aV (by omega)];omega
def abA {α:Type} (e:α→α→Bool):List α→List α→Bool
 | [],[]=>true
 | a::l,b::m=>e a b&&abA e l m
 | _,_=>false
def dE {α:Type} (mk:Int→α × Int):Nat→Int→List α × Int
 | 0,k=>([],k)
 | n+1,k=>((dE mk n k).1++[(mk (dE mk n k).2).1],(mk (dE mk n k).2).2)
theorem qv {α:Type}{mk:Int→α × Int}{n:Nat}{k:Int}:(dE mk n k).1.length=n:=by
 induction n with
 | zero=>rfl
 | succ n ih=>simp[dE,ih]
theorem adB {α:Type}{mk:Int→α × Int}{n i:Nat}{k:Int}(h:i<n):(dE mk n k).1[i]?=some (mk (dE mk i k).2).1:=by
 induction n with
 | zero=>omega
 | succ n ih=>
  simp only[dE];rcases bm i n with hi|hi
  ·rw[List.getElem?_append_left (by rw[qv];exact hi),ih hi]
  have:i=n:=by omega
  subst this;rw[List.getElem?_append_right (by rw[qv];exact Nat.le_refl _),qv,Nat.sub_self];rfl
def marked {α:Type} (E:α→List AV) (mk:Int→α × Int) (l:List α) (i:Nat) (k:Int):List (List AV):=(dE mk i k).1.map E++(l.drop i).map E
theorem Rh {α:Type}{E:α→List AV}{mk:Int→α × Int}{l:List α}{k:Int}:marked E mk l 0 k=l.map E:=by simp[marked,dE]
theorem Rk {α:Type}{E:α→List AV}{mk:Int→α × Int}{l:List α}{k:Int}:marked E mk l l.length k=(dE mk l.length k).1.map E:=by simp[marked]
theorem FN {α:Type}{E:α→List AV}{mk:Int→α × Int}{l:List α}{i:Nat}{k:Int}(h:i≤l.length):(marked E mk l i k).length=l.length:=by simp[marked,qv];omega
theorem Rj {α:Type}{E:α→List AV}{mk:Int→α × Int}{l:List α}{i:Nat}{k:Int}(h:i<l.length):(marked E mk l i k)[i]?=some (E l[i]):=by
 unfold marked;rw[List.getElem?_append_right (by simp[qv]),List.length_map,qv,Nat.sub_self,List.getElem?_map,List.getElem?_drop,Nat.add_zero,bz h];rfl
theorem Ri {α:Type}{E:α→List AV}{mk:Int→α × Int}{l:List α}{i:Nat}{k:Int}(h:i<l.length):(marked E mk l i k).set i (E (mk (dE mk i k).2).1)=marked E mk l (i+1) k:=by
 unfold marked;rw[List.set_append_right _ _ (by simp[qv]),List.length_map,qv,Nat.sub_self,List.drop_eq_getElem_cons h,List.map_cons,List.set_cons_zero];simp[dE]
def adC {α:Type} (eq:α→Int→Bool) (nx:Int→Int):List α→Int→Int
 | [],k=>k
 | a::l,k=>if eq a k then adC eq nx l (nx k) else -1
def vD (k:Nat) (out:ByteArray):ByteArray:=if h:k=0 then out else vD (k/10) (⟨#[UInt8.ofNat (48+k%10)]⟩++out)
termination_by k
decreasing_by omega
def zF (k:Int):ByteArray:=if k≤0 then⟨#[109,48]⟩ else⟨#[109]⟩++vD k.toNat ⟨#[]⟩
theorem aep {k:Nat}{out:ByteArray}(h:0<k):vD k out=vD (k/10) (⟨#[UInt8.ofNat (48+k%10)]⟩++out):=by
 rw[vD,dif_neg (by omega)]
theorem YJ (b:UInt8):(⟨#[b]⟩:ByteArray).size=1:=rfl
attribute [go_sem] bytesOf
theorem afz (k:Int) (hk:k≤9223372036854775800):aR Tryz.prog 65 [vI k] (.sc (.string (zF k))) []:=by
 refine aA Ul false Tryz.f65 ?_;conv=>enter[1];reduce
 refine bf Tryz.f65 20 [.tmp 2] (by kernel_rfl) (by decide +kernel) rfl ?_;refine aw ?_;refine b8 (fun h=>?_) (fun h=>?_)
 ·refine aC h ?_;rw[zF,if_pos (of_decide_eq_true h)]
 have h0:0<k:=by have:=of_decide_eq_false h;omega
 refine aC h ?_;refine cR (fun m s=>∃(n:Nat) (out:ByteArray),m=n∧(n:Int)+out.size≤k∧vD n out=vD k.toNat ⟨#[]⟩∧s=⟨20,[(0,vI n),(3,.sc (.string out))],[],1⟩) k.toNat ?_ ?_
 ·refine aw ?_;exact⟨k.toNat,⟨#[]⟩,rfl,by simp[ByteArray.size];omega,rfl,by rw[Int.toNat_of_nonneg (by omega)]⟩
 rintro m s ⟨n,out,rfl,hn,hd,rfl⟩;rcases Nat.eq_zero_or_pos m with hz|hz
 ·subst hz;rw[vD,dif_pos rfl]at hd;have h00:¬(((0:Nat):Int)>0):=by omega
  have dg:¬((((#[109]:Array UInt8).size+out.size:Nat):Int)>9223372036854775807):=by simp;omega
  refine cg h00 dg ?_;rw[zF,if_neg (by omega),←hd]
 have acI:0<m:=by omega
 have gZ:(m:Int)>0:=by omega
 have dg:¬((((#[UInt8.ofNat (48+m%10)]:Array UInt8).size+out.size:Nat):Int)>9223372036854775807):=by simp;omega
 have nO:((m:Int)).tmod 10=((m%10:Nat):Int):=by rw[Int.tmod_eq_emod_of_nonneg (by omega)];omega
 have Cl:((m:Int)).tdiv 10=((m/10:Nat):Int):=by rw[Int.tdiv_eq_ediv_of_nonneg (by omega)];omega
 have tS:(IntKind.u8.wrap (IntKind.i64.wrap (48+((m%10:Nat):Int)))).toNat=48+m%10:=by
  rw[aV (by omega)];have h8:IntKind.u8.bits=8:=rfl;have hs:IntKind.u8.signed=false:=rfl;simp only[IntKind.wrap,h8,hs,Bool.false_and,Bool.false_eq_true,if_false];omega
 refine oe gZ dg nO Cl tS ?_;refine⟨m/10,by omega,m/10,⟨#[UInt8.ofNat (48+m%10)]⟩++out,rfl,?_,?_,?_⟩
 ·rw[ByteArray.size_append,YJ];omega
 ·rw[←aep acI,hd]
 rw[aV (by omega)]
def oT (a b:aW):Bool:=!((a.a:Int) != (b.a:Int))&&(!((a.b:Int) != (b.b:Int))&&(!((a.c:Int) != (b.c:Int))&&!((a.d:Int) != (b.d:Int))))
theorem Ak (a:aW):oT a a=true:=by simp[oT]
theorem UR (a b:aW):aR Tryz.prog 70 [.agg a.cs,.agg b.cs] (vB (oT a b)) []:=by
 refine aA Ul false Tryz.f70 ?_;conv=>enter[1];reduce
 refine bf Tryz.f70 25 [.tmp 4] (by kernel_rfl) (by decide +kernel) rfl ?_;simp -implicitDefEqProofs only[go_sem,oT]
 repeat' first|(refine ew (fun h=>?_) (fun h=>?_)<;>try simp -implicitDefEqProofs only[go_sem,h])|(refine b8 (fun h=>?_) (fun h=>?_)<;>try simp -implicitDefEqProofs only[go_sem,h])
 all_goals simp_all
def ajh (a b:ByteArray):Bool:=a.toList==b.toList
def JZ (k:Int):aW × Int:=(⟨k.toNat,(k+1).toNat,(k+1+1).toNat,(k+1+1+1).toNat⟩,k+1+1+1+1)
def aji (d:aW) (k:Int):Bool:=(d.a:Int)==(k.toNat:Int)&&((d.b:Int)==((k+1).toNat:Int)&&((d.c:Int)==((k+1+1).toNat:Int)&&(d.d:Int)==((k+1+1+1).toNat:Int)))
theorem EE {z:Int}(h:0≤z∧z<9223372036854775808):IntKind.u64.wrap z=(z.toNat:Int):=by
 obtain⟨n,rfl⟩:∃n:Nat,z=n:=⟨z.toNat,by omega⟩;rw[pT n (by omega)];rfl
def Q9 (k:Int):ByteArray × Int:=(zF k,k+1)
def ajl (s:ByteArray) (k:Int):Bool:=s.toList==(zF k).toList
def aM.ro (m:aM):AV:=.agg [vI m.kind,vI m.bR,vI m.from_,vI m.size,vU m.root.a,vU m.root.b,vU m.root.c,vU m.root.d,vI m.count,.ro 4 (m.proof.map aW.cs),.ro 1 (m.az.map cY)]
def aM.mv (m:aM):AV:=.agg [vI m.kind,vI m.bR,vI m.from_,vI m.size,vU m.root.a,vU m.root.b,vU m.root.c,vU m.root.d,vI m.count,.au 1000000 0 [] 4 0 m.proof.length,.au 1000001 0 [] 1 0 m.az.length]
attribute [go_sem] aM.ro aM.mv
def aio (m:aM) (k:Int):aM:={m with proof:=(dE JZ m.proof.length k).1,az:=(dE Q9 m.az.length (dE JZ m.proof.length k).2).1}
def ain (m:aM) (k:Int):Int:=(dE Q9 m.az.length (dE JZ m.proof.length k).2).2
theorem abt {text:ByteArray}(r:bY) (z:Int) (k:Nat):(mz k (r,{aM.zero with kind:=z})).2.proof.length≤1000∧(mz k (r,{aM.zero with kind:=z})).2.az.length≤1000:=by
 unfold mz;split<;>first
  | exact⟨aQ _,aQ _⟩
  | (refine ⟨?_,aQ _⟩
     show(f9 _ _).1.length≤1000
     rw[Kj];have:=u6 (pZ (pF (r,{aM.zero with kind:=z}))).1 1 16 (by omega);omega)
  | (refine ⟨aQ _,?_⟩
     show(eV _ _).1.length≤1000
     rw[Kg];have:=u6 (pF (r,{aM.zero with kind:=z})).1 1 8 (by omega);omega)
theorem xi (text:ByteArray):(bV text).1.proof.length≤1000∧(bV text).1.az.length≤1000:=by
 unfold bV;split
 ·exact⟨aQ _,aQ _⟩
 split
 ·unfold eb;split
  ·split
   ·exact⟨aQ _,aQ _⟩
   exact abt (text:=text) _ _ _
  exact⟨aQ _,aQ _⟩
 exact⟨aQ _,aQ _⟩
def Aq:bX:=⟨[],[9,10,11],[24,26,30,44,47,50,51,52,57,58,59,62,76,88,138,185,186,187,253,254,297,311],false⟩
def jU (h:Bool) (n lo hi:Int):Bool:=if h then aT n lo hi else n==0
theorem U5 (h:Bool) (n lo hi:Int):aR Tryz.prog 281 [vB h,vI n,vI lo,vI hi] (vB (jU h n lo hi)) []:=by
 refine aA Aq false Tryz.f281 ?_;conv=>enter[1];reduce
 refine bf Tryz.f281 17 [.tmp 8] (by kernel_rfl) (by decide +kernel) rfl ?_;refine aw ?_;refine b8 (fun h1=>?_) (fun h1=>?_)
 ·have h2:h=false:=by simpa using h1
  subst h2;simp -implicitDefEqProofs only[go_sem,jU];try rfl
 have h2:h=true:=by simpa using h1
 subst h2;simp -implicitDefEqProofs only[go_sem,jU];refine aq.intro (dG n lo hi) ?_;simp -implicitDefEqProofs only[go_sem];try rfl
def dX (l:List ByteArray):Bool:=l.all fun s=>decide (s.size≤40)
theorem F5 {l:List ByteArray}{i:Nat}(h:i<l.length):dX (l.drop i)=(decide (l[i].size≤40)&&dX (l.drop (i+1))):=by
 rw[List.drop_eq_getElem_cons h];rfl
theorem UZ (l:List ByteArray) (hl:l.length≤maxLen):aR Tryz.prog 296 [.ro 1 (l.map cY)] (vB (decide (l.length≤8)&&dX l)) []:=by
 refine aA Aq false Tryz.f296 ?_;conv=>enter[1];reduce
 refine bf Tryz.f296 19 [.tmp 2] (by kernel_rfl) (by decide +kernel) rfl ?_;refine aw ?_;refine b8 (fun h=>?_) (fun h=>?_)
 ·have h2:¬l.length≤8:=by have:=of_decide_eq_true h;omega
  refine aC h ?_;simp[h2]
 have h2:l.length≤8:=by have:=of_decide_eq_false h;omega
 refine aC h ?_;refine cR (fun k s=>∃(i:Nat),i≤l.length∧k=l.length - i∧dX (l.drop i)=dX l∧s=⟨19,[(0,.ro 1 (l.map cY)),(3,vI i)],[],1⟩) l.length
  (by simp -implicitDefEqProofs only[go_sem];exact⟨0,aQ _,rfl,rfl,rfl⟩) ?_
 rintro k s ⟨i,hi,rfl,hx,rfl⟩;rcases bm i l.length with ab|bH
 ·have ae:(i:Int)<(l.length:Int):=by omega
  have hg:l[i]?=some l[i]:=bz ab;have hw:=df ab hl;rw[F5 ab]at hx;refine cg ae hg ?_;refine b8 (fun h=>?_) (fun h=>?_)
  ·have h3:¬l[i].size≤40:=by have:=of_decide_eq_true h;omega
   refine aC h ?_;simp[h3]at hx;simp[h2,←hx]
  have h3:l[i].size≤40:=by have:=of_decide_eq_false h;omega
  refine cg h hw ?_;refine⟨_,by omega,i+1,ab,rfl,?_,rfl⟩;rw[←hx];simp[h3]
 have hi:i=l.length:=by omega
 subst hi;have ae:¬((l.length:Int)<(l.length:Int)):=by omega
 rw[List.drop_length]at hx;refine aC ae ?_;simp[h2,←hx];try rfl
def fN (v:Nat):Nat→ByteArray
 | 0=>⟨#[]⟩
 | n+1=>fN (v/256) n++⟨#[UInt8.ofNat (v%256)]⟩
theorem JM (v n:Nat):(fN v n).size=n:=by
 induction n generalizing v with
 | zero=>rfl
 | succ n ih=>rw[fN,ByteArray.size_append,ih];rfl
theorem HB:∀(n v:Nat),n≤10→v≤1000000000→aR Tryz.prog 272 [vI v,vI n] (vS (fN v n)) []
 | 0,v,hn,hv=>by
  refine aA Aq false Tryz.f272 ?_;conv=>enter[1];reduce
  refine bf Tryz.f272 18 [.tmp 4] (by kernel_rfl) (by decide +kernel) rfl ?_;refine aw ?_;refine b8 (fun h=>?_) (fun h=>?_)
  ·refine aC h ?_;rfl
  exact absurd h (by decide)
 | n+1,v,hn,hv=>by
  refine aA Aq false Tryz.f272 ?_;conv=>enter[1];reduce
  refine bf Tryz.f272 18 [.tmp 4] (by kernel_rfl) (by decide +kernel) rfl ?_;refine aw ?_;have ab:¬(((n+1:Nat):Int)<1):=by omega
  have nO:((v:Int)).tmod 256=((v%256:Nat):Int):=by rw[Int.tmod_eq_emod_of_nonneg (by omega)];omega
  have Cl:((v:Int)).tdiv 256=((v/256:Nat):Int):=by rw[Int.tdiv_eq_ediv_of_nonneg (by omega)];omega
  have w1:IntKind.i64.wrap ((v/256:Nat):Int)=((v/256:Nat):Int):=aV (by omega);have w2:IntKind.i64.wrap (((n+1:Nat):Int) - 1)=(n:Int):=by rw[aV (by omega)];omega
  have w3:(IntKind.u8.wrap ((v%256:Nat):Int))=((v%256:Nat):Int):=by
   have h8:IntKind.u8.bits=8:=rfl;have hs:IntKind.u8.signed=false:=rfl;simp only[IntKind.wrap,h8,hs,Bool.false_and,Bool.false_eq_true,if_false];omega
  refine nz ab nO Cl w1 w2 w3 ?_;refine aq.intro (HB n (v/256) (by omega) (by omega)) ?_;have dg:¬((((fN (v/256) n).size+(#[UInt8.ofNat (v%256)]:Array UInt8).size:Nat):Int)>9223372036854775807):=by
   rw[JM];simp;omega
  refine aC dg ?_;rfl
theorem Qp (k:Int):aR Tryz.prog 218 [vI k] (vS (fy k)) []:=by
 by_cases hk:0≤k
 ·obtain⟨n,rfl⟩:∃n:Nat,k=n:=⟨k.toNat,by omega⟩;exact Vr n
 refine aA Aq false Tryz.f218 ?_;conv=>enter[1];reduce
 refine bf Tryz.f218 10 [.tmp 2] (by kernel_rfl) (by decide +kernel) rfl ?_;refine aw ?_;refine aq.intro (dG _ _ _) ?_;have cc:aT k 1 8=false:=by simp[aT];omega
 refine aC cc ?_;rw[fy,if_neg (by omega),if_neg (by omega),if_neg (by omega),if_neg (by omega),if_neg (by omega),if_neg (by omega)]
theorem abN (k:Int):(fy k).size≤3:=by
 unfold fy
 repeat' split
 all_goals decide
theorem oV (k:Int) (c:Nat):aR Tryz.prog 282 [vI k,.sc (.int .u8 (c:Int))] (vB (dA (fy k) c)) []:=by
 refine aA Aq false Tryz.f282 ?_;conv=>enter[1];reduce
 refine bf Tryz.f282 20 [.tmp 4] (by kernel_rfl) (by decide +kernel) rfl ?_;refine aw ?_;refine aq.intro (Qp k) ?_;have KP:=abN k;generalize fy k=s at *;refine aw ?_;refine cR (fun m z=>∃i,i≤s.size∧m=s.size - i∧xk (s.data.toList.drop i) c=dA s c∧z=⟨20,[(1,.sc (.int .u8 (c:Int))),(5,vS s),(6,vI i)],[],1⟩) s.size ?_ ?_
 ·refine aw ?_;exact⟨0,aQ _,rfl,rfl,rfl⟩
 rintro m z ⟨i,hi,rfl,hx,rfl⟩;rcases bm i s.size with ab|bH
 ·have ae:(i:Int)<(s.size:Int):=by omega
  have hg:=yy (s:=s) (i:=i) ab;have w4:IntKind.i64.wrap ((i:Int)+1)=((i+1:Nat):Int):=by rw[aV (by omega)];omega
  rw[Rz ab]at hx;refine cg ae hg ?_;refine b8 (fun h=>?_) (fun h=>?_)
  ·have h2:bN s i=c:=by have:=of_decide_eq_true h;omega
   refine aC h ?_;rw[←hx,h2];simp
  have h2:¬bN s i=c:=fun e=>by rw[e]at h;simp at h
  refine cg h w4 ?_;refine⟨_,by omega,i+1,ab,rfl,?_,rfl⟩;rw[←hx];simp[h2]
 have hi:i=s.size:=by omega
 subst hi;have ae:¬((s.size:Int)<(s.size:Int)):=by omega
 refine aC ae ?_;rw[←hx];rw[List.drop_of_length_le (by rw[Array.length_toList];exact Nat.le_refl _)];rfl
def aeZ:bX:=⟨[],[9,10,11],[24,26,30,44,47,50,51,52,57,58,59,62,76,88,138,185,186,187,253,254,297,311],false⟩
def low (v:Nat):Nat→List UInt8
 | 0=>[]
 | j+1=>UInt8.ofNat (v/256 ^ j%256)::low v j
theorem gJ (v j:Nat):(low v j).length=j:=by
 induction j with
 | zero=>rfl
 | succ j ih=>simp[low,ih]
theorem F1 (v n:Nat):low v (n+1)=low (v/256) n++[UInt8.ofNat (v%256)]:=by
 induction n with
 | zero=>simp[low]
 | succ n ih=>
  rw[low,ih,low];simp[Nat.div_div_eq_div_mul,Nat.pow_succ,Nat.mul_comm]
theorem Fx (v n:Nat):(fN v n).data.toList=low v n:=by
 induction n generalizing v with
 | zero=>rfl
 | succ n ih=>
  rw[F1,fN,ByteArray.data_append,Array.toList_append,ih]
theorem X7 (q:Nat):((q:Int)).tmod 256=((q%256:Nat):Int):=by rw[Int.tmod_eq_emod_of_nonneg (by omega)];omega
theorem Yc (q:Nat):((q:Int)).tdiv 256=((q/256:Nat):Int):=by rw[Int.tdiv_eq_ediv_of_nonneg (by omega)];omega
theorem Xd {q:Nat}(h:q≤1000000000):IntKind.i64.wrap (q:Int)=(q:Int):=aV (by omega)
def r7 (v n j:Nat):List (List AV):=List.replicate (n - j) [.sc (.int .u8 0)]++(low v j).map cW
theorem QI {v n j:Nat}(h:j≤n):(r7 v n j).length=n:=by simp[r7,gJ];omega
theorem aaF {v n j:Nat}(h:j<n):(r7 v n j)[n - 1 - j]?=some [.sc (.int .u8 0)]:=by
 unfold r7;rw[List.getElem?_append_left (by simp;omega),List.getElem?_replicate,if_pos (by omega)]
theorem aaE {v n j:Nat}(h:j<n):(r7 v n j).set (n - 1 - j) [.sc (.int .u8 ((v/256 ^ j%256:Nat):Int))]=r7 v n (j+1):=by
 unfold r7;obtain⟨m,hm⟩:∃m,n - j=m+1:=⟨n - j - 1,by omega⟩;have h1:n - 1 - j=m:=by omega
 have h2:n - (j+1)=m:=by omega
 rw[hm,h1,h2,List.replicate_succ',List.append_assoc,List.set_append_right _ _ (by simp)];simp[low,cW]
theorem MS (v n:Nat) (hn:n≤10) (hv:v≤1000000000):aR Tryz.prog 288 [vI v,vI n] (.au 0 0 [] 1 0 n) [([],⟨1,(low v n).map cW,2,false⟩)]:=by
 refine aA aeZ false Tryz.f288 ?_;conv=>enter[1];reduce
 refine bf Tryz.f288 24 [.tmp 4] (by kernel_rfl) (by decide +kernel) rfl ?_;have hJ:((1:Nat):Int) * (n:Int)≤281474976710656∧(n:Int)≤9223372036854775807:=by omega
 have w1:IntKind.i64.wrap ((n:Int) - 1)=(n:Int) - 1:=aV (by omega);simp -implicitDefEqProofs only[go_sem,hJ,w1,List.length_replicate];refine cR (fun m z=>∃j,j≤n∧m=n - j∧z=⟨24,[(0,vI ((v/256 ^ j:Nat):Int)),(5,.au 5 0 [] 1 0 n),(6,vI ((n:Int) - 1 - (j:Int)))],[(5,0,one ⟨1,r7 v n j,2,false⟩)],1⟩) n ?_ ?_
 ·refine aw ?_;exact⟨0,aQ _,rfl,by simp[r7,low]⟩
 rintro m z ⟨j,hj,rfl,rfl⟩;rcases bm j n with ab|bH
 ·have CD:(n:Int) - 1 - (j:Int)=((n - 1 - j:Nat):Int):=by omega
  have ya:((n - 1 - j:Nat):Int)≥0:=by omega
  have ae:((n - 1 - j:Nat):Int)<(n:Int):=by omega
  have hq:v/256 ^ j≤v:=Nat.div_le_self _ _;have nO:(((v/256 ^ j:Nat):Int)).tmod 256=((v/256 ^ j%256:Nat):Int):=X7 _;have Cl:(((v/256 ^ j:Nat):Int)).tdiv 256=((v/256 ^ (j+1):Nat):Int):=by
   rw[Yc,Nat.pow_succ,←Nat.div_div_eq_div_mul]
  have KU:v/256 ^ (j+1)≤v:=Nat.div_le_self _ _;have w2:IntKind.i64.wrap ((v/256 ^ (j+1):Nat):Int)=((v/256 ^ (j+1):Nat):Int):=Xd (Nat.le_trans KU hv);have w4:IntKind.i64.wrap (((n - 1 - j:Nat):Int) - 1)=(n:Int) - 1 - ((j+1:Nat):Int):=by rw[aV (by omega)];omega
  have w3:(IntKind.u8.wrap ((v/256 ^ j%256:Nat):Int))=((v/256 ^ j%256:Nat):Int):=by
   have h8:IntKind.u8.bits=8:=rfl;have hs:IntKind.u8.signed=false:=rfl;simp only[IntKind.wrap,h8,hs,Bool.false_and,Bool.false_eq_true,if_false];omega
  have kA:=aaF (v:=v) ab;have vh:=aaE (v:=v) ab;have hlen:=QI (v:=v) hj;simp -implicitDefEqProofs only[go_sem,CD,ya,ae,nO,Cl,w2,w3,kA,vh,hlen];exact⟨_,by omega,j+1,ab,rfl,by rw[w4]⟩
 have hj:j=n:=by omega
 subst hj;have ya:¬((j:Int) - 1 - (j:Int)≥0):=by omega
 have hlen:=QI (v:=v) (Nat.le_refl j);refine cg ya hlen ?_;simp[r7]
def Hn:bX:=⟨[(152,.cm [false,true,false])],[9,10,11],[24,26,30,44,47,50,51,52,57,58,59,62,76,88,138,185,186,187,253,254,297,311],false⟩
theorem VU (l:List UInt8):bytesOf (l.map cW)=some l:=by
 induction l with
 | nil=>rfl
 | cons a l ih=>simp[bytesOf,cW,ih]
theorem rC (v:Nat) (hv:v<18446744073709551616):aR Tryz.prog 148 [vU v] (vS (fN v 8)) []:=by
 refine aA Hn false Tryz.f148 ?_;conv=>enter[1];reduce
 refine bf Tryz.f148 21 [.tmp 2] (by kernel_rfl) (by decide +kernel) rfl ?_;refine aw ?_;refine cR (fun m z=>∃j,j≤8∧m=8 - j∧z=⟨21,[(0,vU v),(3,.au 3 0 [] 1 0 (low (v/256 ^ (8 - j)) j).length),(4,vI (7 - (j:Int)))],[(3,0,one ⟨1,(low (v/256 ^ (8 - j)) j).map cW,2,false⟩)],1⟩) 8 ?_ ?_
 ·refine aw ?_;exact⟨0,by omega,rfl,rfl⟩
 rintro m z ⟨j,hj,rfl,rfl⟩;rcases bm j 8 with ab|bH
 ·have ya:7 - (j:Int)≥0:=by omega
  have e1:IntKind.i64.wrap (8 * (7 - (j:Int)))=((8 * (7 - j):Nat):Int):=by rw[aV (by omega)];omega
  have e2:IntKind.u64.wrap ((8 * (7 - j):Nat):Int)=((8 * (7 - j):Nat):Int):=pT _ (by omega);have e3:¬(((8 * (7 - j):Nat):Int)<0):=by omega
  have e4:8 * (7 - j)≤64:=by omega
  have e5:((v:Int)).fdiv (2 ^ (8 * (7 - j)))=((v/256 ^ (7 - j):Nat):Int):=by
   have hp:(2:Int) ^ (8 * (7 - j))=((256 ^ (7 - j):Nat):Int):=by
    rw[Int.pow_mul];simp
   rw[hp,Int.fdiv_eq_ediv_of_nonneg _ (Int.natCast_nonneg _)];rfl
  have e6:IntKind.u8.wrap ((v/256 ^ (7 - j):Nat):Int)=((v/256 ^ (7 - j)%256:Nat):Int):=by
   generalize v/256 ^ (7 - j)=q;have h8:IntKind.u8.bits=8:=rfl;have hs:IntKind.u8.signed=false:=rfl;simp only[IntKind.wrap,h8,hs,Bool.false_and,Bool.false_eq_true,if_false];omega
  have e7:IntKind.i64.wrap (7 - (j:Int) - 1)=7 - ((j+1:Nat):Int):=by rw[aV (by omega)];omega
  have ha:∀x,_:=fun x=>du (E:=cW) (l:=low (v/256 ^ (8 - j)) j) (xs:=[x]) (b:=1) (n:=100) (by simp[gJ];omega) (by omega) (by omega)
  simp -implicitDefEqProofs only[go_sem,ya,e1,e2,e3,e4,e5,e6,e7,ha];have aE:low (v/256 ^ (8 - (j+1))) (j+1)=low (v/256 ^ (8 - j)) j++[UInt8.ofNat (v/256 ^ (7 - j)%256)]:=by
   rw[show 8 - (j+1)=7 - j by omega,F1,Nat.div_div_eq_div_mul,←Nat.pow_succ,show(7 - j).succ=8 - j by omega]
  exact⟨_,by omega,j+1,ab,rfl,by rw[aE];simp[cW]⟩
 have hj:j=8:=by omega
 subst hj;have ya:¬(7 - ((8:Nat):Int)≥0):=by omega
 refine A4 ya ?_;have e:(⟨(low (v/256 ^ 0) 8).toArray⟩:ByteArray)=fN v 8:=by
  have:=Fx v 8;rw[show v/256 ^ 0=v by simp,←this]
 rw[e]
structure aW.ok (d:aW):Prop where
 a:d.a<18446744073709551616
 b:d.b<18446744073709551616
 c:d.c<18446744073709551616
 d:d.d<18446744073709551616
def aW.bytes (d:aW):ByteArray:=fN d.a 8++fN d.b 8++fN d.c 8++fN d.d 8
theorem IP (q:Nat):IntKind.u8.wrap (q:Int)=((q%256:Nat):Int):=by
 have h8:IntKind.u8.bits=8:=rfl;have hs:IntKind.u8.signed=false:=rfl;simp only[IntKind.wrap,h8,hs,Bool.false_and,Bool.false_eq_true,if_false];omega
theorem wA (v:Nat) {m:Nat}(j:Nat) (h:m=8 * j):IntKind.u8.wrap ((v:Int).fdiv (2 ^ m))=((v/256 ^ j%256:Nat):Int):=by
 subst h;have hp:(2:Int) ^ (8 * j)=((256 ^ j:Nat):Int):=by
  rw[Int.pow_mul];simp
 rw[hp,Int.fdiv_eq_ediv_of_nonneg _ (Int.natCast_nonneg _)];exact IP _
theorem Vd (d:aW) (h:d.ok):aR Tryz.prog 251 [.agg d.cs] (vS d.bytes) []:=by
 refine aA Hn false Tryz.f251 ?_;conv=>enter[1];reduce
 refine bf Tryz.f251 18 [.tmp 2] (by kernel_rfl) (by decide +kernel) rfl ?_;have hs:∀v,(fN v 8).size=8:=fun v=>JM v 8
 have dg:∀a b c d:Nat,¬((((fN a 8).size+(fN b 8).size:Nat):Int)>9223372036854775807)∧¬((((fN a 8).size+(fN b 8).size+(fN c 8).size:Nat):Int)>9223372036854775807)∧¬((((fN a 8).size+(fN b 8).size+(fN c 8).size+(fN d 8).size:Nat):Int)>9223372036854775807):=by
  intro a b c d;simp only[hs];omega
 simp -implicitDefEqProofs only[go_sem]
 repeat' first|(refine aq.intro (by first|exact rC _ h.a|exact rC _ h.b|exact rC _ h.c|exact rC _ h.d) ?_;try simp -implicitDefEqProofs only[go_sem,(dg d.a d.b d.c d.d).1,(dg d.a d.b d.c d.d).2.1,(dg d.a d.b d.c d.d).2.2])|(refine aD.intro (by first|exact rC _ h.a|exact rC _ h.b|exact rC _ h.c|exact rC _ h.d) ?_;try simp -implicitDefEqProofs only[go_sem,(dg d.a d.b d.c d.d).1,(dg d.a d.b d.c d.d).2.1,(dg d.a d.b d.c d.d).2.2])|(refine ew (fun h=>?_) (fun h=>?_)<;>try simp -implicitDefEqProofs only[go_sem,(dg d.a d.b d.c d.d).1,(dg d.a d.b d.c d.d).2.1,(dg d.a d.b d.c d.d).2.2,h])|(refine b8 (fun h=>?_) (fun h=>?_)<;>try simp -implicitDefEqProofs only[go_sem,(dg d.a d.b d.c d.d).1,(dg d.a d.b d.c d.d).2.1,(dg d.a d.b d.c d.d).2.2,h])
 rfl
theorem vX (l:List UInt8) (v:Nat) (hl:l.length≤1000000):bb Tryz.prog 152 [(1000000,0,one ⟨1,l.map cW,2,false⟩)] [.agg [],.au 1000000 0 [] 1 0 l.length,vU v] (.au 0 0 [] 1 0 (l++low v 8).length) [(0,0,one ⟨1,(l++low v 8).map cW,2,false⟩)]:=by
 refine aA Hn false Tryz.f152 ?_;conv=>enter[1];reduce
 refine bT Tryz.f152 33 [.tmp 6] (by kernel_rfl) (by decide +kernel) rfl ?_;have e0:=IP v;have e7:=wA v (m:=56) 7 rfl;have e6:=wA v (m:=48) 6 rfl;have e5:=wA v (m:=40) 5 rfl;have e4:=wA v (m:=32) 4 rfl;have e3:=wA v (m:=24) 3 rfl;have e2:=wA v (m:=16) 2 rfl;have e1:=wA v (m:=8) 1 rfl;have ha:∀x0 x1 x2 x3 x4 x5 x6 x7,_:=fun x0 x1 x2 x3 x4 x5 x6 x7=>du (E:=cW) (l:=l) (xs:=[x0,x1,x2,x3,x4,x5,x6,x7]) (b:=1) (n:=10000000) (by simp;omega) (by omega) (by omega)
 simp -implicitDefEqProofs only[go_sem,e0,e1,e2,e3,e4,e5,e6,e7,ha];simp[low,cW]
def aW.bk (d:aW):Nat→List UInt8
 | 0=>[]
 | 1=>low d.a 8
 | 2=>low d.a 8++low d.b 8
 | 3=>low d.a 8++low d.b 8++low d.c 8
 | _=>low d.a 8++low d.b 8++low d.c 8++low d.d 8
theorem aW.VT (d:aW):d.bytes=⟨(d.bk 4).toArray⟩:=by
 unfold aW.bytes aW.bk;apply ByteArray.ext;apply Array.toList_inj.1;simp[ByteArray.data_append,Array.toList_append,Fx]
theorem F2 (v:Nat):(low v 8).length=8:=gJ v 8
theorem aW.V8 (d:aW) {i:Nat}(h:i≤4):(d.bk i).length=8 * i:=by
 have fK:i=0∨i=1∨i=2∨i=3∨i=4:=by omega
 rcases fK with rfl|rfl|rfl|rfl|rfl<;>simp[aW.bk,F2]
theorem U3 (d:aW):aR Tryz.prog 289 [.agg d.cs] (vS d.bytes) []:=by
 refine aA Hn false Tryz.f289 ?_;conv=>enter[1];reduce
 refine bf Tryz.f289 27 [.tmp 2] (by kernel_rfl) (by decide +kernel) rfl ?_;refine aw ?_;refine jX [(3,1)] (fun m s=>∃i,i≤4∧m=4 - i∧s=⟨27,[(3,.au 3 0 [] 1 0 (d.bk i).length),(14,.au 14 0 [] 1 0 4),(15,vI 4),(16,vI i)],[(3,0,one ⟨1,(d.bk i).map cW,2,false⟩),(14,0,one ⟨1,[[vU d.a],[vU d.b],[vU d.c],[vU d.d]],2,false⟩)],1⟩) 4 ?_ ?_
 ·refine aw ?_;exact⟨0,by omega,rfl,rfl⟩
 rintro m s ⟨i,hi,rfl,rfl⟩;rcases bm i 4 with ab|bH
 ·have ae:(i:Int)<4:=by omega
  have w4:IntKind.i64.wrap ((i:Int)+1)=((i+1:Nat):Int):=by rw[aV (by omega)];omega
  obtain⟨w,hg,hk⟩:∃w,([[vU d.a],[vU d.b],[vU d.c],[vU d.d]]:List (List AV))[i]?=some [vU w]∧d.bk (i+1)=d.bk i++low w 8:=by
   have fK:i=0∨i=1∨i=2∨i=3:=by omega
   rcases fK with rfl|rfl|rfl|rfl
   ·exact⟨d.a,rfl,rfl⟩
   ·exact⟨d.b,rfl,rfl⟩
   ·exact⟨d.c,rfl,rfl⟩
   exact⟨d.d,rfl,rfl⟩
  have hb:=d.V8 (i:=i) (by omega);simp -implicitDefEqProofs only[go_sem,ae,Int.cast_ofNat_Int,hg];refine il (vX (d.bk i) w (by omega)) w4 ?_;exact⟨_,by omega,i+1,ab,rfl,by rw[hk]⟩
 have hi4:i=4:=by omega
 subst hi4;have ae:¬(((4:Nat):Int)<4):=by omega
 refine A4 ae ?_;rw[d.VT]
def Un:bX:=⟨[],[9,10,11],[24,26,30,44,47,50,51,52,57,58,59,62,76,88,138,185,186,187,253,254,297,311],false⟩
def hS (k:Int):Bool:=decide (k=1∨k=2∨k=3∨k=6)
def hF (k:Int):Bool:=decide (k=4∨k=5∨k=7∨k=8)
def hZ (k:Int):Bool:=decide (k=2∨k=3∨k=4∨k=5∨k=6)
def hR (k:Int):Bool:=decide (k=2∨k=3∨k=6)
def hC (k:Int):Bool:=decide (k=7)
def hP (k:Int):Bool:=decide (k=5)
def hL (k:Int):Bool:=decide (k=8)
theorem kinds (k:Int):k=1∨k=2∨k=3∨k=4∨k=5∨k=6∨k=7∨k=8∨(¬k=1∧¬k=2∧¬k=3∧¬k=4∧¬k=5∧¬k=6∧¬k=7∧¬k=8):=by omega
theorem adp (k:Int):(dA (fy k) 115=hS k∧dA (fy k) 102=hF k∧dA (fy k) 122=hZ k∧dA (fy k) 114=hR k∧dA (fy k) 99=hC k∧dA (fy k) 112=hP k∧dA (fy k) 108=hL k)∧
  (dA (gy k) 115=hS k∧dA (gy k) 102=hF k∧dA (gy k) 110=hZ k∧dA (gy k) 114=hR k∧dA (gy k) 99=hC k∧dA (gy k) 112=hP k∧dA (gy k) 108=hL k):=by
 rcases kinds k with rfl|rfl|rfl|rfl|rfl|rfl|rfl|rfl|⟨h1,h2,h3,h4,h5,h6,h7,h8⟩
 iterate 8 exact⟨⟨rfl,rfl,rfl,rfl,rfl,rfl,rfl⟩,⟨rfl,rfl,rfl,rfl,rfl,rfl,rfl⟩⟩
 have e1:fy k=⟨#[]⟩:=by simp[fy,h1,h2,h3,h4,h5,h6,h7,h8]
 have e2:gy k=⟨#[]⟩:=by simp[gy,h1,h2,h3,h4,h5,h6,h7,h8]
 rw[e1,e2];simp[hS,hF,hZ,hR,hC,hP,hL,h1,h2,h3,h4,h5,h6,h7,h8,dA,xk]
def gr:aW:=⟨0,0,0,0⟩
def eQ (m:aM):Bool:=aT m.kind 1 8&&(jU (hS m.kind) m.bR 1 1000000&&(jU (hF m.kind) m.from_ 0 256&&(jU (hZ m.kind) m.size 0 256&&((hR m.kind||oT m.root gr)&&(jU (hC m.kind) m.count 1 8&&(jU (hP m.kind) m.proof.length 0 16&&(jU (hL m.kind) m.az.length 0 8&&dX m.az)))))))
def aM.pW (m:aM):List AV:=[vI m.kind,vI m.bR,vI m.from_,vI m.size,vU m.root.a,vU m.root.b,vU m.root.c,vU m.root.d,vI m.count,.ro 4 (m.proof.map aW.cs),.ro 1 (m.az.map cY)]
attribute [go_sem] aM.pW
theorem Vc (m:aM) (hl:m.az.length≤maxLen):aR Tryz.prog 254 [m.ro] (vB (eQ m)) []:=by
 refine aA Un false Tryz.f254 ?_;conv=>enter[1];reduce
 refine bf Tryz.f254 75 [.tmp 2] (by kernel_rfl) (by decide +kernel) rfl ?_;refine aw ?_;refine cR (fun k s=>∃i:Nat,i≤m.az.length∧k=m.az.length - i∧dX (m.az.drop i)=dX m.az∧s=⟨75,[(1,.ptr 1 0 [] 11 0 0),(3,vI m.kind),(9,.ro 1 (m.az.map cY)),(10,vI m.az.length),(11,vI i)],[(1,0,one ⟨11,[m.pW],0,false⟩)],1⟩) m.az.length ?_ ?_
 ·refine aw ?_;exact⟨0,aQ _,rfl,rfl,rfl⟩
 rintro k s ⟨i,hi,rfl,hx,rfl⟩;rcases bm i m.az.length with ab|bH
 ·have ae:(i:Int)<(m.az.length:Int):=by omega
  have hg:m.az[i]?=some m.az[i]:=bz ab;have hw:=df ab hl;rw[F5 ab]at hx;refine cg ae hg ?_;refine b8 (fun h=>?_) (fun h=>?_)
  ·have h3:¬m.az[i].size≤40:=by have:=of_decide_eq_true h;omega
   refine aC h ?_;have sn:dX m.az=false:=by rw[←hx];simp[h3]
   simp[eQ,sn]
  have h3:m.az[i].size≤40:=by have:=of_decide_eq_false h;omega
  refine cg h hw ?_;refine⟨_,by omega,i+1,ab,rfl,?_,rfl⟩;rw[←hx];simp[h3]
 have hi:i=m.az.length:=by omega
 subst hi;have ae:¬((m.az.length:Int)<(m.az.length:Int)):=by omega
 rw[List.drop_length]at hx;have sn:dX m.az=true:=hx.symm;obtain⟨e1,e2,e3,e4,e5,e6,e7⟩:=(adp m.kind).1;simp -implicitDefEqProofs only[go_sem,ae]
 repeat' first|(refine aq.intro (by first|exact dG _ _ _|exact oV m.kind 115|exact oV m.kind 102|exact oV m.kind 122|exact oV m.kind 114|exact oV m.kind 99|exact oV m.kind 112|exact oV m.kind 108|exact U5 _ _ _ _) ?_;try simp -implicitDefEqProofs only[go_sem,e1,e2,e3,e4,e5,e6,e7])|(refine aD.intro (by first|exact dG _ _ _|exact oV m.kind 115|exact oV m.kind 102|exact oV m.kind 122|exact oV m.kind 114|exact oV m.kind 99|exact oV m.kind 112|exact oV m.kind 108|exact U5 _ _ _ _) ?_;try simp -implicitDefEqProofs only[go_sem,e1,e2,e3,e4,e5,e6,e7])|(refine ew (fun h=>?_) (fun h=>?_)<;>try simp -implicitDefEqProofs only[go_sem,e1,e2,e3,e4,e5,e6,e7,h])|(refine b8 (fun h=>?_) (fun h=>?_)<;>try simp -implicitDefEqProofs only[go_sem,e1,e2,e3,e4,e5,e6,e7,h])
 all_goals simp_all[eQ,gr,oT]
 all_goals trace_state
theorem abO:gy 1=⟨#[115]⟩∧gy 2=⟨#[115,110,114]⟩∧gy 3=⟨#[115,110,114]⟩∧gy 4=⟨#[102,110]⟩∧gy 5=⟨#[102,110,112]⟩∧gy 6=⟨#[115,110,114]⟩∧gy 7=⟨#[102,99]⟩∧gy 8=⟨#[102,108]⟩:=⟨rfl,rfl,rfl,rfl,rfl,rfl,rfl,rfl⟩
theorem sB:(hS 1=true∧hS 2=true∧hS 3=true∧hS 4=false∧hS 5=false∧hS 6=true∧hS 7=false∧hS 8=false)∧(hF 1=false∧hF 2=false∧hF 3=false∧hF 4=true∧hF 5=true∧hF 6=false∧hF 7=true∧hF 8=true)∧(hZ 1=false∧hZ 2=true∧hZ 3=true∧hZ 4=true∧hZ 5=true∧hZ 6=true∧hZ 7=false∧hZ 8=false)∧(hR 1=false∧hR 2=true∧hR 3=true∧hR 4=false∧hR 5=false∧hR 6=true∧hR 7=false∧hR 8=false)∧(hC 1=false∧hC 2=false∧hC 3=false∧hC 4=false∧hC 5=false∧hC 6=false∧hC 7=true∧hC 8=false)∧(hP 1=false∧hP 2=false∧hP 3=false∧hP 4=false∧hP 5=true∧hP 6=false∧hP 7=false∧hP 8=false)∧(hL 1=false∧hL 2=false∧hL 3=false∧hL 4=false∧hL 5=false∧hL 6=false∧hL 7=false∧hL 8=true):=by decide
theorem tJ:aT 1 1 8=true∧aT 2 1 8=true∧aT 3 1 8=true∧aT 4 1 8=true∧aT 5 1 8=true∧aT 6 1 8=true∧aT 7 1 8=true∧aT 8 1 8=true:=by decide
theorem beq_cons_nil (a:UInt8) (l:List UInt8):((a::l)==([]:List UInt8))=false:=rfl
theorem beq_nil_nil:(([]:List UInt8)==[])=true:=rfl
attribute [go_sem] beq_cons_nil beq_nil_nil abO rR OS EG Bf
theorem U8 (m:aM) (hl:m.az.length≤maxLen):aR Tryz.prog 270 [m.ro] (vB (eQ m)) []:=by
 refine aA Un false Tryz.f270 ?_;conv=>enter[1];reduce
 refine bf Tryz.f270 127 [.tmp 2] (by kernel_rfl) (by decide +kernel) rfl ?_;obtain⟨k,se,fr,si,ro,co,pr,le⟩:=m;refine aw ?_;refine aq.intro (MY k) ?_;rcases kinds k with rfl|rfl|rfl|rfl|rfl|rfl|rfl|rfl|⟨h1,h2,h3,h4,h5,h6,h7,h8⟩
 case inr.inr.inr.inr.inr.inr.inr.inr=>
  have e2:gy k=⟨#[]⟩:=by simp[gy,h1,h2,h3,h4,h5,h6,h7,h8]
  refine Ew e2 ?_;have:aT k 1 8=false:=by simp[aT];omega
  simp[eQ,this]
 all_goals simp -implicitDefEqProofs only[go_sem,aZ,aY]
 all_goals repeat' first|(refine aq.intro (by first|exact e9 _ _ _|exact aN _ 115 (by decide)|exact aN _ 102 (by decide)|exact aN _ 110 (by decide)|exact aN _ 114 (by decide)|exact aN _ 99 (by decide)|exact aN _ 112 (by decide)|exact aN _ 108 (by decide)|exact UZ le hl) ?_;try simp -implicitDefEqProofs only[go_sem,aZ,aY])|(refine aD.intro (by first|exact e9 _ _ _|exact aN _ 115 (by decide)|exact aN _ 102 (by decide)|exact aN _ 110 (by decide)|exact aN _ 114 (by decide)|exact aN _ 99 (by decide)|exact aN _ 112 (by decide)|exact aN _ 108 (by decide)|exact UZ le hl) ?_;try simp -implicitDefEqProofs only[go_sem,aZ,aY])|(refine ew (fun h=>?_) (fun h=>?_)<;>try simp -implicitDefEqProofs only[go_sem,aZ,aY,h])|(refine b8 (fun h=>?_) (fun h=>?_)<;>try simp -implicitDefEqProofs only[go_sem,aZ,aY,h])
 all_goals simp_all[eQ,gr,oT,jU,sB,tJ]
 all_goals first
  | (intros;subst_vars;simp_all;done)
  | (cases le<;>simp_all[dX];done)
  | (cases jt:dX le<;>simp_all[aT]<;>intros<;>first|omega|(intro e;subst e;simp_all[dX];done)|(subst_vars;simp_all[dX];done))
end Go.Proofs.YtobpfkgabdeefaaGreat.E
