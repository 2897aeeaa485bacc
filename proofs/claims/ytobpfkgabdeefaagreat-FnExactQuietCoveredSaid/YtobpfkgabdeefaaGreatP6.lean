/- Contracts: a message read, in the specification. -/
import Derived.Test.YtobpfkgabdeefaaGreatP5
namespace Go.Proofs.YtobpfkgabdeefaaGreat.E
open Go Go.RowKit
set_option maxHeartbeats 4000000
set_option maxRecDepth 10000
set_option linter.unusedSimpArgs false
set_option linter.unusedVariables false
set_option linter.unusedSectionVars false
def ae0:bX:=⟨[(265,.cm [true,false,false,false]),(267,.cm [true]),(268,.cm [true,false]),(269,.cm [true,false,false])],[9,10,11],[24,26,30,44,47,50,51,52,57,58,59,62,76,88,138,185,186,187,253,254,297,311],false⟩
structure aM where
 kind:Int
 bR:Int
 from_:Int
 size:Int
 root:aW
 count:Int
 proof:List aW
 az:List ByteArray
def aM.zero:aM:=⟨0,0,0,0,⟨0,0,0,0⟩,0,[],[]⟩
def cY (s:ByteArray):List AV:=[vS s]
def aM.av (m:aM) (q:List Nat):AV:=.agg [vI m.kind,vI m.bR,vI m.from_,vI m.size,vU m.root.a,vU m.root.b,vU m.root.c,vU m.root.d,vI m.count,.au 0 0 (q++[9]) 4 0 m.proof.length,.au 0 0 (q++[10]) 1 0 m.az.length]
def aM.rf (m:aM) (q:List Nat):List (List Nat × Row):=[(q++[9],⟨4,m.proof.map aW.cs,2,false⟩),(q++[10],⟨1,m.az.map cY,2,false⟩)]
attribute [go_sem] aM.av aM.rf cY
structure mS (text:ByteArray) (r:bY):Prop where
 t:r.t=text
 p:r.p≤text.size
theorem mS.raw {text:ByteArray}{r:bY}(h:mS text r) (n:Nat):mS text (eD r n).2:=by
 unfold eD;split
 ·split
  ·exact⟨h.t,h.p⟩
  exact⟨h.t,by have:=h.t;subst this;show r.p+n≤_;omega⟩
 exact h
theorem mS.num {text:ByteArray}{r:bY}(h:mS text r) (n:Nat) (a b:Int):mS text (cP r n a b).2:=by
 have:=h.raw n;unfold cP;split
 ·split
  ·exact this
  exact⟨this.t,this.p⟩
 exact this
theorem mS.c9 {text:ByteArray}{r:bY}(h:mS text r):mS text (jC r).2:=h.raw 32
def f9:Nat→bY→List aW × bY
 | 0,r=>([],r)
 | n+1,r=>((f9 n r).1++[(jC (f9 n r).2).1],(jC (f9 n r).2).2)
def qb (r:bY):ByteArray × bY:=eD (cP r 1 0 40).2 (cP r 1 0 40).1.toNat
def eV:Nat→bY→List ByteArray × bY
 | 0,r=>([],r)
 | n+1,r=>((eV n r).1++[(qb (eV n r).2).1],(qb (eV n r).2).2)
theorem mS.TY {text:ByteArray}{r:bY}(h:mS text r) (n:Nat):mS text (f9 n r).2:=by
 induction n with
 | zero=>exact h
 | succ n ih=>exact ih.c9
theorem mS.RZ {text:ByteArray}{r:bY}(h:mS text r) (n:Nat):mS text (eV n r).2:=by
 induction n with
 | zero=>exact h
 | succ n ih=>exact(ih.num 1 0 40).raw _
def pS (x:bY × aM):bY × aM:=((cP x.1 3 1 1000000).2,{x.2 with bR:=(cP x.1 3 1 1000000).1})
def pF (x:bY × aM):bY × aM:=((cP x.1 2 0 256).2,{x.2 with from_:=(cP x.1 2 0 256).1})
def pZ (x:bY × aM):bY × aM:=((cP x.1 2 0 256).2,{x.2 with size:=(cP x.1 2 0 256).1})
def pR (x:bY × aM):bY × aM:=((jC x.1).2,{x.2 with root:=(jC x.1).1})
def pC (x:bY × aM):bY × aM:=((cP x.1 1 1 8).2,{x.2 with count:=(cP x.1 1 1 8).1})
def pP (x:bY × aM):bY × aM:=((f9 (cP x.1 1 0 16).1.toNat (cP x.1 1 0 16).2).2,{x.2 with proof:=(f9 (cP x.1 1 0 16).1.toNat (cP x.1 1 0 16).2).1})
def pL (x:bY × aM):bY × aM:=((eV (cP x.1 1 0 8).1.toNat (cP x.1 1 0 8).2).2,{x.2 with az:=(eV (cP x.1 1 0 8).1.toNat (cP x.1 1 0 8).2).1})
def mz (k:Nat) (x:bY × aM):bY × aM:=match k with
 | 1=>pS x
 | 2=>pR (pZ (pS x))
 | 3=>pR (pZ (pS x))
 | 4=>pZ (pF x)
 | 5=>pP (pZ (pF x))
 | 6=>pR (pZ (pS x))
 | 7=>pC (pF x)
 | 8=>pL (pF x)
 | _=>x
def eb (text:ByteArray) (x:bY × aM):aM × Int × Int:=
 if x.1.code=0 then(if x.1.p<text.size then(.zero,4,x.1.p) else(x.2,0,0)) else(.zero,x.1.code,x.1.at_)
def bV (text:ByteArray):aM × Int × Int:=
 if text.size=0 then(.zero,2,0) else if 1≤bN text 0∧bN text 0≤8 then eb text (mz (bN text 0) (⟨text,1,0,0⟩,{aM.zero with kind:=bN text 0})) else(.zero,1,0)
theorem Kj (i:Nat) (r:bY):(f9 i r).1.length=i:=by
 induction i with
 | zero=>rfl
 | succ i ih=>simp[f9,ih]
theorem Kg (i:Nat) (r:bY):(eV i r).1.length=i:=by
 induction i with
 | zero=>rfl
 | succ i ih=>simp[eV,ih]
theorem aW.wide (l:List aW):fp 4 (l.map aW.cs)=true:=by
 induction l with
 | nil=>rfl
 | cons a l ih=>simp only[List.map_cons,fp,ih,aW.cs];rfl
theorem aW.flat (l:List aW):dx (l.map aW.cs)=2:=by
 induction l with
 | nil=>rfl
 | cons a l ih=>simp only[List.map_cons,dx,ih,aW.cs];rfl
theorem abL (l:List ByteArray):fp 1 (l.map cY)=true:=by
 induction l with
 | nil=>rfl
 | cons a l ih=>simp only[List.map_cons,fp,ih,cY];rfl
theorem abM (l:List ByteArray):dx (l.map cY)=2:=by
 induction l with
 | nil=>rfl
 | cons a l ih=>simp only[List.map_cons,dx,ih,cY];rfl
theorem Yd {α β:Type}(f:α→β) (l:List α):List.take l.length (l.map f)=l.map f:=List.take_of_length_le (by simp)
theorem aem {α:Type}(n:Nat) (x:α):List.drop n (List.replicate n x)=[]:=List.drop_of_length_le (by simp)
attribute [go_sem] aW.wide aW.flat abL abM Yd aem
theorem mm {a b:Nat}(h:a * b≤140737488355328) (hb:1≤b):a≤maxLen:=by
 have:a * 1≤a * b:=Nat.mul_le_mul_left a hb;unfold maxLen;omega
theorem du {α:Type}{E:α→List AV}{l:List α}{xs:List (List AV)}{b n:Nat}(hn:(l.length+xs.length)≤n) (h:n * b≤140737488355328) (hb:1≤b):(l.map E++xs).length≤maxLen∧(l.map E++xs).length * b≤140737488355328:=by
 have e:(l.map E++xs).length=l.length+xs.length:=by simp
 rw[e];have:=Nat.mul_le_mul_right b hn;exact⟨mm (by omega) hb,by omega⟩
theorem u6 (r:bY) (n:Nat) (b:Int) (hb:0≤b):0≤(cP r n 0 b).1∧(cP r n 0 b).1≤b:=by
 unfold cP;split
 ·split
  ·rename_i h1 h;simp only[aT,Bool.and_eq_true,decide_eq_true_eq]at h;exact h
  exact⟨Int.le_refl _,hb⟩
 exact⟨Int.le_refl _,hb⟩
theorem rR:(⟨#[]⟩:ByteArray).toList=[]:=by
 simp[ByteArray.toList,ByteArray.toList.loop,ByteArray.size]
theorem OS (a:UInt8):(⟨#[a]⟩:ByteArray).toList=[a]:=by
 simp[ByteArray.toList,ByteArray.toList.loop,ByteArray.size,ByteArray.get!]
theorem EG (a b:UInt8):(⟨#[a,b]⟩:ByteArray).toList=[a,b]:=by
 simp[ByteArray.toList,ByteArray.toList.loop,ByteArray.size,ByteArray.get!]
theorem Bf (a b c:UInt8):(⟨#[a,b,c]⟩:ByteArray).toList=[a,b,c]:=by
 simp[ByteArray.toList,ByteArray.toList.loop,ByteArray.size,ByteArray.get!]
theorem Wi {s:ByteArray}(h:0<s.size):bN (s.extract 0 1) 0=bN s 0:=by
 have h':0<s.data.size:=h;show(((s.extract 0 1).data[0]!).toNat)=(s.data[0]!).toNat
 rw[ByteArray.data_extract,getElem!_def,getElem!_def,Array.getElem?_extract];have h2:0<min 1 s.data.size:=by omega
 simp[h2];split<;>simp_all
theorem abu {text:ByteArray}(h:0<text.size) (h1:1≤bN text 0∧bN text 0≤8):cP ⟨text,0,0,0⟩ 1 1 8=((bN text 0:Int),⟨text,1,0,0⟩):=by
 have hr:eD ⟨text,0,0,0⟩ 1=(text.extract 0 1,⟨text,1,0,0⟩):=by
  unfold eD;rw[if_pos rfl,if_neg (show ¬0+1>text.size by omega)]
 have hs:(text.extract 0 1).size=1:=by rw[ByteArray.size_extract];omega
 unfold cP;rw[hr];simp only[hs,jR,Nat.mul_zero,Nat.zero_add,Wi h,if_true];rw[if_pos];simp[aT];omega
theorem DA (text:ByteArray) (ht:text.size≤1000000000000):aR Tryz.prog 232 [vS text] (.ba [(bV text).1.av [0],.agg [vI (bV text).2.1,vI (bV text).2.2]]) ((bV text).1.rf [0]):=by
 refine aA ae0 false Tryz.f232 ?_;conv=>enter[1];reduce
 refine bf Tryz.f232 116 [.cell 2 193,.cell 3 195] (by kernel_rfl) (by decide +kernel) rfl ?_;refine aw ?_;refine b8 (fun h=>?_) (fun h=>?_)
 ·have h':text.size=0:=by simpa using h
  simp -implicitDefEqProofs only[go_sem,h,bV,h',aM.zero];rfl
 have h':¬text.size=0:=by simpa using h
 have hg:=yy (s:=text) (i:=0) (by omega);have hb:=yH text 0;have w1:IntKind.i64.wrap (bN text 0:Int)=(bN text 0:Int):=aV (by omega);refine ez h hg w1 ?_;refine cz (MY _) ?_;by_cases cc:1≤bN text 0∧bN text 0≤8
 ·have hf:=abu (text:=text) (by omega) cc;have r1:mS text ⟨text,1,0,0⟩:=⟨rfl,by show 1≤text.size;omega⟩;have hk:bN text 0=1∨bN text 0=2∨bN text 0=3∨bN text 0=4∨bN text 0=5∨bN text 0=6∨bN text 0=7∨bN text 0=8:=by omega
  rcases hk with hk|hk|hk|hk|hk|hk|hk|hk
  ·have hH:gy (bN text 0:Int)=⟨#[115]⟩:=by rw[hk];rfl
   have hP:∀x,mz (bN text 0) x=pS x:=fun x=>by rw[hk];rfl
   have he:((⟨#[115]⟩:ByteArray).toList==(⟨#[]⟩:ByteArray).toList)=false:=by rw[OS,rR];rfl
   refine cg hH he ?_;refine aD.intro (jj ⟨text,0,0,0⟩ 1 1 8 (by omega) (aQ _) ht) ?_;simp -implicitDefEqProofs only[go_sem,hf];repeat(refine aq.intro (by first|exact aN _ 115 (by decide)|exact aN _ 102 (by decide)|exact aN _ 110 (by decide)|exact aN _ 114 (by decide)|exact aN _ 99 (by decide)|exact aN _ 112 (by decide)|exact aN _ 108 (by decide)) ?_;simp -implicitDefEqProofs only[go_sem])
   refine aD.intro (jj ⟨text,1,0,0⟩ 3 1 1000000 (by omega) r1.p ht) ?_;have r2:=r1.num 3 1 1000000;generalize nQ:cP ⟨text,1,0,0⟩ 3 1 1000000=x at *;obtain⟨v2,t2,p2,c2,a2⟩:=x;have xO:t2=text:=r2.t;subst t2;simp -implicitDefEqProofs only[go_sem];repeat(refine aq.intro (by first|exact aN _ 115 (by decide)|exact aN _ 102 (by decide)|exact aN _ 110 (by decide)|exact aN _ 114 (by decide)|exact aN _ 99 (by decide)|exact aN _ 112 (by decide)|exact aN _ 108 (by decide)) ?_;simp -implicitDefEqProofs only[go_sem])
   have hM:bV text=eb text (⟨text,p2,c2,a2⟩,⟨bN text 0,v2,0,0,⟨0,0,0,0⟩,0,[],[]⟩):=by
    unfold bV;rw[if_neg h',if_pos cc,hP];simp only[pS,pF,pZ,pR,pC,nQ];rfl
   refine b8 (fun h=>?_) (fun h=>?_)
   ·have hp:p2<text.size:=by have:=of_decide_eq_true h;omega
    refine aC h ?_;refine aD.intro (s8 ⟨text,p2,c2,a2⟩ 4 p2) ?_;by_cases hc:c2=0
    ·simp -implicitDefEqProofs only[go_sem,ko,hM,eb,hc,hp,aM.zero];try rfl
    have eN:(c2 != 0)=true:=by simpa using hc
    simp -implicitDefEqProofs only[go_sem,ko,hM,eb,hc,eN,hp,aM.zero];try rfl
   have hp:¬p2<text.size:=by have:=of_decide_eq_false h;omega
   by_cases hc:c2=0
   ·subst hc;simp -implicitDefEqProofs only[go_sem,h,hM,eb,hp,aM.zero];try rfl
   have eN:(c2 != 0)=true:=by simpa using hc
   simp -implicitDefEqProofs only[go_sem,h,hM,eb,hc,eN,hp,aM.zero];try rfl
  ·have hH:gy (bN text 0:Int)=⟨#[115,110,114]⟩:=by rw[hk];rfl
   have hP:∀x,mz (bN text 0) x=pR (pZ (pS x)):=fun x=>by rw[hk];rfl
   have he:((⟨#[115,110,114]⟩:ByteArray).toList==(⟨#[]⟩:ByteArray).toList)=false:=by rw[Bf,rR];rfl
   refine cg hH he ?_;refine aD.intro (jj ⟨text,0,0,0⟩ 1 1 8 (by omega) (aQ _) ht) ?_;simp -implicitDefEqProofs only[go_sem,hf];repeat(refine aq.intro (by first|exact aN _ 115 (by decide)|exact aN _ 102 (by decide)|exact aN _ 110 (by decide)|exact aN _ 114 (by decide)|exact aN _ 99 (by decide)|exact aN _ 112 (by decide)|exact aN _ 108 (by decide)) ?_;simp -implicitDefEqProofs only[go_sem])
   refine aD.intro (jj ⟨text,1,0,0⟩ 3 1 1000000 (by omega) r1.p ht) ?_;have r2:=r1.num 3 1 1000000;generalize nQ:cP ⟨text,1,0,0⟩ 3 1 1000000=x at *;obtain⟨v2,t2,p2,c2,a2⟩:=x;have xO:t2=text:=r2.t;subst t2;simp -implicitDefEqProofs only[go_sem];repeat(refine aq.intro (by first|exact aN _ 115 (by decide)|exact aN _ 102 (by decide)|exact aN _ 110 (by decide)|exact aN _ 114 (by decide)|exact aN _ 99 (by decide)|exact aN _ 112 (by decide)|exact aN _ 108 (by decide)) ?_;simp -implicitDefEqProofs only[go_sem])
   refine aD.intro (jj ⟨text,p2,c2,a2⟩ 2 0 256 (by omega) r2.p ht) ?_;have r3:=r2.num 2 0 256;generalize pw:cP ⟨text,p2,c2,a2⟩ 2 0 256=x at *;obtain⟨v3,t3,p3,c3,a3⟩:=x;have zT:t3=text:=r3.t;subst t3;simp -implicitDefEqProofs only[go_sem];repeat(refine aq.intro (by first|exact aN _ 115 (by decide)|exact aN _ 102 (by decide)|exact aN _ 110 (by decide)|exact aN _ 114 (by decide)|exact aN _ 99 (by decide)|exact aN _ 112 (by decide)|exact aN _ 108 (by decide)) ?_;simp -implicitDefEqProofs only[go_sem])
   refine aD.intro (HC ⟨text,p3,c3,a3⟩ r3.p ht) ?_;have r4:=r3.c9;generalize tZ:jC ⟨text,p3,c3,a3⟩=x at *;obtain⟨⟨Be,Bd,Bc,Ba⟩,t4,p4,c4,a4⟩:=x;have Gm:t4=text:=r4.t;subst t4;simp -implicitDefEqProofs only[go_sem];repeat(refine aq.intro (by first|exact aN _ 115 (by decide)|exact aN _ 102 (by decide)|exact aN _ 110 (by decide)|exact aN _ 114 (by decide)|exact aN _ 99 (by decide)|exact aN _ 112 (by decide)|exact aN _ 108 (by decide)) ?_;simp -implicitDefEqProofs only[go_sem])
   have hM:bV text=eb text (⟨text,p4,c4,a4⟩,⟨bN text 0,v2,0,v3,⟨Be,Bd,Bc,Ba⟩,0,[],[]⟩):=by
    unfold bV;rw[if_neg h',if_pos cc,hP];simp only[pS,pF,pZ,pR,pC,nQ,pw,tZ];rfl
   refine b8 (fun h=>?_) (fun h=>?_)
   ·have hp:p4<text.size:=by have:=of_decide_eq_true h;omega
    refine aC h ?_;refine aD.intro (s8 ⟨text,p4,c4,a4⟩ 4 p4) ?_;by_cases hc:c4=0
    ·simp -implicitDefEqProofs only[go_sem,ko,hM,eb,hc,hp,aM.zero];try rfl
    have eN:(c4 != 0)=true:=by simpa using hc
    simp -implicitDefEqProofs only[go_sem,ko,hM,eb,hc,eN,hp,aM.zero];try rfl
   have hp:¬p4<text.size:=by have:=of_decide_eq_false h;omega
   by_cases hc:c4=0
   ·subst hc;simp -implicitDefEqProofs only[go_sem,h,hM,eb,hp,aM.zero];try rfl
   have eN:(c4 != 0)=true:=by simpa using hc
   simp -implicitDefEqProofs only[go_sem,h,hM,eb,hc,eN,hp,aM.zero];try rfl
  ·have hH:gy (bN text 0:Int)=⟨#[115,110,114]⟩:=by rw[hk];rfl
   have hP:∀x,mz (bN text 0) x=pR (pZ (pS x)):=fun x=>by rw[hk];rfl
   have he:((⟨#[115,110,114]⟩:ByteArray).toList==(⟨#[]⟩:ByteArray).toList)=false:=by rw[Bf,rR];rfl
   refine cg hH he ?_;refine aD.intro (jj ⟨text,0,0,0⟩ 1 1 8 (by omega) (aQ _) ht) ?_;simp -implicitDefEqProofs only[go_sem,hf];repeat(refine aq.intro (by first|exact aN _ 115 (by decide)|exact aN _ 102 (by decide)|exact aN _ 110 (by decide)|exact aN _ 114 (by decide)|exact aN _ 99 (by decide)|exact aN _ 112 (by decide)|exact aN _ 108 (by decide)) ?_;simp -implicitDefEqProofs only[go_sem])
   refine aD.intro (jj ⟨text,1,0,0⟩ 3 1 1000000 (by omega) r1.p ht) ?_;have r2:=r1.num 3 1 1000000;generalize nQ:cP ⟨text,1,0,0⟩ 3 1 1000000=x at *;obtain⟨v2,t2,p2,c2,a2⟩:=x;have xO:t2=text:=r2.t;subst t2;simp -implicitDefEqProofs only[go_sem];repeat(refine aq.intro (by first|exact aN _ 115 (by decide)|exact aN _ 102 (by decide)|exact aN _ 110 (by decide)|exact aN _ 114 (by decide)|exact aN _ 99 (by decide)|exact aN _ 112 (by decide)|exact aN _ 108 (by decide)) ?_;simp -implicitDefEqProofs only[go_sem])
   refine aD.intro (jj ⟨text,p2,c2,a2⟩ 2 0 256 (by omega) r2.p ht) ?_;have r3:=r2.num 2 0 256;generalize pw:cP ⟨text,p2,c2,a2⟩ 2 0 256=x at *;obtain⟨v3,t3,p3,c3,a3⟩:=x;have zT:t3=text:=r3.t;subst t3;simp -implicitDefEqProofs only[go_sem];repeat(refine aq.intro (by first|exact aN _ 115 (by decide)|exact aN _ 102 (by decide)|exact aN _ 110 (by decide)|exact aN _ 114 (by decide)|exact aN _ 99 (by decide)|exact aN _ 112 (by decide)|exact aN _ 108 (by decide)) ?_;simp -implicitDefEqProofs only[go_sem])
   refine aD.intro (HC ⟨text,p3,c3,a3⟩ r3.p ht) ?_;have r4:=r3.c9;generalize tZ:jC ⟨text,p3,c3,a3⟩=x at *;obtain⟨⟨Be,Bd,Bc,Ba⟩,t4,p4,c4,a4⟩:=x;have Gm:t4=text:=r4.t;subst t4;simp -implicitDefEqProofs only[go_sem];repeat(refine aq.intro (by first|exact aN _ 115 (by decide)|exact aN _ 102 (by decide)|exact aN _ 110 (by decide)|exact aN _ 114 (by decide)|exact aN _ 99 (by decide)|exact aN _ 112 (by decide)|exact aN _ 108 (by decide)) ?_;simp -implicitDefEqProofs only[go_sem])
   have hM:bV text=eb text (⟨text,p4,c4,a4⟩,⟨bN text 0,v2,0,v3,⟨Be,Bd,Bc,Ba⟩,0,[],[]⟩):=by
    unfold bV;rw[if_neg h',if_pos cc,hP];simp only[pS,pF,pZ,pR,pC,nQ,pw,tZ];rfl
   refine b8 (fun h=>?_) (fun h=>?_)
   ·have hp:p4<text.size:=by have:=of_decide_eq_true h;omega
    refine aC h ?_;refine aD.intro (s8 ⟨text,p4,c4,a4⟩ 4 p4) ?_;by_cases hc:c4=0
    ·simp -implicitDefEqProofs only[go_sem,ko,hM,eb,hc,hp,aM.zero];try rfl
    have eN:(c4 != 0)=true:=by simpa using hc
    simp -implicitDefEqProofs only[go_sem,ko,hM,eb,hc,eN,hp,aM.zero];try rfl
   have hp:¬p4<text.size:=by have:=of_decide_eq_false h;omega
   by_cases hc:c4=0
   ·subst hc;simp -implicitDefEqProofs only[go_sem,h,hM,eb,hp,aM.zero];try rfl
   have eN:(c4 != 0)=true:=by simpa using hc
   simp -implicitDefEqProofs only[go_sem,h,hM,eb,hc,eN,hp,aM.zero];try rfl
  ·have hH:gy (bN text 0:Int)=⟨#[102,110]⟩:=by rw[hk];rfl
   have hP:∀x,mz (bN text 0) x=pZ (pF x):=fun x=>by rw[hk];rfl
   have he:((⟨#[102,110]⟩:ByteArray).toList==(⟨#[]⟩:ByteArray).toList)=false:=by rw[EG,rR];rfl
   refine cg hH he ?_;refine aD.intro (jj ⟨text,0,0,0⟩ 1 1 8 (by omega) (aQ _) ht) ?_;simp -implicitDefEqProofs only[go_sem,hf];repeat(refine aq.intro (by first|exact aN _ 115 (by decide)|exact aN _ 102 (by decide)|exact aN _ 110 (by decide)|exact aN _ 114 (by decide)|exact aN _ 99 (by decide)|exact aN _ 112 (by decide)|exact aN _ 108 (by decide)) ?_;simp -implicitDefEqProofs only[go_sem])
   refine aD.intro (jj ⟨text,1,0,0⟩ 2 0 256 (by omega) r1.p ht) ?_;have r2:=r1.num 2 0 256;generalize nQ:cP ⟨text,1,0,0⟩ 2 0 256=x at *;obtain⟨v2,t2,p2,c2,a2⟩:=x;have xO:t2=text:=r2.t;subst t2;simp -implicitDefEqProofs only[go_sem];repeat(refine aq.intro (by first|exact aN _ 115 (by decide)|exact aN _ 102 (by decide)|exact aN _ 110 (by decide)|exact aN _ 114 (by decide)|exact aN _ 99 (by decide)|exact aN _ 112 (by decide)|exact aN _ 108 (by decide)) ?_;simp -implicitDefEqProofs only[go_sem])
   refine aD.intro (jj ⟨text,p2,c2,a2⟩ 2 0 256 (by omega) r2.p ht) ?_;have r3:=r2.num 2 0 256;generalize pw:cP ⟨text,p2,c2,a2⟩ 2 0 256=x at *;obtain⟨v3,t3,p3,c3,a3⟩:=x;have zT:t3=text:=r3.t;subst t3;simp -implicitDefEqProofs only[go_sem];repeat(refine aq.intro (by first|exact aN _ 115 (by decide)|exact aN _ 102 (by decide)|exact aN _ 110 (by decide)|exact aN _ 114 (by decide)|exact aN _ 99 (by decide)|exact aN _ 112 (by decide)|exact aN _ 108 (by decide)) ?_;simp -implicitDefEqProofs only[go_sem])
   have hM:bV text=eb text (⟨text,p3,c3,a3⟩,⟨bN text 0,0,v2,v3,⟨0,0,0,0⟩,0,[],[]⟩):=by
    unfold bV;rw[if_neg h',if_pos cc,hP];simp only[pS,pF,pZ,pR,pC,nQ,pw];rfl
   refine b8 (fun h=>?_) (fun h=>?_)
   ·have hp:p3<text.size:=by have:=of_decide_eq_true h;omega
    refine aC h ?_;refine aD.intro (s8 ⟨text,p3,c3,a3⟩ 4 p3) ?_;by_cases hc:c3=0
    ·simp -implicitDefEqProofs only[go_sem,ko,hM,eb,hc,hp,aM.zero];try rfl
    have eN:(c3 != 0)=true:=by simpa using hc
    simp -implicitDefEqProofs only[go_sem,ko,hM,eb,hc,eN,hp,aM.zero];try rfl
   have hp:¬p3<text.size:=by have:=of_decide_eq_false h;omega
   by_cases hc:c3=0
   ·subst hc;simp -implicitDefEqProofs only[go_sem,h,hM,eb,hp,aM.zero];try rfl
   have eN:(c3 != 0)=true:=by simpa using hc
   simp -implicitDefEqProofs only[go_sem,h,hM,eb,hc,eN,hp,aM.zero];try rfl
  ·have hH:gy (bN text 0:Int)=⟨#[102,110,112]⟩:=by rw[hk];rfl
   have hP:∀x,mz (bN text 0) x=pP (pZ (pF x)):=fun x=>by rw[hk];rfl
   have he:((⟨#[102,110,112]⟩:ByteArray).toList==(⟨#[]⟩:ByteArray).toList)=false:=by rw[Bf,rR];rfl
   refine cg hH he ?_;refine aD.intro (jj ⟨text,0,0,0⟩ 1 1 8 (by omega) (aQ _) ht) ?_;simp -implicitDefEqProofs only[go_sem,hf];repeat(refine aq.intro (by first|exact aN _ 115 (by decide)|exact aN _ 102 (by decide)|exact aN _ 110 (by decide)|exact aN _ 114 (by decide)|exact aN _ 99 (by decide)|exact aN _ 112 (by decide)|exact aN _ 108 (by decide)) ?_;simp -implicitDefEqProofs only[go_sem])
   refine aD.intro (jj ⟨text,1,0,0⟩ 2 0 256 (by omega) r1.p ht) ?_;have r2:=r1.num 2 0 256;generalize nQ:cP ⟨text,1,0,0⟩ 2 0 256=x at *;obtain⟨v2,t2,p2,c2,a2⟩:=x;have xO:t2=text:=r2.t;subst t2;simp -implicitDefEqProofs only[go_sem];repeat(refine aq.intro (by first|exact aN _ 115 (by decide)|exact aN _ 102 (by decide)|exact aN _ 110 (by decide)|exact aN _ 114 (by decide)|exact aN _ 99 (by decide)|exact aN _ 112 (by decide)|exact aN _ 108 (by decide)) ?_;simp -implicitDefEqProofs only[go_sem])
   refine aD.intro (jj ⟨text,p2,c2,a2⟩ 2 0 256 (by omega) r2.p ht) ?_;have r3:=r2.num 2 0 256;generalize pw:cP ⟨text,p2,c2,a2⟩ 2 0 256=x at *;obtain⟨v3,t3,p3,c3,a3⟩:=x;have zT:t3=text:=r3.t;subst t3;simp -implicitDefEqProofs only[go_sem];repeat(refine aq.intro (by first|exact aN _ 115 (by decide)|exact aN _ 102 (by decide)|exact aN _ 110 (by decide)|exact aN _ 114 (by decide)|exact aN _ 99 (by decide)|exact aN _ 112 (by decide)|exact aN _ 108 (by decide)) ?_;simp -implicitDefEqProofs only[go_sem])
   refine aD.intro (jj ⟨text,p3,c3,a3⟩ 1 0 16 (by omega) r3.p ht) ?_;have r4:=r3.num 1 0 16;have hv4:=u6 ⟨text,p3,c3,a3⟩ 1 16 (by omega);generalize tZ:cP ⟨text,p3,c3,a3⟩ 1 0 16=x at *;obtain⟨v4,t4,p4,c4,a4⟩:=x;have Gm:t4=text:=r4.t;subst t4;simp only at hv4;refine aw ?_;refine jX [(10005,4)] (fun m z=>∃i:Nat,i≤v4.toNat∧m=v4.toNat - i∧z=⟨116,[(0,vS text),(2,.ptr 2 0 [] 11 0 0),(3,.ptr 3 0 [] 2 0 0),(4,.ptr 4 0 [] 4 0 0),(5,.ptr 5 0 [] 11 0 0),(6,vS ⟨#[102,110,112]⟩),(7,vI v4),(8,vI (i:Int))],[(2,0,one ⟨11,[[vI 0,vI 0,vI 0,vI 0,vU 0,vU 0,vU 0,vU 0,vI 0,.aG,.aG]],0,false⟩),(3,0,one ⟨2,[[vI 0,vI 0]],0,false⟩),(4,0,one ⟨4,[(f9 i ⟨text,p4,c4,a4⟩).2.cs],0,false⟩),(5,0,one ⟨11,[[vI (bN text 0:Int),vI 0,vI v2,vI v3,vU 0,vU 0,vU 0,vU 0,vI 0,.au 10005 0 [] 4 0 (f9 i ⟨text,p4,c4,a4⟩).1.length,.aG]],0,false⟩),(10005,0,one ⟨4,(f9 i ⟨text,p4,c4,a4⟩).1.map aW.cs,2,false⟩)],1⟩) v4.toNat ?_ ?_
   ·refine aw ?_;exact⟨0,aQ _,rfl,rfl⟩
   rintro m z ⟨i,hi,rfl,rfl⟩;have hlen:=Kj i ⟨text,p4,c4,a4⟩;have ku:=r4.TY i;rcases bm i v4.toNat with ab|bH
   ·have ae:(i:Int)<v4:=by omega
    have w4:IntKind.i64.wrap ((i:Int)+1)=((i+1:Nat):Int):=by rw[aV (by omega)];omega
    have ha:∀x,_:=fun x=>du (E:=aW.cs) (l:=(f9 i ⟨text,p4,c4,a4⟩).1) (xs:=[x]) (b:=32) (n:=i+1) (by rw[hlen];simp) (by omega) (by omega)
    refine aC ae ?_;refine ff (HC (f9 i ⟨text,p4,c4,a4⟩).2 (by rw[ku.t];exact ku.p) (by rw[ku.t];exact ht)) ha w4 ?_;exact⟨_,by omega,i+1,ab,rfl,by simp[f9];rfl⟩
   have hi:i=v4.toNat:=by omega
   have ae:¬(i:Int)<v4:=by omega
   refine aC ae ?_;subst hi;generalize hn5:f9 v4.toNat ⟨text,p4,c4,a4⟩=x at *;obtain⟨ds,t5,p5,c5,a5⟩:=x;have ht5:t5=text:=ku.t;subst t5;simp -implicitDefEqProofs only[go_sem];repeat(refine aq.intro (by first|exact aN _ 115 (by decide)|exact aN _ 102 (by decide)|exact aN _ 110 (by decide)|exact aN _ 114 (by decide)|exact aN _ 99 (by decide)|exact aN _ 112 (by decide)|exact aN _ 108 (by decide)) ?_;simp -implicitDefEqProofs only[go_sem])
   have hM:bV text=eb text (⟨text,p5,c5,a5⟩,⟨bN text 0,0,v2,v3,⟨0,0,0,0⟩,0,ds,[]⟩):=by
    unfold bV;rw[if_neg h',if_pos cc,hP];simp only[pS,pF,pZ,pR,pC,pP,pL,nQ,pw,tZ,hn5];rfl
   refine b8 (fun h=>?_) (fun h=>?_)
   ·have hp:p5<text.size:=by have:=of_decide_eq_true h;omega
    refine aC h ?_;refine aD.intro (s8 ⟨text,p5,c5,a5⟩ 4 p5) ?_;by_cases hc:c5=0
    ·simp -implicitDefEqProofs only[go_sem,ko,hM,eb,hc,hp,aM.zero];try rfl
    have eN:(c5 != 0)=true:=by simpa using hc
    simp -implicitDefEqProofs only[go_sem,ko,hM,eb,hc,eN,hp,aM.zero];try rfl
   have hp:¬p5<text.size:=by have:=of_decide_eq_false h;omega
   by_cases hc:c5=0
   ·subst hc;simp -implicitDefEqProofs only[go_sem,h,hM,eb,hp,aM.zero];try rfl
   have eN:(c5 != 0)=true:=by simpa using hc
   simp -implicitDefEqProofs only[go_sem,h,hM,eb,hc,eN,hp,aM.zero];try rfl
  ·have hH:gy (bN text 0:Int)=⟨#[115,110,114]⟩:=by rw[hk];rfl
   have hP:∀x,mz (bN text 0) x=pR (pZ (pS x)):=fun x=>by rw[hk];rfl
   have he:((⟨#[115,110,114]⟩:ByteArray).toList==(⟨#[]⟩:ByteArray).toList)=false:=by rw[Bf,rR];rfl
   refine cg hH he ?_;refine aD.intro (jj ⟨text,0,0,0⟩ 1 1 8 (by omega) (aQ _) ht) ?_;simp -implicitDefEqProofs only[go_sem,hf];repeat(refine aq.intro (by first|exact aN _ 115 (by decide)|exact aN _ 102 (by decide)|exact aN _ 110 (by decide)|exact aN _ 114 (by decide)|exact aN _ 99 (by decide)|exact aN _ 112 (by decide)|exact aN _ 108 (by decide)) ?_;simp -implicitDefEqProofs only[go_sem])
   refine aD.intro (jj ⟨text,1,0,0⟩ 3 1 1000000 (by omega) r1.p ht) ?_;have r2:=r1.num 3 1 1000000;generalize nQ:cP ⟨text,1,0,0⟩ 3 1 1000000=x at *;obtain⟨v2,t2,p2,c2,a2⟩:=x;have xO:t2=text:=r2.t;subst t2;simp -implicitDefEqProofs only[go_sem];repeat(refine aq.intro (by first|exact aN _ 115 (by decide)|exact aN _ 102 (by decide)|exact aN _ 110 (by decide)|exact aN _ 114 (by decide)|exact aN _ 99 (by decide)|exact aN _ 112 (by decide)|exact aN _ 108 (by decide)) ?_;simp -implicitDefEqProofs only[go_sem])
   refine aD.intro (jj ⟨text,p2,c2,a2⟩ 2 0 256 (by omega) r2.p ht) ?_;have r3:=r2.num 2 0 256;generalize pw:cP ⟨text,p2,c2,a2⟩ 2 0 256=x at *;obtain⟨v3,t3,p3,c3,a3⟩:=x;have zT:t3=text:=r3.t;subst t3;simp -implicitDefEqProofs only[go_sem];repeat(refine aq.intro (by first|exact aN _ 115 (by decide)|exact aN _ 102 (by decide)|exact aN _ 110 (by decide)|exact aN _ 114 (by decide)|exact aN _ 99 (by decide)|exact aN _ 112 (by decide)|exact aN _ 108 (by decide)) ?_;simp -implicitDefEqProofs only[go_sem])
   refine aD.intro (HC ⟨text,p3,c3,a3⟩ r3.p ht) ?_;have r4:=r3.c9;generalize tZ:jC ⟨text,p3,c3,a3⟩=x at *;obtain⟨⟨Be,Bd,Bc,Ba⟩,t4,p4,c4,a4⟩:=x;have Gm:t4=text:=r4.t;subst t4;simp -implicitDefEqProofs only[go_sem];repeat(refine aq.intro (by first|exact aN _ 115 (by decide)|exact aN _ 102 (by decide)|exact aN _ 110 (by decide)|exact aN _ 114 (by decide)|exact aN _ 99 (by decide)|exact aN _ 112 (by decide)|exact aN _ 108 (by decide)) ?_;simp -implicitDefEqProofs only[go_sem])
   have hM:bV text=eb text (⟨text,p4,c4,a4⟩,⟨bN text 0,v2,0,v3,⟨Be,Bd,Bc,Ba⟩,0,[],[]⟩):=by
    unfold bV;rw[if_neg h',if_pos cc,hP];simp only[pS,pF,pZ,pR,pC,nQ,pw,tZ];rfl
   refine b8 (fun h=>?_) (fun h=>?_)
   ·have hp:p4<text.size:=by have:=of_decide_eq_true h;omega
    refine aC h ?_;refine aD.intro (s8 ⟨text,p4,c4,a4⟩ 4 p4) ?_;by_cases hc:c4=0
    ·simp -implicitDefEqProofs only[go_sem,ko,hM,eb,hc,hp,aM.zero];try rfl
    have eN:(c4 != 0)=true:=by simpa using hc
    simp -implicitDefEqProofs only[go_sem,ko,hM,eb,hc,eN,hp,aM.zero];try rfl
   have hp:¬p4<text.size:=by have:=of_decide_eq_false h;omega
   by_cases hc:c4=0
   ·subst hc;simp -implicitDefEqProofs only[go_sem,h,hM,eb,hp,aM.zero];try rfl
   have eN:(c4 != 0)=true:=by simpa using hc
   simp -implicitDefEqProofs only[go_sem,h,hM,eb,hc,eN,hp,aM.zero];try rfl
  ·have hH:gy (bN text 0:Int)=⟨#[102,99]⟩:=by rw[hk];rfl
   have hP:∀x,mz (bN text 0) x=pC (pF x):=fun x=>by rw[hk];rfl
   have he:((⟨#[102,99]⟩:ByteArray).toList==(⟨#[]⟩:ByteArray).toList)=false:=by rw[EG,rR];rfl
   refine cg hH he ?_;refine aD.intro (jj ⟨text,0,0,0⟩ 1 1 8 (by omega) (aQ _) ht) ?_;simp -implicitDefEqProofs only[go_sem,hf];repeat(refine aq.intro (by first|exact aN _ 115 (by decide)|exact aN _ 102 (by decide)|exact aN _ 110 (by decide)|exact aN _ 114 (by decide)|exact aN _ 99 (by decide)|exact aN _ 112 (by decide)|exact aN _ 108 (by decide)) ?_;simp -implicitDefEqProofs only[go_sem])
   refine aD.intro (jj ⟨text,1,0,0⟩ 2 0 256 (by omega) r1.p ht) ?_;have r2:=r1.num 2 0 256;generalize nQ:cP ⟨text,1,0,0⟩ 2 0 256=x at *;obtain⟨v2,t2,p2,c2,a2⟩:=x;have xO:t2=text:=r2.t;subst t2;simp -implicitDefEqProofs only[go_sem];repeat(refine aq.intro (by first|exact aN _ 115 (by decide)|exact aN _ 102 (by decide)|exact aN _ 110 (by decide)|exact aN _ 114 (by decide)|exact aN _ 99 (by decide)|exact aN _ 112 (by decide)|exact aN _ 108 (by decide)) ?_;simp -implicitDefEqProofs only[go_sem])
   refine aD.intro (jj ⟨text,p2,c2,a2⟩ 1 1 8 (by omega) r2.p ht) ?_;have r3:=r2.num 1 1 8;generalize pw:cP ⟨text,p2,c2,a2⟩ 1 1 8=x at *;obtain⟨v3,t3,p3,c3,a3⟩:=x;have zT:t3=text:=r3.t;subst t3;simp -implicitDefEqProofs only[go_sem];repeat(refine aq.intro (by first|exact aN _ 115 (by decide)|exact aN _ 102 (by decide)|exact aN _ 110 (by decide)|exact aN _ 114 (by decide)|exact aN _ 99 (by decide)|exact aN _ 112 (by decide)|exact aN _ 108 (by decide)) ?_;simp -implicitDefEqProofs only[go_sem])
   have hM:bV text=eb text (⟨text,p3,c3,a3⟩,⟨bN text 0,0,v2,0,⟨0,0,0,0⟩,v3,[],[]⟩):=by
    unfold bV;rw[if_neg h',if_pos cc,hP];simp only[pS,pF,pZ,pR,pC,nQ,pw];rfl
   refine b8 (fun h=>?_) (fun h=>?_)
   ·have hp:p3<text.size:=by have:=of_decide_eq_true h;omega
    refine aC h ?_;refine aD.intro (s8 ⟨text,p3,c3,a3⟩ 4 p3) ?_;by_cases hc:c3=0
    ·simp -implicitDefEqProofs only[go_sem,ko,hM,eb,hc,hp,aM.zero];try rfl
    have eN:(c3 != 0)=true:=by simpa using hc
    simp -implicitDefEqProofs only[go_sem,ko,hM,eb,hc,eN,hp,aM.zero];try rfl
   have hp:¬p3<text.size:=by have:=of_decide_eq_false h;omega
   by_cases hc:c3=0
   ·subst hc;simp -implicitDefEqProofs only[go_sem,h,hM,eb,hp,aM.zero];try rfl
   have eN:(c3 != 0)=true:=by simpa using hc
   simp -implicitDefEqProofs only[go_sem,h,hM,eb,hc,eN,hp,aM.zero];try rfl
  have hH:gy (bN text 0:Int)=⟨#[102,108]⟩:=by rw[hk];rfl
  have hP:∀x,mz (bN text 0) x=pL (pF x):=fun x=>by rw[hk];rfl
  have he:((⟨#[102,108]⟩:ByteArray).toList==(⟨#[]⟩:ByteArray).toList)=false:=by rw[EG,rR];rfl
  refine cg hH he ?_;refine aD.intro (jj ⟨text,0,0,0⟩ 1 1 8 (by omega) (aQ _) ht) ?_;simp -implicitDefEqProofs only[go_sem,hf];repeat(refine aq.intro (by first|exact aN _ 115 (by decide)|exact aN _ 102 (by decide)|exact aN _ 110 (by decide)|exact aN _ 114 (by decide)|exact aN _ 99 (by decide)|exact aN _ 112 (by decide)|exact aN _ 108 (by decide)) ?_;simp -implicitDefEqProofs only[go_sem])
  refine aD.intro (jj ⟨text,1,0,0⟩ 2 0 256 (by omega) r1.p ht) ?_;have r2:=r1.num 2 0 256;generalize nQ:cP ⟨text,1,0,0⟩ 2 0 256=x at *;obtain⟨v2,t2,p2,c2,a2⟩:=x;have xO:t2=text:=r2.t;subst t2;simp -implicitDefEqProofs only[go_sem];repeat(refine aq.intro (by first|exact aN _ 115 (by decide)|exact aN _ 102 (by decide)|exact aN _ 110 (by decide)|exact aN _ 114 (by decide)|exact aN _ 99 (by decide)|exact aN _ 112 (by decide)|exact aN _ 108 (by decide)) ?_;simp -implicitDefEqProofs only[go_sem])
  refine aD.intro (jj ⟨text,p2,c2,a2⟩ 1 0 8 (by omega) r2.p ht) ?_;have r3:=r2.num 1 0 8;have hv3:=u6 ⟨text,p2,c2,a2⟩ 1 8 (by omega);generalize pw:cP ⟨text,p2,c2,a2⟩ 1 0 8=x at *;obtain⟨v3,t3,p3,c3,a3⟩:=x;have zT:t3=text:=r3.t;subst t3;simp only at hv3;refine aw ?_;refine jX [(11005,1)] (fun m z=>∃i:Nat,i≤v3.toNat∧m=v3.toNat - i∧z=⟨116,[(0,vS text),(2,.ptr 2 0 [] 11 0 0),(3,.ptr 3 0 [] 2 0 0),(4,.ptr 4 0 [] 4 0 0),(5,.ptr 5 0 [] 11 0 0),(9,vI v3),(10,vI (i:Int))],[(2,0,one ⟨11,[[vI 0,vI 0,vI 0,vI 0,vU 0,vU 0,vU 0,vU 0,vI 0,.aG,.aG]],0,false⟩),(3,0,one ⟨2,[[vI 0,vI 0]],0,false⟩),(4,0,one ⟨4,[(eV i ⟨text,p3,c3,a3⟩).2.cs],0,false⟩),(5,0,one ⟨11,[[vI (bN text 0:Int),vI 0,vI v2,vI 0,vU 0,vU 0,vU 0,vU 0,vI 0,.aG,.au 10005 0 [] 1 0 (eV i ⟨text,p3,c3,a3⟩).1.length]],0,false⟩),(10005,0,one ⟨1,(eV i ⟨text,p3,c3,a3⟩).1.map cY,2,false⟩)],1⟩) v3.toNat ?_ ?_
  ·refine aw ?_;exact⟨0,aQ _,rfl,rfl⟩
  rintro m z ⟨i,hi,rfl,rfl⟩;have hlen:=Kg i ⟨text,p3,c3,a3⟩;have ku:=r3.RZ i;rcases bm i v3.toNat with ab|bH
  ·have ae:(i:Int)<v3:=by omega
   have w4:IntKind.i64.wrap ((i:Int)+1)=((i+1:Nat):Int):=by rw[aV (by omega)];omega
   have ha:∀x,_:=fun x=>du (E:=cY) (l:=(eV i ⟨text,p3,c3,a3⟩).1) (xs:=[x]) (b:=16) (n:=i+1) (by rw[hlen];simp) (by omega) (by omega)
   refine aC ae ?_;refine aD.intro (jj (eV i ⟨text,p3,c3,a3⟩).2 1 0 40 (by omega) (by rw[ku.t];exact ku.p) (by rw[ku.t];exact ht)) ?_;have nP:=ku.num 1 0 40;have re:=u6 (eV i ⟨text,p3,c3,a3⟩).2 1 40 (by omega);have LD:(cP (eV i ⟨text,p3,c3,a3⟩).2 1 0 40).1=((cP (eV i ⟨text,p3,c3,a3⟩).2 1 0 40).1.toNat:Int):=(Int.toNat_of_nonneg re.1).symm;refine aw ?_;rw[LD];refine ff (MX (cP (eV i ⟨text,p3,c3,a3⟩).2 1 0 40).2 (cP (eV i ⟨text,p3,c3,a3⟩).2 1 0 40).1.toNat (by omega) (by rw[nP.t];exact nP.p) (by rw[nP.t];exact ht)) ha w4 ?_;exact⟨_,by omega,i+1,ab,rfl,by simp[eV,qb,cY]⟩
  have hi:i=v3.toNat:=by omega
  have ae:¬(i:Int)<v3:=by omega
  refine aC ae ?_;subst hi;generalize tZ:eV v3.toNat ⟨text,p3,c3,a3⟩=x at *;obtain⟨ds,t4,p4,c4,a4⟩:=x;have Gm:t4=text:=ku.t;subst t4;simp -implicitDefEqProofs only[go_sem];repeat(refine aq.intro (by first|exact aN _ 115 (by decide)|exact aN _ 102 (by decide)|exact aN _ 110 (by decide)|exact aN _ 114 (by decide)|exact aN _ 99 (by decide)|exact aN _ 112 (by decide)|exact aN _ 108 (by decide)) ?_;simp -implicitDefEqProofs only[go_sem])
  have hM:bV text=eb text (⟨text,p4,c4,a4⟩,⟨bN text 0,0,v2,0,⟨0,0,0,0⟩,0,[],ds⟩):=by
   unfold bV;rw[if_neg h',if_pos cc,hP];simp only[pS,pF,pZ,pR,pC,pP,pL,nQ,pw,tZ];rfl
  refine b8 (fun h=>?_) (fun h=>?_)
  ·have hp:p4<text.size:=by have:=of_decide_eq_true h;omega
   refine aC h ?_;refine aD.intro (s8 ⟨text,p4,c4,a4⟩ 4 p4) ?_;by_cases hc:c4=0
   ·simp -implicitDefEqProofs only[go_sem,ko,hM,eb,hc,hp,aM.zero];try rfl
   have eN:(c4 != 0)=true:=by simpa using hc
   simp -implicitDefEqProofs only[go_sem,ko,hM,eb,hc,eN,hp,aM.zero];try rfl
  have hp:¬p4<text.size:=by have:=of_decide_eq_false h;omega
  by_cases hc:c4=0
  ·subst hc;simp -implicitDefEqProofs only[go_sem,h,hM,eb,hp,aM.zero];try rfl
  have eN:(c4 != 0)=true:=by simpa using hc
  simp -implicitDefEqProofs only[go_sem,h,hM,eb,hc,eN,hp,aM.zero];try rfl
 have hH:gy (bN text 0:Int)=⟨#[]⟩:=by rw[gy,if_neg (by omega),if_neg (by omega),if_neg (by omega),if_neg (by omega),if_neg (by omega),if_neg (by omega)]
 have he:((⟨#[]⟩:ByteArray).toList==(⟨#[]⟩:ByteArray).toList)=true:=by rw[rR];rfl
 simp -implicitDefEqProofs only[go_sem,hH,he,aZ,bV,h',cc,aM.zero];rfl
end Go.Proofs.YtobpfkgabdeefaaGreat.E
