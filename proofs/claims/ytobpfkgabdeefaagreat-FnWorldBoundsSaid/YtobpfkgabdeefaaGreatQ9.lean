/- Contracts: messages in bytes, in the program; Contracts: blocks are hashed; What the messages of each kind ask, when drawn -/
import Derived.Test.YtobpfkgabdeefaaGreatQ8
namespace Go.Proofs.YtobpfkgabdeefaaGreat.E
open Go Go.RowKit
set_option maxHeartbeats 4000000
set_option maxRecDepth 10000
set_option linter.unusedSimpArgs false
set_option linter.unusedVariables false
set_option linter.unusedSectionVars false
def Ut:cc:=⟨[],cw,cz,false⟩
def p9 (m:aJ) (c:Nat):List UInt8:=match c with
 | 115=>bS m
 | 102=>bF m
 | 122=>bZ m
 | 114=>m.root.bl
 | 99=>bC m
 | 112=>bP m
 | 108=>yG m
 | _=>[]
theorem ahO {m:aJ}(h:nR m) (c:Nat):(p9 m c).length<=600:=by
 have h1:=Hl m.proof;have h2:=F8 m.az h.lo;have h3:=h.p;have h4:=h.l;unfold p9;split<;>simp only[bS,bF,bZ,bC,bP,yG,gY,mE,List.length_append,List.length_nil]<;>omega
def i4 (m:aJ) (pos:Nat):List UInt8:=bK m++((fJ m.kind).data.toList.take pos).flatMap fun b=>p9 m b.toNat
theorem aaN {m:aJ}(h:nR m) (pos:Nat):(i4 m pos).length<=1+600 * pos:=by
 unfold i4;have:∀l:List UInt8,(l.flatMap fun b=>p9 m b.toNat).length<=600 * l.length:=by
  intro l;induction l with
  | nil=>exact aR _
  | cons a l ih=>
   have:=ahO h a.toNat;simp only[List.flatMap_cons,List.length_append,List.length_cons];omega
 have h1:=this ((fJ m.kind).data.toList.take pos);have h2:((fJ m.kind).data.toList.take pos).length<=pos:=List.length_take_le _ _;rw[List.length_append,bK,gY];omega
theorem aaO {m:aJ}(h:aS m.kind 1 8=true):i4 m (fJ m.kind).size=gO m:=by
 obtain⟨k,se,fr,si,ro,co,pr,le⟩:=m;rcases kinds k with rfl|rfl|rfl|rfl|rfl|rfl|rfl|rfl|⟨h1,h2,h3,h4,h5,h6,h7,h8⟩
 case inr.inr.inr.inr.inr.inr.inr.inr=>simp[aS]at h;omega
 all_goals simp[i4,gO,fJ,p9,ByteArray.size]
theorem FF (v:Int) (h:0<=v/\v<=1000000000):ba Tryz.prog 288 [vI v,vI 1] (.aw 0 0 [] 1 0 (low v.toNat 1).length) [([],⟨1,(low v.toNat 1).map cE,2,false⟩)]:=by
 have:=MD v.toNat 1 (by omega) (by omega);rw[Int.toNat_of_nonneg h.1]at this;rw[gY];exact this
theorem Q3 (v:Int) (h:0<=v/\v<=1000000000):ba Tryz.prog 288 [vI v,vI 2] (.aw 0 0 [] 1 0 (low v.toNat 2).length) [([],⟨1,(low v.toNat 2).map cE,2,false⟩)]:=by
 have:=MD v.toNat 2 (by omega) (by omega);rw[Int.toNat_of_nonneg h.1]at this;rw[gY];exact this
theorem nb3 (v:Int) (h:0<=v/\v<=1000000000):ba Tryz.prog 288 [vI v,vI 3] (.aw 0 0 [] 1 0 (low v.toNat 3).length) [([],⟨1,(low v.toNat 3).map cE,2,false⟩)]:=by
 have:=MD v.toNat 3 (by omega) (by omega);rw[Int.toNat_of_nonneg h.1]at this;rw[gY];exact this
attribute [go_sem] r5
theorem S1 (d:aX):ba Tryz.prog 289 [.agg d.cs] (vS (bA d.bl)) []:=by
 have:=U5 d;rw[M5]at this;exact this
theorem Wr {A B:List UInt8}(h:A.length+B.length<=100000):(A.map cE++B.map cE).length<=maxLen/\(A.map cE++B.map cE).length * 1<=140737488355328:=by
 unfold maxLen;simp only[List.length_append,List.length_map];omega
theorem ahW {A B C:List UInt8}(h:A.length+B.length+C.length<=100000):(A.map cE++B.map cE++C.map cE).length<=maxLen/\(A.map cE++B.map cE++C.map cE).length * 1<=140737488355328:=by
 unfold maxLen;simp only[List.length_append,List.length_map];omega
theorem agh (m:aJ) (aI:fi m=true):ba Tryz.prog 257 [m.ro] (vS (bA (gO m))) []:=by
 refine aF Ut false Tryz.f257 ?_;conv=>enter[1];reduce
 refine bu Tryz.f257 103 [.tmp 2] (by kernel_rfl) (by decide +kernel) rfl ?_;have hk:=nR.of aI;obtain⟨n,hn,hn8⟩:∃n:Nat,m.kind=n/\(1<=n/\n<=8):=by
  have h0:=hk.k;have:1<=m.kind/\m.kind<=8:=by simpa[aS]using h0
  exact⟨m.kind.toNat,by omega,by omega⟩
 have SH:=@bR n hn8;rw[<-hn]at SH;refine au ?_;refine cT (Qu m.kind) ?_;refine PI (fJ m.kind) [1,3,17] [] (fun r pos z=>pos<=(fJ m.kind).size/\z=⟨103,[(1,.ptr 1 0 [] 11 0 0),(3,.aw 3 0 [] 1 0 (i4 m pos).length),(17,.it r)],[(1,0,one ⟨11,[m.qj],0,false⟩),(3,0,one ⟨1,(i4 m pos).map cE,2,false⟩)],1⟩) ?_ ?_ ?_ ?_ ?_ ?_
 ·rfl
 ·omega
 ·intro r;refine au ?_;have h0:i4 m 0=[UInt8.ofNat (n%256)]:=by simp[i4,bK,hn,low]
  have h1:IntKind.u8.wrap m.kind=((n%256:Nat):Int):=by rw[hn,EH]
  refine⟨aR _,?_⟩;rw[h0,h1];simp[cE]
 ·rintro r pos z ⟨-,rfl⟩;exact⟨rfl,rfl⟩
 ·rintro r pos z ⟨hle,rfl⟩ ab;obtain⟨mS,c,hd,iu,KD,hc⟩:=SH ab;have hO:i4 m (pos+1)=i4 m pos++p9 m c:=by
   rw[i4,iu,List.flatMap_append,<-List.append_assoc];simp[i4,KD]
  have hol:=aaN hk pos;refine⟨c,hd,?_⟩;rcases hc with rfl|rfl|rfl|rfl|rfl|rfl|rfl
  ·have aU:((115:Nat):Int)=115:=rfl;have hs:=hk.s;refine aA aU ?_;refine aq.intro (nb3 m.bU (by omega)) ?_;have ha:=ed (E:=cE) (l:=i4 m pos) (xs:=(low m.bU.toNat 3).map cE) (b:=1) (n:=100000) (by simp[gY];omega) (by omega) (by omega);refine aA ha ?_;exact⟨ab,by rw[hO];simp[p9,bS,bF,bZ,bC]⟩
  ·have aU:((102:Nat):Int)=102:=rfl;have hs:=hk.f;refine aA aU ?_;refine aq.intro (Q3 m.from_ (by omega)) ?_;have ha:=ed (E:=cE) (l:=i4 m pos) (xs:=(low m.from_.toNat 2).map cE) (b:=1) (n:=100000) (by simp[gY];omega) (by omega) (by omega);refine aA ha ?_;exact⟨ab,by rw[hO];simp[p9,bS,bF,bZ,bC]⟩
  ·have aU:((122:Nat):Int)=122:=rfl;have hs:=hk.z;refine aA aU ?_;refine aq.intro (Q3 m.size (by omega)) ?_;have ha:=ed (E:=cE) (l:=i4 m pos) (xs:=(low m.size.toNat 2).map cE) (b:=1) (n:=100000) (by simp[gY];omega) (by omega) (by omega);refine aA ha ?_;exact⟨ab,by rw[hO];simp[p9,bS,bF,bZ,bC]⟩
  ·have aU:((114:Nat):Int)=114:=rfl;refine aA aU ?_;refine aq.intro (S1 m.root) ?_;have ha:=ed (E:=cE) (l:=i4 m pos) (xs:=m.root.bl.map cE) (b:=1) (n:=100000) (by simp[mE];omega) (by omega) (by omega);refine aA ha ?_;exact⟨ab,by rw[hO];simp[p9]⟩
  ·have aU:((99:Nat):Int)=99:=rfl;have hs:=hk.c;refine aA aU ?_;refine aq.intro (FF m.count (by omega)) ?_;have ha:=ed (E:=cE) (l:=i4 m pos) (xs:=(low m.count.toNat 1).map cE) (b:=1) (n:=100000) (by simp[gY];omega) (by omega) (by omega);refine aA ha ?_;exact⟨ab,by rw[hO];simp[p9,bS,bF,bZ,bC]⟩
  ·have aU:((112:Nat):Int)=112:=rfl;have hs:=hk.p;refine aA aU ?_;refine aq.intro (FF m.proof.length (by omega)) ?_;have ha:=ed (E:=cE) (l:=i4 m pos) (xs:=(low m.proof.length 1).map cE) (b:=1) (n:=100000) (by simp[gY];omega) (by omega) (by omega);refine aA ha ?_;have hF:=fun i=>Hl (m.proof.take i)
   have ir:m.proof.length<=maxLen:=by unfold maxLen;omega
   refine dq (fun n z=>∃i:Nat,i<=m.proof.length/\n=m.proof.length - i/\z=⟨103,[(1,.ptr 1 0 [] 11 0 0),(3,.aw 3 0 [] 1 0 (i4 m pos++low m.proof.length 1++j5 (m.proof.take i)).length),(17,.it r),(66,.ro 4 (m.proof.map aX.cs)),(67,vI m.proof.length),(68,vI i)],[(1,0,one ⟨11,[m.qj],0,false⟩),(3,0,one ⟨1,(i4 m pos++low m.proof.length 1++j5 (m.proof.take i)).map cE,2,false⟩)],1⟩) m.proof.length ?_ ?_
   ·refine au ?_;exact⟨0,aR _,rfl,by simp[j5]⟩
   rintro n z ⟨i,hi,rfl,rfl⟩;rcases bp i m.proof.length with hl|bM
   ·have ah:(i:Int)<(m.proof.length:Int):=by omega
    have hg:m.proof[i]?=some m.proof[i]:=bm hl;have hw:=dx hl ir;have CU:=hF i;have lU:=Hf aX.bl hl;have ade:=gY m.proof.length 1;have pU:=mE m.proof[i];rw[List.length_take]at CU;have ha:=Wr (A:=i4 m pos++low m.proof.length 1++j5 (m.proof.take i)) (B:=m.proof[i].bl) (by simp only[List.length_append];omega);refine b8 ah hg ?_;refine aq.intro (S1 m.proof[i]) ?_;refine b8 hw ha ?_;refine⟨_,by omega,i+1,hl,rfl,?_⟩;rw[show j5 (m.proof.take (i+1))=j5 (m.proof.take i)++aX.bl m.proof[i] from lU];simp[]
   have hi:i=m.proof.length:=by omega
   subst hi;have ah:¬((m.proof.length:Int)<(m.proof.length:Int)):=by omega
   refine Ex ah ?_;exact⟨ab,by rw[hO];simp[p9,bP]⟩
  have aU:((108:Nat):Int)=108:=rfl;have hs:=hk.l;refine aA aU ?_;refine aq.intro (FF m.az.length (by omega)) ?_;have ha:=ed (E:=cE) (l:=i4 m pos) (xs:=(low m.az.length 1).map cE) (b:=1) (n:=100000) (by simp[gY];omega) (by omega) (by omega);refine aA ha ?_;have hF:=fun i=>F8 (m.az.take i) (R0 hk.lo i)
  have ir:m.az.length<=maxLen:=by unfold maxLen;omega
  refine dq (fun n z=>∃i:Nat,i<=m.az.length/\n=m.az.length - i/\z=⟨103,[(1,.ptr 1 0 [] 11 0 0),(3,.aw 3 0 [] 1 0 (i4 m pos++low m.az.length 1++jx (m.az.take i)).length),(17,.it r),(86,.ro 1 (m.az.map cF)),(87,vI m.az.length),(88,vI i)],[(1,0,one ⟨11,[m.qj],0,false⟩),(3,0,one ⟨1,(i4 m pos++low m.az.length 1++jx (m.az.take i)).map cE,2,false⟩)],1⟩) m.az.length ?_ ?_
  ·refine au ?_;exact⟨0,aR _,rfl,by simp[jx]⟩
  rintro n z ⟨i,hi,rfl,rfl⟩;rcases bp i m.az.length with hl|bM
  ·have ah:(i:Int)<(m.az.length:Int):=by omega
   have hg:m.az[i]?=some m.az[i]:=bm hl;have hw:=dx hl ir;have CU:=hF i;have lU:=Hf pE hl;have ade:=gY m.az.length 1;have h40:=R1 hk.lo hl;have e:m.az[i].data.toList.length=m.az[i].size:=Array.length_toList;have kI:=gY m.az[i].size 1;rw[List.length_take]at CU;have ha:=Wr (A:=i4 m pos++low m.az.length 1++jx (m.az.take i)) (B:=low m.az[i].size 1) (by simp only[List.length_append];omega);have cN:=ahW (A:=i4 m pos++low m.az.length 1++jx (m.az.take i)) (B:=low m.az[i].size 1) (C:=m.az[i].data.toList) (by simp only[List.length_append];omega);refine b8 ah hg ?_;refine aq.intro (FF m.az[i].size (by omega)) ?_;refine eV hw ha cN ?_;refine⟨_,by omega,i+1,hl,rfl,?_⟩;rw[show jx (m.az.take (i+1))=jx (m.az.take i)++pE m.az[i] from lU];simp[pE]
  have hi:i=m.az.length:=by omega
  subst hi;have ah:¬((m.az.length:Int)<(m.az.length:Int)):=by omega
  refine Ex ah ?_;exact⟨ab,by rw[hO];simp[p9,yG]⟩
 rintro r pos z ⟨hle,rfl⟩ bM;have jU:pos=(fJ m.kind).size:=by omega
 subst jU;rw[<-aaO hk.k];simp -implicitDefEqProofs only[go_sem,VY];rfl
theorem Vs (m:aJ) (hl:m.az.length<=maxLen):ba Tryz.prog 211 [m.ro] (vS (gy m)) []:=by
 refine aF Ut false Tryz.f211 ?_;conv=>enter[1];reduce
 refine bu Tryz.f211 8 [.tmp 2] (by kernel_rfl) (by decide +kernel) rfl ?_;refine au ?_;refine cT (Vd m hl) ?_;refine bX (fun h=>?_) (fun h=>?_)
 ·have h':fi m=false:=by simpa using h
  refine aA h ?_;simp[gy,h']
 have h':fi m=true:=by simpa using h
 refine aA h ?_;refine cT (agh m h') ?_;simp[gy,h']
def Aj:cc:=⟨[],cw,cz,false⟩
abbrev jE:=BitVec 64
abbrev vW (x:jE):AV:=vU x.toNat
structure BD where
 a:jE
 b:jE
 c:jE
 d:jE
def BD.cs (s:BD):List AV:=[vW s.a,vW s.b,vW s.c,vW s.d]
def BD.dg (s:BD):aX:=⟨s.a.toNat,s.b.toNat,s.c.toNat,s.d.toNat⟩
theorem BD.Dk (s:BD):s.dg.ok:=⟨s.a.isLt,s.b.isLt,s.c.isLt,s.d.isLt⟩
attribute [go_sem] BD.cs
theorem wU (n:Int):IntKind.u64.wrap n=n%18446744073709551616:=by
 have h8:IntKind.u64.bits=64:=rfl;have hs:IntKind.u64.signed=false:=rfl;simp only[IntKind.wrap,h8,hs,Bool.false_and,Bool.false_eq_true,if_false];rfl
theorem Oh (x:jE):IntKind.u64.wrap (x.toNat:Int)=(x.toNat:Int):=qW _ x.isLt
theorem uQ (x y:jE):wF .u64 (x.toNat:Int) (y.toNat:Int)=((x ^^^ y).toNat:Int):=by
 unfold wF;rw[show IntKind.u64.bits=64 from rfl,BitVec.ofInt_natCast,BitVec.ofInt_natCast,BitVec.ofNat_toNat,BitVec.ofNat_toNat,BitVec.setWidth_eq,BitVec.setWidth_eq];exact Oh _
theorem ED (x y:jE):kZ .u64 (x.toNat:Int) (y.toNat:Int)=((x||| y).toNat:Int):=by
 unfold kZ;rw[show IntKind.u64.bits=64 from rfl,BitVec.ofInt_natCast,BitVec.ofInt_natCast,BitVec.ofNat_toNat,BitVec.ofNat_toNat,BitVec.setWidth_eq,BitVec.setWidth_eq];exact Oh _
theorem A2 (x y:jE):IntKind.u64.wrap ((x.toNat:Int)+(y.toNat:Int))=((x+y).toNat:Int):=by
 rw[wU,BitVec.toNat_add];omega
theorem EC (x:jE) (n:Nat):IntKind.u64.wrap ((x.toNat:Int) * 2 ^ n)=((x<<<n).toNat:Int):=by
 rw[wU,BitVec.toNat_shiftLeft,Nat.shiftLeft_eq];have:((x.toNat:Int) * 2 ^ n)=((x.toNat * 2 ^ n:Nat):Int):=by simp
 rw[this];omega
theorem EB (x:jE) (n:Nat):(x.toNat:Int).fdiv (2 ^ n)=((x>>>n).toNat:Int):=by
 rw[BitVec.toNat_ushiftRight,Nat.shiftRight_eq_div_pow,Int.fdiv_eq_ediv_of_nonneg _ (Int.pow_nonneg (by decide))];simp
def zd (x:jE) (n m:Nat):jE:=x<<<n||| x>>>m
theorem Ze (x:jE):ba Tryz.prog 207 [vW x,vI 39] (vW (zd x 39 25)) []:=by
 refine aF Aj false Tryz.f207 ?_;conv=>enter[1];reduce
 refine bu Tryz.f207 17 [.tmp 4] (by kernel_rfl) (by decide +kernel) rfl ?_;have e1:Ns IntKind.u64 (IntKind.u64.wrap 39) 63=39:=rfl;have e2:IntKind.u64.wrap (64 - 39)=25:=rfl;refine b8 e1 e2 ?_;rw[EC,EB,ED];rfl
theorem Yf (x:jE):ba Tryz.prog 205 [vW x,vI 39] (vW (zd x 39 25)) []:=by
 refine aF Aj false Tryz.f205 ?_;conv=>enter[1];reduce
 refine bu Tryz.f205 15 [.tmp 4] (by kernel_rfl) (by decide +kernel) rfl ?_;have e1:IntKind.u64.wrap 39=39:=rfl;have e2:IntKind.i64.wrap (64 - 39)=25:=rfl;have e3:IntKind.u64.wrap 25=25:=rfl;refine eV e1 e2 e3 ?_;rw[EC,EB,ED];rfl
theorem Zf (x:jE):ba Tryz.prog 207 [vW x,vI 21] (vW (zd x 21 43)) []:=by
 refine aF Aj false Tryz.f207 ?_;conv=>enter[1];reduce
 refine bu Tryz.f207 17 [.tmp 4] (by kernel_rfl) (by decide +kernel) rfl ?_;have e1:Ns IntKind.u64 (IntKind.u64.wrap 21) 63=21:=rfl;have e2:IntKind.u64.wrap (64 - 21)=43:=rfl;refine b8 e1 e2 ?_;rw[EC,EB,ED];rfl
theorem Yg (x:jE):ba Tryz.prog 205 [vW x,vI 21] (vW (zd x 21 43)) []:=by
 refine aF Aj false Tryz.f205 ?_;conv=>enter[1];reduce
 refine bu Tryz.f205 15 [.tmp 4] (by kernel_rfl) (by decide +kernel) rfl ?_;have e1:IntKind.u64.wrap 21=21:=rfl;have e2:IntKind.i64.wrap (64 - 21)=43:=rfl;have e3:IntKind.u64.wrap 43=43:=rfl;refine eV e1 e2 e3 ?_;rw[EC,EB,ED];rfl
structure RS where
 a:jE
 b:jE
 c:jE
 d:jE
 k:jE
def C0:jE:=12620524952350641003#64
def RS.nx (s:RS):RS:=
 let k:=s.k+C0
 let a:=s.a+s.b+k
 let d:=zd (s.d ^^^ a) 39 25
 let c:=s.c+d
 let b:=zd (s.b ^^^ c) 21 43
 ⟨b,c,d,a,k⟩
def pw (s:RS):Nat->RS
 | 0=>s
 | n+1=>(pw s n).nx
def Ke (s b:BD):BD:=
 let r:=pw ⟨s.a ^^^ b.a,s.b ^^^ b.b,s.c ^^^ b.c,s.d ^^^ b.d,0#64⟩ 10
 ⟨r.a ^^^ s.a,r.b ^^^ s.b,r.c ^^^ s.c,r.d ^^^ s.d⟩
theorem EE (x:jE):IntKind.u64.wrap ((x.toNat:Int)+12620524952350641003)=((x+C0).toNat:Int):=A2 x C0
def wD:List AV:=[.sc (.int .u64 0),.sc (.int .u64 0),.sc (.int .u64 0),.sc (.int .u64 0)]
attribute [go_sem] wD
theorem agQ (s b:BD):ba Tryz.prog 153 [.agg s.cs,.agg b.cs] (.agg (Ke s b).cs) []:=by
 refine aF Aj false Tryz.f153 ?_;conv=>enter[1];reduce
 refine bu Tryz.f153 74 [.cell 4 39] (by kernel_rfl) (by decide +kernel) rfl ?_;simp -implicitDefEqProofs only[go_sem,uQ];generalize hR:(⟨s.a ^^^ b.a,s.b ^^^ b.b,s.c ^^^ b.c,s.d ^^^ b.d,0#64⟩:RS)=R;refine dq (fun m z=>∃i:Nat,i<=10/\m=10 - i/\z=⟨74,[(2,.ptr 2 0 [] 4 0 0),(4,.ptr 4 0 [] 4 0 0),(5,vW (pw R i).a),(6,vW (pw R i).b),(7,vW (pw R i).c),(8,vW (pw R i).d),(9,vW (pw R i).k),(10,vI i)],[(2,0,one ⟨4,[s.cs],0,false⟩),(4,0,one ⟨4,[wD],0,false⟩)],1⟩) 10 ?_ ?_
 ·refine au ?_;exact⟨0,by omega,rfl,by subst hR;rfl⟩
 rintro m z ⟨i,hi,rfl,rfl⟩;rcases bp i 10 with ab|bM
 ·have ah:(i:Int)<10:=by omega
  have w4:IntKind.i64.wrap ((i:Int)+1)=((i+1:Nat):Int):=by rw[aN (by omega)];omega
  simp -implicitDefEqProofs only[go_sem,ah,EE,A2,uQ];refine aq.intro (Ze _) ?_;simp -implicitDefEqProofs only[go_sem,EE,A2,uQ];refine jj (Zf _) w4 ?_;refine⟨_,by omega,i+1,ab,rfl,?_⟩;simp only[pw,RS.nx,BitVec.add_assoc]
 have hi:i=10:=by omega
 subst hi;have ah:¬(((10:Nat):Int)<10):=by omega
 simp -implicitDefEqProofs only[go_sem,ah,uQ];subst hR;rfl
theorem VM (s b:BD):ba Tryz.prog 149 [.agg s.cs,.agg b.cs] (.agg (Ke s b).cs) []:=by
 refine aF Aj false Tryz.f149 ?_;conv=>enter[1];reduce
 refine bu Tryz.f149 76 [.cell 4 39] (by kernel_rfl) (by decide +kernel) rfl ?_;simp -implicitDefEqProofs only[go_sem,uQ];generalize hR:(⟨s.a ^^^ b.a,s.b ^^^ b.b,s.c ^^^ b.c,s.d ^^^ b.d,0#64⟩:RS)=R;refine dq (fun m z=>∃i:Nat,i<=10/\m=10 - i/\z=⟨76,[(2,.ptr 2 0 [] 4 0 0),(4,.ptr 4 0 [] 4 0 0),(5,vW (pw R i).a),(6,vW (pw R i).b),(7,vW (pw R i).c),(8,vW (pw R i).d),(9,vW (pw R i).k),(10,vI i)],[(2,0,one ⟨4,[s.cs],0,false⟩),(4,0,one ⟨4,[wD],0,false⟩)],1⟩) 10 ?_ ?_
 ·refine au ?_;exact⟨0,by omega,rfl,by subst hR;rfl⟩
 rintro m z ⟨i,hi,rfl,rfl⟩;rcases bp i 10 with ab|bM
 ·have ah:(i:Int)<10:=by omega
  have w4:IntKind.i64.wrap ((i:Int)+1)=((i+1:Nat):Int):=by rw[aN (by omega)];omega
  simp -implicitDefEqProofs only[go_sem,ah,EE,A2,uQ];refine aq.intro (Yf _) ?_;simp -implicitDefEqProofs only[go_sem,EE,A2,uQ];refine jj (Yg _) w4 ?_;exact⟨_,by omega,i+1,ab,rfl,rfl⟩
 have hi:i=10:=by omega
 subst hi;have ah:¬(((10:Nat):Int)<10):=by omega
 simp -implicitDefEqProofs only[go_sem,ah,uQ];subst hR;rfl
theorem aaJ {S:Int}(h:1<=S/\S<=1000000):fi ⟨1,S,0,0,gh,0,[],[]⟩=true:=by simp[fi,sQ,tW,kj,aS,te,gh,ec,h.1,h.2]
theorem aaI {S Z:Int}{d:aX}(h:1<=S/\S<=1000000) (k:0<=Z/\Z<=256):fi ⟨2,S,0,Z,d,0,[],[]⟩=true:=by simp[fi,sQ,tW,kj,aS,ec,h.1,h.2,k.1,k.2]
theorem aaH {S Z:Int}{d:aX}(h:1<=S/\S<=1000000) (k:0<=Z/\Z<=256):fi ⟨3,S,0,Z,d,0,[],[]⟩=true:=by simp[fi,sQ,tW,kj,aS,ec,h.1,h.2,k.1,k.2]
theorem QG {S Z:Int}{d:aX}(h:1<=S/\S<=1000000) (k:0<=Z/\Z<=256):fi ⟨6,S,0,Z,d,0,[],[]⟩=true:=by simp[fi,sQ,tW,kj,aS,ec,h.1,h.2,k.1,k.2]
theorem QH {F Z:Int}(h:0<=F/\F<=256) (k:0<=Z/\Z<=256):fi ⟨4,0,F,Z,gh,0,[],[]⟩=true:=by simp[fi,sQ,tW,kj,aS,te,gh,ec,h.1,h.2,k.1,k.2]
theorem aaK {F Z:Int}{p:List aX}(h:0<=F/\F<=256) (k:0<=Z/\Z<=256) (hp:p.length<=16):fi ⟨5,0,F,Z,gh,0,p,[]⟩=true:=by simp[fi,sQ,tW,kj,aS,te,gh,ec,h.1,h.2,k.1,k.2];omega
theorem aaM {F C:Int}(h:0<=F/\F<=256) (k:1<=C/\C<=8):fi ⟨7,0,F,0,gh,C,[],[]⟩=true:=by simp[fi,sQ,tW,kj,aS,te,gh,ec,h.1,h.2,k.1,k.2]
theorem aaL {F:Int}{l:List ByteArray}(h:0<=F/\F<=256) (k:l.length<=8) (hl:ec l=true):fi ⟨8,0,F,0,gh,0,[],l⟩=true:=by simp[fi,sQ,tW,kj,aS,te,gh,h.1,h.2,hl];omega
theorem pX:gh.ok:=⟨by decide,by decide,by decide,by decide⟩
end Go.Proofs.YtobpfkgabdeefaaGreat.E
