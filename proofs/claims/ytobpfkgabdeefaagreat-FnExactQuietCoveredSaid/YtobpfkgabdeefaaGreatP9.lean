/- Contracts: messages in bytes, in the program; Contracts: blocks are hashed; What the messages of each kind ask, when drawn -/
import Derived.Test.YtobpfkgabdeefaaGreatP8
namespace Go.Proofs.YtobpfkgabdeefaaGreat.E
open Go Go.RowKit
set_option maxHeartbeats 4000000
set_option maxRecDepth 10000
set_option linter.unusedSimpArgs false
set_option linter.unusedVariables false
set_option linter.unusedSectionVars false
def Um:bX:=⟨[],[9,10,11],[24,26,30,44,47,50,51,52,57,58,59,62,76,88,138,185,186,187,253,254,297,311],false⟩
def pJ (m:aM) (c:Nat):List UInt8:=match c with
 | 115=>bS m
 | 102=>bF m
 | 122=>bZ m
 | 114=>m.root.bl
 | 99=>bC m
 | 112=>bP m
 | 108=>yI m
 | _=>[]
theorem ahB {m:aM}(h:nr m) (c:Nat):(pJ m c).length≤600:=by
 have h1:=Hf m.proof;have h2:=F6 m.az h.lo;have h3:=h.p;have h4:=h.l;unfold pJ;split<;>simp only[bS,bF,bZ,bC,bP,yI,gJ,l9,List.length_append,List.length_nil]<;>omega
def iL (m:aM) (pos:Nat):List UInt8:=bK m++((fy m.kind).data.toList.take pos).flatMap fun b=>pJ m b.toNat
theorem aaB {m:aM}(h:nr m) (pos:Nat):(iL m pos).length≤1+600 * pos:=by
 unfold iL;have:∀l:List UInt8,(l.flatMap fun b=>pJ m b.toNat).length≤600 * l.length:=by
  intro l;induction l with
  | nil=>exact aQ _
  | cons a l ih=>
   have:=ahB h a.toNat;simp only[List.flatMap_cons,List.length_append,List.length_cons];omega
 have h1:=this ((fy m.kind).data.toList.take pos);have h2:((fy m.kind).data.toList.take pos).length≤pos:=List.length_take_le _ _;rw[List.length_append,bK,gJ];omega
theorem aaC {m:aM}(h:aT m.kind 1 8=true):iL m (fy m.kind).size=gv m:=by
 obtain⟨k,se,fr,si,ro,co,pr,le⟩:=m;rcases kinds k with rfl|rfl|rfl|rfl|rfl|rfl|rfl|rfl|⟨h1,h2,h3,h4,h5,h6,h7,h8⟩
 case inr.inr.inr.inr.inr.inr.inr.inr=>simp[aT]at h;omega
 all_goals simp[iL,gv,fy,pJ,ByteArray.size]
theorem FE (v:Int) (h:0≤v∧v≤1000000000):aR Tryz.prog 288 [vI v,vI 1] (.au 0 0 [] 1 0 (low v.toNat 1).length) [([],⟨1,(low v.toNat 1).map cW,2,false⟩)]:=by
 have:=MS v.toNat 1 (by omega) (by omega);rw[Int.toNat_of_nonneg h.1]at this;rw[gJ];exact this
theorem QW (v:Int) (h:0≤v∧v≤1000000000):aR Tryz.prog 288 [vI v,vI 2] (.au 0 0 [] 1 0 (low v.toNat 2).length) [([],⟨1,(low v.toNat 2).map cW,2,false⟩)]:=by
 have:=MS v.toNat 2 (by omega) (by omega);rw[Int.toNat_of_nonneg h.1]at this;rw[gJ];exact this
theorem nb3 (v:Int) (h:0≤v∧v≤1000000000):aR Tryz.prog 288 [vI v,vI 3] (.au 0 0 [] 1 0 (low v.toNat 3).length) [([],⟨1,(low v.toNat 3).map cW,2,false⟩)]:=by
 have:=MS v.toNat 3 (by omega) (by omega);rw[Int.toNat_of_nonneg h.1]at this;rw[gJ];exact this
attribute [go_sem] rH
theorem SZ (d:aW):aR Tryz.prog 289 [.agg d.cs] (vS (bA d.bl)) []:=by
 have:=U3 d;rw[Nl]at this;exact this
theorem Wl {A B:List UInt8}(h:A.length+B.length≤100000):(A.map cW++B.map cW).length≤maxLen∧(A.map cW++B.map cW).length * 1≤140737488355328:=by
 unfold maxLen;simp only[List.length_append,List.length_map];omega
theorem ahJ {A B C:List UInt8}(h:A.length+B.length+C.length≤100000):(A.map cW++B.map cW++C.map cW).length≤maxLen∧(A.map cW++B.map cW++C.map cW).length * 1≤140737488355328:=by
 unfold maxLen;simp only[List.length_append,List.length_map];omega
theorem af8 (m:aM) (aF:eQ m=true):aR Tryz.prog 257 [m.ro] (vS (bA (gv m))) []:=by
 refine aA Um false Tryz.f257 ?_;conv=>enter[1];reduce
 refine bf Tryz.f257 103 [.tmp 2] (by kernel_rfl) (by decide +kernel) rfl ?_;have hk:=nr.of aF;obtain⟨n,hn,hn8⟩:∃n:Nat,m.kind=n∧(1≤n∧n≤8):=by
  have h0:=hk.k;have:1≤m.kind∧m.kind≤8:=by simpa[aT]using h0
  exact⟨m.kind.toNat,by omega,by omega⟩
 have SE:=@bM n hn8;rw[←hn]at SE;refine aw ?_;refine cz (Qp m.kind) ?_;refine PC (fy m.kind) [1,3,17] [] (fun r pos z=>pos≤(fy m.kind).size∧z=⟨103,[(1,.ptr 1 0 [] 11 0 0),(3,.au 3 0 [] 1 0 (iL m pos).length),(17,.it r)],[(1,0,one ⟨11,[m.pW],0,false⟩),(3,0,one ⟨1,(iL m pos).map cW,2,false⟩)],1⟩) ?_ ?_ ?_ ?_ ?_ ?_
 ·rfl
 ·omega
 ·intro r;refine aw ?_;have h0:iL m 0=[UInt8.ofNat (n%256)]:=by simp[iL,bK,hn,low]
  have h1:IntKind.u8.wrap m.kind=((n%256:Nat):Int):=by rw[hn,IP]
  refine⟨aQ _,?_⟩;rw[h0,h1];simp[cW]
 ·rintro r pos z ⟨-,rfl⟩;exact⟨rfl,rfl⟩
 ·rintro r pos z ⟨hle,rfl⟩ ab;obtain⟨mE,c,hd,gY,KM,hc⟩:=SE ab;have hO:iL m (pos+1)=iL m pos++pJ m c:=by
   rw[iL,gY,List.flatMap_append,←List.append_assoc];simp[iL,KM]
  have hol:=aaB hk pos;refine⟨c,hd,?_⟩;rcases hc with rfl|rfl|rfl|rfl|rfl|rfl|rfl
  ·have aU:((115:Nat):Int)=115:=rfl;have hs:=hk.s;refine aC aU ?_;refine aq.intro (nb3 m.bR (by omega)) ?_;have ha:=du (E:=cW) (l:=iL m pos) (xs:=(low m.bR.toNat 3).map cW) (b:=1) (n:=100000) (by simp[gJ];omega) (by omega) (by omega);refine aC ha ?_;exact⟨ab,by rw[hO];simp[pJ,bS,bF,bZ,bC]⟩
  ·have aU:((102:Nat):Int)=102:=rfl;have hs:=hk.f;refine aC aU ?_;refine aq.intro (QW m.from_ (by omega)) ?_;have ha:=du (E:=cW) (l:=iL m pos) (xs:=(low m.from_.toNat 2).map cW) (b:=1) (n:=100000) (by simp[gJ];omega) (by omega) (by omega);refine aC ha ?_;exact⟨ab,by rw[hO];simp[pJ,bS,bF,bZ,bC]⟩
  ·have aU:((122:Nat):Int)=122:=rfl;have hs:=hk.z;refine aC aU ?_;refine aq.intro (QW m.size (by omega)) ?_;have ha:=du (E:=cW) (l:=iL m pos) (xs:=(low m.size.toNat 2).map cW) (b:=1) (n:=100000) (by simp[gJ];omega) (by omega) (by omega);refine aC ha ?_;exact⟨ab,by rw[hO];simp[pJ,bS,bF,bZ,bC]⟩
  ·have aU:((114:Nat):Int)=114:=rfl;refine aC aU ?_;refine aq.intro (SZ m.root) ?_;have ha:=du (E:=cW) (l:=iL m pos) (xs:=m.root.bl.map cW) (b:=1) (n:=100000) (by simp[l9];omega) (by omega) (by omega);refine aC ha ?_;exact⟨ab,by rw[hO];simp[pJ]⟩
  ·have aU:((99:Nat):Int)=99:=rfl;have hs:=hk.c;refine aC aU ?_;refine aq.intro (FE m.count (by omega)) ?_;have ha:=du (E:=cW) (l:=iL m pos) (xs:=(low m.count.toNat 1).map cW) (b:=1) (n:=100000) (by simp[gJ];omega) (by omega) (by omega);refine aC ha ?_;exact⟨ab,by rw[hO];simp[pJ,bS,bF,bZ,bC]⟩
  ·have aU:((112:Nat):Int)=112:=rfl;have hs:=hk.p;refine aC aU ?_;refine aq.intro (FE m.proof.length (by omega)) ?_;have ha:=du (E:=cW) (l:=iL m pos) (xs:=(low m.proof.length 1).map cW) (b:=1) (n:=100000) (by simp[gJ];omega) (by omega) (by omega);refine aC ha ?_;have hF:=fun i=>Hf (m.proof.take i)
   have gX:m.proof.length≤maxLen:=by unfold maxLen;omega
   refine cR (fun n z=>∃i:Nat,i≤m.proof.length∧n=m.proof.length - i∧z=⟨103,[(1,.ptr 1 0 [] 11 0 0),(3,.au 3 0 [] 1 0 (iL m pos++low m.proof.length 1++jI (m.proof.take i)).length),(17,.it r),(66,.ro 4 (m.proof.map aW.cs)),(67,vI m.proof.length),(68,vI i)],[(1,0,one ⟨11,[m.pW],0,false⟩),(3,0,one ⟨1,(iL m pos++low m.proof.length 1++jI (m.proof.take i)).map cW,2,false⟩)],1⟩) m.proof.length ?_ ?_
   ·refine aw ?_;exact⟨0,aQ _,rfl,by simp[jI]⟩
   rintro n z ⟨i,hi,rfl,rfl⟩;rcases bm i m.proof.length with hl|bH
   ·have ae:(i:Int)<(m.proof.length:Int):=by omega
    have hg:m.proof[i]?=some m.proof[i]:=bz hl;have hw:=df hl gX;have CS:=hF i;have lJ:=G8 aW.bl hl;have acU:=gJ m.proof.length 1;have qp:=l9 m.proof[i];rw[List.length_take]at CS;have ha:=Wl (A:=iL m pos++low m.proof.length 1++jI (m.proof.take i)) (B:=m.proof[i].bl) (by simp only[List.length_append];omega);refine cg ae hg ?_;refine qG (SZ m.proof[i]) hw ha ?_;refine⟨_,by omega,i+1,hl,rfl,?_⟩;rw[show jI (m.proof.take (i+1))=jI (m.proof.take i)++aW.bl m.proof[i] from lJ];simp[]
   have hi:i=m.proof.length:=by omega
   subst hi;have ae:¬((m.proof.length:Int)<(m.proof.length:Int)):=by omega
   refine Ev ae ?_;exact⟨ab,by rw[hO];simp[pJ,bP]⟩
  have aU:((108:Nat):Int)=108:=rfl;have hs:=hk.l;refine aC aU ?_;refine aq.intro (FE m.az.length (by omega)) ?_;have ha:=du (E:=cW) (l:=iL m pos) (xs:=(low m.az.length 1).map cW) (b:=1) (n:=100000) (by simp[gJ];omega) (by omega) (by omega);refine aC ha ?_;have hF:=fun i=>F6 (m.az.take i) (RX hk.lo i)
  have gX:m.az.length≤maxLen:=by unfold maxLen;omega
  refine cR (fun n z=>∃i:Nat,i≤m.az.length∧n=m.az.length - i∧z=⟨103,[(1,.ptr 1 0 [] 11 0 0),(3,.au 3 0 [] 1 0 (iL m pos++low m.az.length 1++jc (m.az.take i)).length),(17,.it r),(86,.ro 1 (m.az.map cY)),(87,vI m.az.length),(88,vI i)],[(1,0,one ⟨11,[m.pW],0,false⟩),(3,0,one ⟨1,(iL m pos++low m.az.length 1++jc (m.az.take i)).map cW,2,false⟩)],1⟩) m.az.length ?_ ?_
  ·refine aw ?_;exact⟨0,aQ _,rfl,by simp[jc]⟩
  rintro n z ⟨i,hi,rfl,rfl⟩;rcases bm i m.az.length with hl|bH
  ·have ae:(i:Int)<(m.az.length:Int):=by omega
   have hg:m.az[i]?=some m.az[i]:=bz hl;have hw:=df hl gX;have CS:=hF i;have lJ:=G8 pj hl;have acU:=gJ m.az.length 1;have h40:=RY hk.lo hl;have e:m.az[i].data.toList.length=m.az[i].size:=Array.length_toList;have kx:=gJ m.az[i].size 1;rw[List.length_take]at CS;have ha:=Wl (A:=iL m pos++low m.az.length 1++jc (m.az.take i)) (B:=low m.az[i].size 1) (by simp only[List.length_append];omega);have cA:=ahJ (A:=iL m pos++low m.az.length 1++jc (m.az.take i)) (B:=low m.az[i].size 1) (C:=m.az[i].data.toList) (by simp only[List.length_append];omega);refine cg ae hg ?_;refine aq.intro (FE m.az[i].size (by omega)) ?_;refine ez hw ha cA ?_;refine⟨_,by omega,i+1,hl,rfl,?_⟩;rw[show jc (m.az.take (i+1))=jc (m.az.take i)++pj m.az[i] from lJ];simp[pj]
  have hi:i=m.az.length:=by omega
  subst hi;have ae:¬((m.az.length:Int)<(m.az.length:Int)):=by omega
  refine Ev ae ?_;exact⟨ab,by rw[hO];simp[pJ,yI]⟩
 rintro r pos z ⟨hle,rfl⟩ bH;have gZ:pos=(fy m.kind).size:=by omega
 subst gZ;rw[←aaC hk.k];simp -implicitDefEqProofs only[go_sem,VU];rfl
theorem Vs (m:aM) (hl:m.az.length≤maxLen):aR Tryz.prog 211 [m.ro] (vS (i6 m)) []:=by
 refine aA Um false Tryz.f211 ?_;conv=>enter[1];reduce
 refine bf Tryz.f211 8 [.tmp 2] (by kernel_rfl) (by decide +kernel) rfl ?_;refine aw ?_;refine cz (Vc m hl) ?_;refine b8 (fun h=>?_) (fun h=>?_)
 ·have h':eQ m=false:=by simpa using h
  refine aC h ?_;simp[i6,h']
 have h':eQ m=true:=by simpa using h
 refine aC h ?_;refine cz (af8 m h') ?_;simp[i6,h']
def Ao:bX:=⟨[],[9,10,11],[24,26,30,44,47,50,51,52,57,58,59,62,76,88,138,185,186,187,253,254,297,311],false⟩
abbrev jl:=BitVec 64
abbrev vW (x:jl):AV:=vU x.toNat
structure BD where
 a:jl
 b:jl
 c:jl
 d:jl
def BD.cs (s:BD):List AV:=[vW s.a,vW s.b,vW s.c,vW s.d]
def BD.c9 (s:BD):aW:=⟨s.a.toNat,s.b.toNat,s.c.toNat,s.d.toNat⟩
theorem BD.Mi (s:BD):s.c9.ok:=⟨s.a.isLt,s.b.isLt,s.c.isLt,s.d.isLt⟩
attribute [go_sem] BD.cs
theorem wU (n:Int):IntKind.u64.wrap n=n%18446744073709551616:=by
 have h8:IntKind.u64.bits=64:=rfl;have hs:IntKind.u64.signed=false:=rfl;simp only[IntKind.wrap,h8,hs,Bool.false_and,Bool.false_eq_true,if_false];rfl
theorem Oy (x:jl):IntKind.u64.wrap (x.toNat:Int)=(x.toNat:Int):=pT _ x.isLt
theorem uK (x y:jl):Im .u64 (x.toNat:Int) (y.toNat:Int)=((x ^^^ y).toNat:Int):=by
 unfold Im;rw[show IntKind.u64.bits=64 from rfl,BitVec.ofInt_natCast,BitVec.ofInt_natCast,BitVec.ofNat_toNat,BitVec.ofNat_toNat,BitVec.setWidth_eq,BitVec.setWidth_eq];exact Oy _
theorem EA (x y:jl):lf .u64 (x.toNat:Int) (y.toNat:Int)=((x||| y).toNat:Int):=by
 unfold lf;rw[show IntKind.u64.bits=64 from rfl,BitVec.ofInt_natCast,BitVec.ofInt_natCast,BitVec.ofNat_toNat,BitVec.ofNat_toNat,BitVec.setWidth_eq,BitVec.setWidth_eq];exact Oy _
theorem A7 (x y:jl):IntKind.u64.wrap ((x.toNat:Int)+(y.toNat:Int))=((x+y).toNat:Int):=by
 rw[wU,BitVec.toNat_add];omega
theorem Ez (x:jl) (n:Nat):IntKind.u64.wrap ((x.toNat:Int) * 2 ^ n)=((x<<<n).toNat:Int):=by
 rw[wU,BitVec.toNat_shiftLeft,Nat.shiftLeft_eq];have:((x.toNat:Int) * 2 ^ n)=((x.toNat * 2 ^ n:Nat):Int):=by simp
 rw[this];omega
theorem Ey (x:jl) (n:Nat):(x.toNat:Int).fdiv (2 ^ n)=((x>>>n).toNat:Int):=by
 rw[BitVec.toNat_ushiftRight,Nat.shiftRight_eq_div_pow,Int.fdiv_eq_ediv_of_nonneg _ (Int.pow_nonneg (by decide))];simp
def zi (x:jl) (n m:Nat):jl:=x<<<n||| x>>>m
theorem Y2 (x:jl):aR Tryz.prog 207 [vW x,vI 39] (vW (zi x 39 25)) []:=by
 refine aA Ao false Tryz.f207 ?_;conv=>enter[1];reduce
 refine bf Tryz.f207 17 [.tmp 4] (by kernel_rfl) (by decide +kernel) rfl ?_;have e1:NL IntKind.u64 (IntKind.u64.wrap 39) 63=39:=rfl;have e2:IntKind.u64.wrap (64 - 39)=25:=rfl;refine cg e1 e2 ?_;rw[Ez,Ey,EA];rfl
theorem X5 (x:jl):aR Tryz.prog 205 [vW x,vI 39] (vW (zi x 39 25)) []:=by
 refine aA Ao false Tryz.f205 ?_;conv=>enter[1];reduce
 refine bf Tryz.f205 15 [.tmp 4] (by kernel_rfl) (by decide +kernel) rfl ?_;have e1:IntKind.u64.wrap 39=39:=rfl;have e2:IntKind.i64.wrap (64 - 39)=25:=rfl;have e3:IntKind.u64.wrap 25=25:=rfl;refine ez e1 e2 e3 ?_;rw[Ez,Ey,EA];rfl
theorem Y3 (x:jl):aR Tryz.prog 207 [vW x,vI 21] (vW (zi x 21 43)) []:=by
 refine aA Ao false Tryz.f207 ?_;conv=>enter[1];reduce
 refine bf Tryz.f207 17 [.tmp 4] (by kernel_rfl) (by decide +kernel) rfl ?_;have e1:NL IntKind.u64 (IntKind.u64.wrap 21) 63=21:=rfl;have e2:IntKind.u64.wrap (64 - 21)=43:=rfl;refine cg e1 e2 ?_;rw[Ez,Ey,EA];rfl
theorem X6 (x:jl):aR Tryz.prog 205 [vW x,vI 21] (vW (zi x 21 43)) []:=by
 refine aA Ao false Tryz.f205 ?_;conv=>enter[1];reduce
 refine bf Tryz.f205 15 [.tmp 4] (by kernel_rfl) (by decide +kernel) rfl ?_;have e1:IntKind.u64.wrap 21=21:=rfl;have e2:IntKind.i64.wrap (64 - 21)=43:=rfl;have e3:IntKind.u64.wrap 43=43:=rfl;refine ez e1 e2 e3 ?_;rw[Ez,Ey,EA];rfl
structure RS where
 a:jl
 b:jl
 c:jl
 d:jl
 k:jl
def C0:jl:=12620524952350641003#64
def RS.nx (s:RS):RS:=
 let k:=s.k+C0
 let a:=s.a+s.b+k
 let d:=zi (s.d ^^^ a) 39 25
 let c:=s.c+d
 let b:=zi (s.b ^^^ c) 21 43
 ⟨b,c,d,a,k⟩
def o8 (s:RS):Nat→RS
 | 0=>s
 | n+1=>(o8 s n).nx
def Kk (s b:BD):BD:=
 let r:=o8 ⟨s.a ^^^ b.a,s.b ^^^ b.b,s.c ^^^ b.c,s.d ^^^ b.d,0#64⟩ 10
 ⟨r.a ^^^ s.a,r.b ^^^ s.b,r.c ^^^ s.c,r.d ^^^ s.d⟩
theorem EB (x:jl):IntKind.u64.wrap ((x.toNat:Int)+12620524952350641003)=((x+C0).toNat:Int):=A7 x C0
def wg:List AV:=[.sc (.int .u64 0),.sc (.int .u64 0),.sc (.int .u64 0),.sc (.int .u64 0)]
attribute [go_sem] wg
theorem agE (s b:BD):aR Tryz.prog 153 [.agg s.cs,.agg b.cs] (.agg (Kk s b).cs) []:=by
 refine aA Ao false Tryz.f153 ?_;conv=>enter[1];reduce
 refine bf Tryz.f153 74 [.cell 4 39] (by kernel_rfl) (by decide +kernel) rfl ?_;simp -implicitDefEqProofs only[go_sem,uK];generalize hR:(⟨s.a ^^^ b.a,s.b ^^^ b.b,s.c ^^^ b.c,s.d ^^^ b.d,0#64⟩:RS)=R;refine cR (fun m z=>∃i:Nat,i≤10∧m=10 - i∧z=⟨74,[(2,.ptr 2 0 [] 4 0 0),(4,.ptr 4 0 [] 4 0 0),(5,vW (o8 R i).a),(6,vW (o8 R i).b),(7,vW (o8 R i).c),(8,vW (o8 R i).d),(9,vW (o8 R i).k),(10,vI i)],[(2,0,one ⟨4,[s.cs],0,false⟩),(4,0,one ⟨4,[wg],0,false⟩)],1⟩) 10 ?_ ?_
 ·refine aw ?_;exact⟨0,by omega,rfl,by subst hR;rfl⟩
 rintro m z ⟨i,hi,rfl,rfl⟩;rcases bm i 10 with ab|bH
 ·have ae:(i:Int)<10:=by omega
  have w4:IntKind.i64.wrap ((i:Int)+1)=((i+1:Nat):Int):=by rw[aV (by omega)];omega
  simp -implicitDefEqProofs only[go_sem,ae,EB,A7,uK];refine aq.intro (Y2 _) ?_;simp -implicitDefEqProofs only[go_sem,EB,A7,uK];refine jm (Y3 _) w4 ?_;refine⟨_,by omega,i+1,ab,rfl,?_⟩;simp only[o8,RS.nx,BitVec.add_assoc]
 have hi:i=10:=by omega
 subst hi;have ae:¬(((10:Nat):Int)<10):=by omega
 simp -implicitDefEqProofs only[go_sem,ae,uK];subst hR;rfl
theorem VJ (s b:BD):aR Tryz.prog 149 [.agg s.cs,.agg b.cs] (.agg (Kk s b).cs) []:=by
 refine aA Ao false Tryz.f149 ?_;conv=>enter[1];reduce
 refine bf Tryz.f149 76 [.cell 4 39] (by kernel_rfl) (by decide +kernel) rfl ?_;simp -implicitDefEqProofs only[go_sem,uK];generalize hR:(⟨s.a ^^^ b.a,s.b ^^^ b.b,s.c ^^^ b.c,s.d ^^^ b.d,0#64⟩:RS)=R;refine cR (fun m z=>∃i:Nat,i≤10∧m=10 - i∧z=⟨76,[(2,.ptr 2 0 [] 4 0 0),(4,.ptr 4 0 [] 4 0 0),(5,vW (o8 R i).a),(6,vW (o8 R i).b),(7,vW (o8 R i).c),(8,vW (o8 R i).d),(9,vW (o8 R i).k),(10,vI i)],[(2,0,one ⟨4,[s.cs],0,false⟩),(4,0,one ⟨4,[wg],0,false⟩)],1⟩) 10 ?_ ?_
 ·refine aw ?_;exact⟨0,by omega,rfl,by subst hR;rfl⟩
 rintro m z ⟨i,hi,rfl,rfl⟩;rcases bm i 10 with ab|bH
 ·have ae:(i:Int)<10:=by omega
  have w4:IntKind.i64.wrap ((i:Int)+1)=((i+1:Nat):Int):=by rw[aV (by omega)];omega
  simp -implicitDefEqProofs only[go_sem,ae,EB,A7,uK];refine aq.intro (X5 _) ?_;simp -implicitDefEqProofs only[go_sem,EB,A7,uK];refine jm (X6 _) w4 ?_;exact⟨_,by omega,i+1,ab,rfl,rfl⟩
 have hi:i=10:=by omega
 subst hi;have ae:¬(((10:Nat):Int)<10):=by omega
 simp -implicitDefEqProofs only[go_sem,ae,uK];subst hR;rfl
theorem aax {S:Int}(h:1≤S∧S≤1000000):eQ ⟨1,S,0,0,gr,0,[],[]⟩=true:=by simp[eQ,sB,tJ,jU,aT,oT,gr,dX,h.1,h.2]
theorem aaw {S Z:Int}{d:aW}(h:1≤S∧S≤1000000) (k:0≤Z∧Z≤256):eQ ⟨2,S,0,Z,d,0,[],[]⟩=true:=by simp[eQ,sB,tJ,jU,aT,dX,h.1,h.2,k.1,k.2]
theorem aav {S Z:Int}{d:aW}(h:1≤S∧S≤1000000) (k:0≤Z∧Z≤256):eQ ⟨3,S,0,Z,d,0,[],[]⟩=true:=by simp[eQ,sB,tJ,jU,aT,dX,h.1,h.2,k.1,k.2]
theorem QA {S Z:Int}{d:aW}(h:1≤S∧S≤1000000) (k:0≤Z∧Z≤256):eQ ⟨6,S,0,Z,d,0,[],[]⟩=true:=by simp[eQ,sB,tJ,jU,aT,dX,h.1,h.2,k.1,k.2]
theorem QB {F Z:Int}(h:0≤F∧F≤256) (k:0≤Z∧Z≤256):eQ ⟨4,0,F,Z,gr,0,[],[]⟩=true:=by simp[eQ,sB,tJ,jU,aT,oT,gr,dX,h.1,h.2,k.1,k.2]
theorem aay {F Z:Int}{p:List aW}(h:0≤F∧F≤256) (k:0≤Z∧Z≤256) (hp:p.length≤16):eQ ⟨5,0,F,Z,gr,0,p,[]⟩=true:=by simp[eQ,sB,tJ,jU,aT,oT,gr,dX,h.1,h.2,k.1,k.2];omega
theorem aaA {F C:Int}(h:0≤F∧F≤256) (k:1≤C∧C≤8):eQ ⟨7,0,F,0,gr,C,[],[]⟩=true:=by simp[eQ,sB,tJ,jU,aT,oT,gr,dX,h.1,h.2,k.1,k.2]
theorem aaz {F:Int}{l:List ByteArray}(h:0≤F∧F≤256) (k:l.length≤8) (hl:dX l=true):eQ ⟨8,0,F,0,gr,0,[],l⟩=true:=by simp[eQ,sB,tJ,jU,aT,oT,gr,h.1,h.2,hl];omega
theorem sO:gr.ok:=⟨by decide,by decide,by decide,by decide⟩
end Go.Proofs.YtobpfkgabdeefaaGreat.E
