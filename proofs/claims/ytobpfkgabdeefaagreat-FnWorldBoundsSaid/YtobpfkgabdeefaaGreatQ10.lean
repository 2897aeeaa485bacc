/- Contracts: texts are hashed. -/
import Derived.Test.YtobpfkgabdeefaaGreatQ9
namespace Go.Proofs.YtobpfkgabdeefaaGreat.E
open Go Go.RowKit
set_option maxHeartbeats 4000000
set_option maxRecDepth 10000
set_option linter.unusedSimpArgs false
set_option linter.unusedVariables false
set_option linter.unusedSectionVars false
def qP:cc:=⟨[(152,.cm [false,true,false])],cw,cz,false⟩
def yE (b:UInt8):Bool:=((b.toNat:Int) != 255)
def bare (l:List UInt8):List UInt8:=l.filter yE
def mK (n:Nat):Nat:=(32 - (n+9)%32)%32
def sy (l:List UInt8):List UInt8:=l++[128]++List.replicate (mK l.length) 0++low l.length 8
def uS (l:List UInt8) (a:Nat):jE:=BitVec.ofNat 64 (kA (l.drop a) 8)
def Au (l:List UInt8) (a:Nat):BD:=⟨uS l a,uS l (a+8),uS l (a+16),uS l (a+24)⟩
def ES (s:BD) (l:List UInt8):Nat->BD
 | 0=>s
 | k+1=>Ke (ES s l k) (Au l (32 * k))
def H0:BD:=⟨13971524466476933880#64,3286059910148148165#64,8210247237615983910#64,11412903256176698835#64⟩
def CP (l:List UInt8):BD:=ES H0 (sy (bare l)) ((sy (bare l)).length/32)
def gu (l:List UInt8):BD:=if 20000<l.length then⟨0#64,0#64,0#64,0#64⟩ else CP l
theorem N8 (l:List UInt8):∀k,kA l k<256 ^ k
 | 0=>by simp[kA]
 | k+1=>by
  have:=qS l k;have:=N8 l k;simp only[kA,Nat.pow_succ];omega
theorem Ok (l:List UInt8) (a:Nat):(uS l a).toNat=kA (l.drop a) 8:=by
 unfold uS;rw[BitVec.toNat_ofNat,Nat.mod_eq_of_lt (N8 _ 8)]
theorem ahP (l:List UInt8) (n:Nat) {i:Nat}(h:i<n):bL (l.take n) i=bL l i:=by
 unfold bL;rw[List.getD_eq_getElem?_getD,List.getD_eq_getElem?_getD,List.getElem?_take_of_lt h]
theorem N7 (l:List UInt8) (n:Nat):∀{k:Nat},k<=n->kA (l.take n) k=kA l k
 | 0,_=>rfl
 | k+1,h=>by simp only[kA];rw[N7 l n (by omega),ahP l n (by omega)]
theorem aez (l:List UInt8) (a:Nat):(qO ((l.drop a).take 32)).cs=(Au l a).cs:=by
 have h:∀j,j+8<=32->kA (((l.drop a).take 32).drop j) 8=(uS l (a+j)).toNat:=by
  intro j hj;rw[Ok,List.drop_take,List.drop_drop,N7 _ _ (by omega)]
 have h0:=h 0 (by omega);simp only[List.drop_zero,Nat.add_zero]at h0;simp only[qO,aX.cs,BD.cs,Au,h0,h 8 (by omega),h 16 (by omega),h 24 (by omega)]
theorem aeB (l:List UInt8) (a:Nat) (h:a+32<=l.length):ba Tryz.prog 154 [.ro 1 (((l.drop a).take 32).map cE)] (.agg (Au l a).cs) []:=by
 have:=VL ((l.drop a).take 32) (by simp;omega);rw[aez]at this;exact this
theorem Nh (l:List UInt8):(bare l).length<=l.length:=List.length_filter_le _ _
theorem Wl {l:List UInt8}{i:Nat}(h:i<l.length):bare (l.take (i+1))=bare (l.take i)++(if yE l[i] then [l[i]] else []):=by
 unfold bare;rw[List.take_succ_eq_append_getElem h,List.filter_append];cases hb:yE l[i]<;>simp[List.filter,hb]
theorem Qw (n:Nat):mK n<32:=Nat.mod_lt _ (by decide)
theorem Jx (l:List UInt8):(sy l).length=l.length+9+mK l.length:=by simp[sy,gY];omega
theorem Qv (l:List UInt8):(sy l).length=32 * ((sy l).length/32):=by rw[Jx];unfold mK;omega
theorem OO {t:ByteArray}{i:Nat}(h:i<t.data.toList.length):(t.data[i]?).map (fun b=>AV.sc (.int .u8 (b.toNat:Int)))=some (.sc (.int .u8 ((t.data.toList[i].toNat:Nat):Int))):=by
 rw[<-Array.getElem?_toList,bm h];rfl
theorem Bc (t:ByteArray):t.data.toList.length=t.size:=by rw[Array.length_toList];rfl
theorem V0 (l:List UInt8) (b:UInt8):l.map cE++[[.sc (.int .u8 ((b.toNat:Nat):Int))]]=(l++[b]).map cE:=by simp[cE]
theorem agS (t:ByteArray) (ht:t.size<=1000000):ba Tryz.prog 146 [vS t] (vS (bA (bare t.data.toList))) []:=by
 refine aF qP false Tryz.f146 ?_;conv=>enter[1];reduce
 refine bu Tryz.f146 24 [.tmp 2] (by kernel_rfl) (by decide +kernel) rfl ?_;have hL:=Bc t;refine au ?_;refine dq (fun m z=>∃i:Nat,i<=t.size/\m=t.size - i/\z=⟨24,[(0,vS t),(3,.aw 3 0 [] 1 0 (bare (t.data.toList.take i)).length),(4,vI i)],[(3,0,one ⟨1,(bare (t.data.toList.take i)).map cE,2,false⟩)],1⟩) t.size ?_ ?_
 ·refine au ?_;exact⟨0,aR _,rfl,rfl⟩
 rintro m z ⟨i,hi,rfl,rfl⟩;rcases bp i t.size with ab|bM
 ·have ah:(i:Int)<(t.size:Int):=by omega
  have hg:=OO (t:=t) (i:=i) (by omega);have hs:=Wl (l:=t.data.toList) (i:=i) (by omega);have hb:=Nh (t.data.toList.take i);rw[List.length_take]at hb;have w4:IntKind.i64.wrap ((i:Int)+1)=((i+1:Nat):Int):=by rw[aN (by omega)];omega
  have ha:∀x,_:=fun x=>ed (E:=cE) (l:=bare (t.data.toList.take i)) (xs:=[x]) (b:=1) (n:=10000000) (by simp;omega) (by omega) (by omega)
  generalize t.data.toList[i]=b at *;refine b8 ah hg ?_;refine bX (fun h=>?_) (fun h=>?_)
  ·rw[show yE b=true from h,if_pos rfl]at hs;refine dP w4 hg ah ha ?_;exact⟨_,by omega,i+1,ab,rfl,by rw[hs,V0];simp⟩
  rw[show yE b=false from h,if_neg (by simp),List.append_nil]at hs;refine aA w4 ?_;exact⟨_,by omega,i+1,ab,rfl,by rw[hs]⟩
 have hi:i=t.size:=by omega
 subst hi;have ah:¬((t.size:Int)<(t.size:Int)):=by omega
 refine yP ah ?_;rw[<-hL,List.take_length];rfl
theorem agR (n:Nat) (hn:n<=1000):ba Tryz.prog 147 [vI n] (vS (bA (List.replicate n 0))) []:=by
 refine aF qP false Tryz.f147 ?_;conv=>enter[1];reduce
 refine bu Tryz.f147 16 [.tmp 2] (by kernel_rfl) (by decide +kernel) rfl ?_;refine au ?_;refine dq (fun m z=>∃i:Nat,i<=n/\m=n - i/\z=⟨16,[(0,vI n),(3,.aw 3 0 [] 1 0 (List.replicate i (0:UInt8)).length),(4,vI i)],[(3,0,one ⟨1,(List.replicate i (0:UInt8)).map cE,2,false⟩)],1⟩) n ?_ ?_
 ·refine au ?_;exact⟨0,aR _,rfl,rfl⟩
 rintro m z ⟨i,hi,rfl,rfl⟩;have hs:List.replicate (i+1) (0:UInt8)=List.replicate i 0++[0]:=List.replicate_succ';obtain⟨X,Lx⟩:∃X,List.replicate i (0:UInt8)=X:=⟨_,rfl⟩;have hX:X.length=i:=by rw[<-Lx];exact List.length_replicate
 rw[Lx]at hs ⊢;rcases bp i n with ab|bM
 ·have ah:(i:Int)<(n:Int):=by omega
  have w4:IntKind.i64.wrap ((i:Int)+1)=((i+1:Nat):Int):=by rw[aN (by omega)];omega
  have ha:∀x,_:=fun x=>ed (E:=cE) (l:=X) (xs:=[x]) (b:=1) (n:=10000000) (by simp;omega) (by omega) (by omega)
  refine eV ah w4 ha ?_;exact⟨_,by omega,i+1,ab,rfl,by rw[hs];simp[cE]⟩
 have hi:i=n:=by omega
 have ah:¬((i:Int)<(n:Int)):=by omega
 refine yP ah ?_;rw[<-Lx,hi];rfl
theorem v8 (t:ByteArray) (ht:t.size<=1000000000):ba Tryz.prog 99 [vS t] (.agg (gu t.data.toList).cs) []:=by
 refine aF qP false Tryz.f99 ?_;conv=>enter[1];reduce
 refine bu Tryz.f99 61 [.cell 2 39] (by kernel_rfl) (by decide +kernel) rfl ?_;have hL:=Bc t;refine au ?_;refine bX (fun h=>?_) (fun h=>?_)
 ·have h':20000<t.data.toList.length:=by have:=of_decide_eq_true h;omega
  simp -implicitDefEqProofs only[go_sem,h,gu,h'];rfl
 have h':¬20000<t.data.toList.length:=by have:=of_decide_eq_false h;omega
 refine aA h ?_;refine mj [(3,1)] (fun m z=>∃i:Nat,i<=t.size/\m=t.size - i/\z=⟨61,[(0,vS t),(2,.ptr 2 0 [] 4 0 0),(3,.aw 3 0 [] 1 0 (bare (t.data.toList.take i)).length),(4,vI i)],[(2,0,one ⟨4,[wD],0,false⟩),(3,0,one ⟨1,(bare (t.data.toList.take i)).map cE,2,false⟩)],1⟩) t.size ?_ ?_
 ·refine au ?_;exact⟨0,aR _,rfl,rfl⟩
 rintro m z ⟨i,hi,rfl,rfl⟩;have hb:=Nh (t.data.toList.take i);rw[List.length_take]at hb;have ha:∀x,_:=fun x=>ed (E:=cE) (l:=bare (t.data.toList.take i)) (xs:=[x]) (b:=1) (n:=10000000) (by simp;omega) (by omega) (by omega)
 rcases bp i t.size with ab|bM
 ·have ah:(i:Int)<(t.size:Int):=by omega
  have hg:=OO (t:=t) (i:=i) (by omega);have hs:=Wl (l:=t.data.toList) (i:=i) (by omega);have w4:IntKind.i64.wrap ((i:Int)+1)=((i+1:Nat):Int):=by rw[aN (by omega)];omega
  generalize t.data.toList[i]=b at *;refine b8 ah hg ?_;refine bX (fun h=>?_) (fun h=>?_)
  ·rw[show yE b=true from h,if_pos rfl]at hs;refine dP w4 hg ah ha ?_;exact⟨_,by omega,i+1,ab,rfl,by rw[hs,V0];simp⟩
  rw[show yE b=false from h,if_neg (by simp),List.append_nil]at hs;refine aA w4 ?_;exact⟨_,by omega,i+1,ab,rfl,by rw[hs]⟩
 have hi:i=t.size:=by omega
 subst hi;have ah:¬((t.size:Int)<(t.size:Int)):=by omega
 have hT:t.data.toList.take t.size=t.data.toList:=by rw[<-hL,List.take_length]
 rw[hT]at ha hb ⊢;have hm:gu t.data.toList=CP t.data.toList:=if_neg h';unfold CP at hm;rw[hm];clear hT hm;generalize bare t.data.toList=B at *;have wv:IntKind.u64.wrap (B.length:Int)=(B.length:Int):=qW _ (by omega);refine eV ah ha wv ?_;refine dq (fun m z=>∃(j:Nat) (X:List UInt8),j<=mK B.length/\X=B++[128]++List.replicate j 0/\m=mK B.length - j/\z=⟨61,[(2,.ptr 2 0 [] 4 0 0),(3,.aw 3 0 [] 1 0 X.length),(5,.sc (.int .u64 B.length))],[(2,0,one ⟨4,[wD],0,false⟩),(3,0,one ⟨1,X.map cE,2,false⟩)],1⟩) (mK B.length) ?_ ?_
 ·refine au ?_;exact⟨0,B++[128],aR _,by simp,rfl,by simp[cE]⟩
 rintro m z ⟨j,X,hj,hX,rfl,rfl⟩;have GU:X.length=B.length+1+j:=by rw[hX];simp;omega
 have hz:=Qw B.length;have ha:∀x,_:=fun x=>ed (E:=cE) (l:=X) (xs:=[x]) (b:=1) (n:=10000000) (by simp;omega) (by omega) (by omega)
 have tm:((X.length:Nat):Int).tmod 32=((X.length%32:Nat):Int):=by rw[Int.tmod_eq_emod_of_nonneg (by omega)];omega
 rcases bp j (mK B.length) with ab|bM
 ·have bJ:(((X.length%32:Nat):Int) != 24)=true:=by rw[bne_iff_ne];unfold mK at ab;omega
  refine eV tm bJ ha ?_;exact⟨_,by omega,j+1,X++[0],by omega,by rw[hX,List.replicate_succ',List.append_assoc],rfl,by simp[cE]⟩
 have hj:j=mK B.length:=by omega
 have bJ:(((X.length%32:Nat):Int) != 24)=false:=by rw[bne_eq_false_iff_eq];unfold mK at hj;omega
 refine b8 tm bJ ?_;refine aE.intro (wj X B.length (by omega)) ?_;have hP:X++low B.length 8=sy B:=by rw[hX,hj];rfl
 have Ly:=Qv B;have hPm:=Jx B;rw[hP];generalize sy B=P at *;obtain⟨n,hn⟩:∃n,P.length/32=n:=⟨_,rfl⟩;rw[hn]at Ly ⊢;have hd:=fun k (hk:k<n)=>aeB P (32 * k) (by omega)
 refine au ?_;refine dq (fun m z=>∃k:Nat,k<=n/\m=n - k/\z=⟨61,[(2,.ptr 2 0 [] 4 0 0),(3,.aw 3 0 [] 1 0 P.length),(6,.ptr 6 0 [] 4 0 0),(7,vI ((32 * k:Nat):Int))],[(2,0,one ⟨4,[wD],0,false⟩),(3,0,one ⟨1,P.map cE,2,false⟩),(6,0,one ⟨4,[(ES H0 P k).cs],0,false⟩)],1⟩) n ?_ ?_
 ·refine au ?_;exact⟨0,aR _,rfl,rfl⟩
 rintro m z ⟨k,hk,rfl,rfl⟩;rcases bp k n with ab|bM
 ·have ah:((32 * k:Nat):Int)<(P.length:Int):=by omega
  have w4:IntKind.i64.wrap (((32 * k:Nat):Int)+32)=((32 * (k+1):Nat):Int):=by rw[aN (by omega)];omega
  have Ck:((32 * k:Nat):Int)<=((32 * (k+1):Nat):Int)/\((32 * (k+1):Nat):Int)<=(P.length:Int):=by omega
  have h32:32 * (k+1) - 32 * k=32:=by omega
  have CD:∀(x:Option (ak × AV)),od (32 * k+32) P.length x=x:=fun x=>Gh (by omega)
  refine qc ah w4 Ck h32 CD ?_;refine cT (hd k ab) ?_;refine jj (agQ _ _) w4 ?_;exact⟨_,by omega,k+1,ab,rfl,rfl⟩
 have hk:k=n:=by omega
 subst hk;have ah:¬((32 * k:Nat):Int)<(P.length:Int):=by omega
 exact eE ah
theorem aaY (v:Nat) (h:v<18446744073709551616):ba Tryz.prog 148 [vU v] (vS (bA (low v 8))) []:=by
 have:=rU v h;rw[Fz]at this;exact this
theorem N3 (l:List UInt8) (a:Nat) (h:a+8<=l.length) (hl:l.length<=1000000):ba Tryz.prog 150 [vS (bA l),vI a] (vW (uS l a)) []:=by
 have:=uA (bA l) a (by rw[iY];omega) (by rw[iY];omega);rw[N5,r5,<-Ok]at this;exact this
theorem ahS:(⟨#[128]⟩:ByteArray)=bA [128]:=rfl
theorem v9 (t:ByteArray) (ht:t.size<=1000000000):ba Tryz.prog 97 [vS t] (.agg (gu t.data.toList).cs) []:=by
 refine aF qP false Tryz.f97 ?_;conv=>enter[1];reduce
 refine bu Tryz.f97 57 [.cell 2 39] (by kernel_rfl) (by decide +kernel) rfl ?_;have hL:=Bc t;refine au ?_;refine bX (fun h=>?_) (fun h=>?_)
 ·have h':20000<t.data.toList.length:=by have:=of_decide_eq_true h;omega
  simp -implicitDefEqProofs only[go_sem,h,gu,h'];rfl
 have h':¬20000<t.data.toList.length:=by have:=of_decide_eq_false h;omega
 refine aA h ?_;refine aq.intro (agS t (by omega)) ?_;have hb:=Nh t.data.toList;have hm:gu t.data.toList=CP t.data.toList:=if_neg h';unfold CP at hm;rw[hm];generalize bare t.data.toList=B at *;have hz:=Qw B.length;have w1:IntKind.i64.wrap ((B.length:Int)+9)=((B.length+9:Nat):Int):=by rw[aN (by omega)];rfl
 have w2:((B.length+9:Nat):Int).tmod 32=(((B.length+9)%32:Nat):Int):=by rw[Int.tmod_eq_emod_of_nonneg (by omega)];omega
 have w3:IntKind.i64.wrap (32 - (((B.length+9)%32:Nat):Int))=((32 - (B.length+9)%32:Nat):Int):=by rw[aN (by omega)];omega
 have w4:((32 - (B.length+9)%32:Nat):Int).tmod 32=((mK B.length:Nat):Int):=by rw[Int.tmod_eq_emod_of_nonneg (by omega)];unfold mK;omega
 have wv:IntKind.u64.wrap (B.length:Int)=(B.length:Int):=qW _ (by omega);have w5:IntKind.i64.wrap (((32 - (B.length+9)%32:Nat):Int))=((32 - (B.length+9)%32:Nat):Int):=aN (by omega);have pG:decide (((B.length+1:Nat):Int)>9223372036854775807)=false:=by simp;omega
 have zN:decide (((B.length+1+mK B.length:Nat):Int)>9223372036854775807)=false:=by simp;omega
 have Cn:decide (((B.length+1+mK B.length+8:Nat):Int)>9223372036854775807)=false:=by simp;omega
 simp -implicitDefEqProofs only[go_sem,iY,w1,w2,w3,w4,pG,ahS,uC,wv];refine aq.intro (agR (mK B.length) (by omega)) ?_;simp -implicitDefEqProofs only[go_sem,iY,zN,uC,wv,List.length_append,List.length_replicate];refine aq.intro (aaY B.length (by omega)) ?_;simp -implicitDefEqProofs only[go_sem,iY,Cn,uC,wv,List.length_append,List.length_replicate,F2];have hP:B++[128]++List.replicate (mK B.length) 0++low B.length 8=sy B:=rfl;have Ly:=Qv B;have hPm:=Jx B;rw[hP];generalize sy B=P at *;obtain⟨n,hn⟩:∃n,P.length/32=n:=⟨_,rfl⟩;rw[hn]at Ly ⊢;refine dq (fun m z=>∃k:Nat,k<=n/\m=n - k/\z=⟨57,[(2,.ptr 2 0 [] 4 0 0),(4,vS (bA P)),(5,.ptr 5 0 [] 4 0 0),(6,vI ((32 * k:Nat):Int))],[(2,0,one ⟨4,[wD],0,false⟩),(5,0,one ⟨4,[(ES H0 P k).cs],0,false⟩)],1⟩) n ?_ ?_
 ·refine au ?_;exact⟨0,aR _,rfl,rfl⟩
 rintro m z ⟨k,hk,rfl,rfl⟩;rcases bp k n with ab|bM
 ·have ah:((32 * k:Nat):Int)<(P.length:Int):=by omega
  have w6:IntKind.i64.wrap (((32 * k:Nat):Int)+32)=((32 * (k+1):Nat):Int):=by rw[aN (by omega)];omega
  have w7:IntKind.i64.wrap (((32 * k:Nat):Int)+8)=((32 * k+8:Nat):Int):=by rw[aN (by omega)];omega
  have w8:IntKind.i64.wrap (((32 * k:Nat):Int)+16)=((32 * k+16:Nat):Int):=by rw[aN (by omega)];omega
  have w9:IntKind.i64.wrap (((32 * k:Nat):Int)+24)=((32 * k+24:Nat):Int):=by rw[aN (by omega)];omega
  simp -implicitDefEqProofs only[go_sem,iY,ah,w6,w7,w8,w9]
  repeat' first|(refine aq.intro (by first|exact N3 P _ (by omega) (by omega)|exact VM _ (Au P (32 * k))) ?_;try simp -implicitDefEqProofs only[go_sem,w6])|(refine aE.intro (by first|exact N3 P _ (by omega) (by omega)|exact VM _ (Au P (32 * k))) ?_;try simp -implicitDefEqProofs only[go_sem,w6])|(refine fv (fun h=>?_) (fun h=>?_)<;>try simp -implicitDefEqProofs only[go_sem,w6,h])|(refine bX (fun h=>?_) (fun h=>?_)<;>try simp -implicitDefEqProofs only[go_sem,w6,h])
  exact⟨_,by omega,k+1,ab,rfl,rfl⟩
 have hk:k=n:=by omega
 subst hk;have ah:¬((32 * k:Nat):Int)<(P.length:Int):=by omega
 simp -implicitDefEqProofs only[go_sem,iY,ah]
theorem afY (t:ByteArray) (ht:t.size<=1000000):ba Tryz.prog 304 [vS t] (vS (bA (0::t.data.toList))) []:=by
 refine aF qP false Tryz.f304 ?_;conv=>enter[1];reduce
 refine bu Tryz.f304 5 [.tmp 2] (by kernel_rfl) (by decide +kernel) rfl ?_;have hs:decide ((((#[0]:Array UInt8).size+t.size:Nat):Int)>9223372036854775807)=false:=by simp;omega
 have e:(⟨#[0]⟩:ByteArray)++t=bA (0::t.data.toList):=Aw (by simp[bA,ByteArray.data_append]);exact dp hs e
theorem agB (t:ByteArray) (ht:t.size<=1000000):ba Tryz.prog 198 [vS t] (vS (bA (0::t.data.toList))) []:=by
 refine aF qP false Tryz.f198 ?_;conv=>enter[1];reduce
 refine bu Tryz.f198 7 [.tmp 2] (by kernel_rfl) (by decide +kernel) rfl ?_;have hs:decide ((((#[0]:Array UInt8).size+t.size:Nat):Int)>9223372036854775807)=false:=by simp;omega
 have e:(⟨#[0]⟩:ByteArray)++t=bA (0::t.data.toList):=Aw (by simp[bA,ByteArray.data_append]);exact dp hs e
def CT (b:ByteArray):BD:=gu (0::b.data.toList)
def rI (x y:BD):BD:=gu (1::(x.dg.bl++y.dg.bl))
theorem af5 (t:ByteArray) (ht:t.size<=1000000):ba Tryz.prog 283 [vS t] (.agg (CT t).cs) []:=by
 refine aF qP false Tryz.f283 ?_;conv=>enter[1];reduce
 refine bu Tryz.f283 6 [.cell 2 39] (by kernel_rfl) (by decide +kernel) rfl ?_;have hh:=v8 (bA (0::t.data.toList)) (by rw[iY,List.length_cons,Bc];omega);rw[r5]at hh;refine au ?_;refine cT (afY t ht) ?_;refine aq.intro hh ?_;simp -implicitDefEqProofs only[go_sem,CT]
theorem agU (t:ByteArray) (ht:t.size<=1000000):ba Tryz.prog 140 [vS t] (.agg (CT t).cs) []:=by
 refine aF qP false Tryz.f140 ?_;conv=>enter[1];reduce
 refine bu Tryz.f140 6 [.cell 2 39] (by kernel_rfl) (by decide +kernel) rfl ?_;have hh:=v9 (bA (0::t.data.toList)) (by rw[iY,List.length_cons,Bc];omega);rw[r5]at hh;refine au ?_;refine cT (agB t ht) ?_;refine aq.intro hh ?_;simp -implicitDefEqProofs only[go_sem,CT]
theorem S0 (x:BD):ba Tryz.prog 289 [.agg x.cs] (vS (bA x.dg.bl)) []:=by
 have:=U5 x.dg;rw[M5]at this;exact this
theorem SZ (x:BD):ba Tryz.prog 251 [.agg x.cs] (vS (bA x.dg.bl)) []:=GP x.dg x.Dk
theorem afX (x y:BD):ba Tryz.prog 305 [.agg x.cs,.agg y.cs] (vS (bA (1::(x.dg.bl++y.dg.bl)))) []:=by
 refine aF qP false Tryz.f305 ?_;conv=>enter[1];reduce
 refine bu Tryz.f305 11 [.tmp 4] (by kernel_rfl) (by decide +kernel) rfl ?_;have b1:(⟨#[1]⟩:ByteArray)=bA [1]:=rfl;have s1:decide ((((#[1]:Array UInt8).size+32:Nat):Int)>9223372036854775807)=false:=rfl;have s2:decide (((1+32:Nat):Int)>9223372036854775807)=false:=rfl;have s3:decide (((1+32+32:Nat):Int)>9223372036854775807)=false:=rfl;refine aA b1 ?_;refine aq.intro (S0 x) ?_;simp -implicitDefEqProofs only[go_sem,b1,iY,mE,s1,s2,uC,List.singleton_append];refine aq.intro (S0 y) ?_;simp -implicitDefEqProofs only[go_sem,b1,iY,mE,s3,uC]
theorem agA (x y:BD):ba Tryz.prog 199 [.agg x.cs,.agg y.cs] (vS (bA (1::(x.dg.bl++y.dg.bl)))) []:=by
 refine aF qP false Tryz.f199 ?_;conv=>enter[1];reduce
 refine bu Tryz.f199 13 [.tmp 4] (by kernel_rfl) (by decide +kernel) rfl ?_;have b1:(⟨#[1]⟩:ByteArray)=bA [1]:=rfl;have s1:decide ((((#[1]:Array UInt8).size+32:Nat):Int)>9223372036854775807)=false:=rfl;have s2:decide (((1+32:Nat):Int)>9223372036854775807)=false:=rfl;have s3:decide (((1+32+32:Nat):Int)>9223372036854775807)=false:=rfl;refine aA b1 ?_;refine aq.intro (SZ x) ?_;simp -implicitDefEqProofs only[go_sem,b1,iY,mE,s1,s2,uC,List.singleton_append];refine aq.intro (SZ y) ?_;simp -implicitDefEqProofs only[go_sem,b1,iY,mE,s3,uC]
theorem MH (x y:BD):ba Tryz.prog 285 [.agg x.cs,.agg y.cs] (.agg (rI x y).cs) []:=by
 refine aF qP false Tryz.f285 ?_;conv=>enter[1];reduce
 refine bu Tryz.f285 9 [.cell 4 39] (by kernel_rfl) (by decide +kernel) rfl ?_;have hh:=v8 (bA (1::(x.dg.bl++y.dg.bl))) (by rw[iY];simp[mE]);rw[r5]at hh;refine au ?_;refine cT (afX x y) ?_;refine aq.intro hh ?_;simp -implicitDefEqProofs only[go_sem,rI]
theorem M0 (x y:BD):ba Tryz.prog 142 [.agg x.cs,.agg y.cs] (.agg (rI x y).cs) []:=by
 refine aF qP false Tryz.f142 ?_;conv=>enter[1];reduce
 refine bu Tryz.f142 9 [.cell 4 39] (by kernel_rfl) (by decide +kernel) rfl ?_;have hh:=v9 (bA (1::(x.dg.bl++y.dg.bl))) (by rw[iY];simp[mE]);rw[r5]at hh;refine au ?_;refine cT (agA x y) ?_;refine aq.intro hh ?_;simp -implicitDefEqProofs only[go_sem,rI]
end Go.Proofs.YtobpfkgabdeefaaGreat.E
