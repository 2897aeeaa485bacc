/- Contracts: texts are hashed. -/
import Derived.Test.YtobpfkgabdeefaaGreatP9
namespace Go.Proofs.YtobpfkgabdeefaaGreat.E
open Go Go.RowKit
set_option maxHeartbeats 4000000
set_option maxRecDepth 10000
set_option linter.unusedSimpArgs false
set_option linter.unusedVariables false
set_option linter.unusedSectionVars false
def qB:bX:=⟨[(152,.cm [false,true,false])],[9,10,11],[24,26,30,44,47,50,51,52,57,58,59,62,76,88,138,185,186,187,253,254,297,311],false⟩
def yG (b:UInt8):Bool:=((b.toNat:Int) != 255)
def bare (l:List UInt8):List UInt8:=l.filter yG
def mj (n:Nat):Nat:=(32 - (n+9)%32)%32
def rX (l:List UInt8):List UInt8:=l++[128]++List.replicate (mj l.length) 0++low l.length 8
def uM (l:List UInt8) (a:Nat):jl:=BitVec.ofNat 64 (j8 (l.drop a) 8)
def Az (l:List UInt8) (a:Nat):BD:=⟨uM l a,uM l (a+8),uM l (a+16),uM l (a+24)⟩
def EN (s:BD) (l:List UInt8):Nat→BD
 | 0=>s
 | k+1=>Kk (EN s l k) (Az l (32 * k))
def H0:BD:=⟨13971524466476933880#64,3286059910148148165#64,8210247237615983910#64,11412903256176698835#64⟩
def CO (l:List UInt8):BD:=EN H0 (rX (bare l)) ((rX (bare l)).length/32)
def fY (l:List UInt8):BD:=if 20000<l.length then⟨0#64,0#64,0#64,0#64⟩ else CO l
theorem Om (l:List UInt8):∀k,j8 l k<256 ^ k
 | 0=>by simp[j8]
 | k+1=>by
  have:=uw l k;have:=Om l k;simp only[j8,Nat.pow_succ];omega
theorem OB (l:List UInt8) (a:Nat):(uM l a).toNat=j8 (l.drop a) 8:=by
 unfold uM;rw[BitVec.toNat_ofNat,Nat.mod_eq_of_lt (Om _ 8)]
theorem ahC (l:List UInt8) (n:Nat) {i:Nat}(h:i<n):bL (l.take n) i=bL l i:=by
 unfold bL;rw[List.getD_eq_getElem?_getD,List.getD_eq_getElem?_getD,List.getElem?_take_of_lt h]
theorem Ol (l:List UInt8) (n:Nat):∀{k:Nat},k≤n→j8 (l.take n) k=j8 l k
 | 0,_=>rfl
 | k+1,h=>by simp only[j8];rw[Ol l n (by omega),ahC l n (by omega)]
theorem aen (l:List UInt8) (a:Nat):(qA ((l.drop a).take 32)).cs=(Az l a).cs:=by
 have h:∀j,j+8≤32→j8 (((l.drop a).take 32).drop j) 8=(uM l (a+j)).toNat:=by
  intro j hj;rw[OB,List.drop_take,List.drop_drop,Ol _ _ (by omega)]
 have h0:=h 0 (by omega);simp only[List.drop_zero,Nat.add_zero]at h0;simp only[qA,aW.cs,BD.cs,Az,h0,h 8 (by omega),h 16 (by omega),h 24 (by omega)]
theorem aeq (l:List UInt8) (a:Nat) (h:a+32≤l.length):aR Tryz.prog 154 [.ro 1 (((l.drop a).take 32).map cW)] (.agg (Az l a).cs) []:=by
 have:=VI ((l.drop a).take 32) (by simp;omega);rw[aen]at this;exact this
theorem Nx (l:List UInt8):(bare l).length≤l.length:=List.length_filter_le _ _
theorem Wc {l:List UInt8}{i:Nat}(h:i<l.length):bare (l.take (i+1))=bare (l.take i)++(if yG l[i] then [l[i]] else []):=by
 unfold bare;rw[List.take_succ_eq_append_getElem h,List.filter_append];cases hb:yG l[i]<;>simp[List.filter,hb]
theorem Qr (n:Nat):mj n<32:=Nat.mod_lt _ (by decide)
theorem JC (l:List UInt8):(rX l).length=l.length+9+mj l.length:=by simp[rX,gJ];omega
theorem Qq (l:List UInt8):(rX l).length=32 * ((rX l).length/32):=by rw[JC];unfold mj;omega
theorem OX {t:ByteArray}{i:Nat}(h:i<t.data.toList.length):(t.data[i]?).map (fun b=>AV.sc (.int .u8 (b.toNat:Int)))=some (.sc (.int .u8 ((t.data.toList[i].toNat:Nat):Int))):=by
 rw[←Array.getElem?_toList,bz h];rfl
theorem Bi (t:ByteArray):t.data.toList.length=t.size:=by rw[Array.length_toList];rfl
theorem VW (l:List UInt8) (b:UInt8):l.map cW++[[.sc (.int .u8 ((b.toNat:Nat):Int))]]=(l++[b]).map cW:=by simp[cW]
theorem agG (t:ByteArray) (ht:t.size≤1000000):aR Tryz.prog 146 [vS t] (vS (bA (bare t.data.toList))) []:=by
 refine aA qB false Tryz.f146 ?_;conv=>enter[1];reduce
 refine bf Tryz.f146 24 [.tmp 2] (by kernel_rfl) (by decide +kernel) rfl ?_;have hL:=Bi t;refine aw ?_;refine cR (fun m z=>∃i:Nat,i≤t.size∧m=t.size - i∧z=⟨24,[(0,vS t),(3,.au 3 0 [] 1 0 (bare (t.data.toList.take i)).length),(4,vI i)],[(3,0,one ⟨1,(bare (t.data.toList.take i)).map cW,2,false⟩)],1⟩) t.size ?_ ?_
 ·refine aw ?_;exact⟨0,aQ _,rfl,rfl⟩
 rintro m z ⟨i,hi,rfl,rfl⟩;rcases bm i t.size with ab|bH
 ·have ae:(i:Int)<(t.size:Int):=by omega
  have hg:=OX (t:=t) (i:=i) (by omega);have hs:=Wc (l:=t.data.toList) (i:=i) (by omega);have hb:=Nx (t.data.toList.take i);rw[List.length_take]at hb;have w4:IntKind.i64.wrap ((i:Int)+1)=((i+1:Nat):Int):=by rw[aV (by omega)];omega
  have ha:∀x,_:=fun x=>du (E:=cW) (l:=bare (t.data.toList.take i)) (xs:=[x]) (b:=1) (n:=10000000) (by simp;omega) (by omega) (by omega)
  generalize t.data.toList[i]=b at *;refine cg ae hg ?_;refine b8 (fun h=>?_) (fun h=>?_)
  ·rw[show yG b=true from h,if_pos rfl]at hs;refine eI w4 hg ae ha ?_;exact⟨_,by omega,i+1,ab,rfl,by rw[hs,VW];simp⟩
  rw[show yG b=false from h,if_neg (by simp),List.append_nil]at hs;refine aC w4 ?_;exact⟨_,by omega,i+1,ab,rfl,by rw[hs]⟩
 have hi:i=t.size:=by omega
 subst hi;have ae:¬((t.size:Int)<(t.size:Int)):=by omega
 refine A4 ae ?_;rw[←hL,List.take_length];rfl
theorem agF (n:Nat) (hn:n≤1000):aR Tryz.prog 147 [vI n] (vS (bA (List.replicate n 0))) []:=by
 refine aA qB false Tryz.f147 ?_;conv=>enter[1];reduce
 refine bf Tryz.f147 16 [.tmp 2] (by kernel_rfl) (by decide +kernel) rfl ?_;refine aw ?_;refine cR (fun m z=>∃i:Nat,i≤n∧m=n - i∧z=⟨16,[(0,vI n),(3,.au 3 0 [] 1 0 (List.replicate i (0:UInt8)).length),(4,vI i)],[(3,0,one ⟨1,(List.replicate i (0:UInt8)).map cW,2,false⟩)],1⟩) n ?_ ?_
 ·refine aw ?_;exact⟨0,aQ _,rfl,rfl⟩
 rintro m z ⟨i,hi,rfl,rfl⟩;have hs:List.replicate (i+1) (0:UInt8)=List.replicate i 0++[0]:=List.replicate_succ';obtain⟨X,LJ⟩:∃X,List.replicate i (0:UInt8)=X:=⟨_,rfl⟩;have hX:X.length=i:=by rw[←LJ];exact List.length_replicate
 rw[LJ]at hs ⊢;rcases bm i n with ab|bH
 ·have ae:(i:Int)<(n:Int):=by omega
  have w4:IntKind.i64.wrap ((i:Int)+1)=((i+1:Nat):Int):=by rw[aV (by omega)];omega
  have ha:∀x,_:=fun x=>du (E:=cW) (l:=X) (xs:=[x]) (b:=1) (n:=10000000) (by simp;omega) (by omega) (by omega)
  refine ez ae w4 ha ?_;exact⟨_,by omega,i+1,ab,rfl,by rw[hs];simp[cW]⟩
 have hi:i=n:=by omega
 have ae:¬((i:Int)<(n:Int)):=by omega
 refine A4 ae ?_;rw[←LJ,hi];rfl
theorem vN (t:ByteArray) (ht:t.size≤1000000000):aR Tryz.prog 99 [vS t] (.agg (fY t.data.toList).cs) []:=by
 refine aA qB false Tryz.f99 ?_;conv=>enter[1];reduce
 refine bf Tryz.f99 61 [.cell 2 39] (by kernel_rfl) (by decide +kernel) rfl ?_;have hL:=Bi t;refine aw ?_;refine b8 (fun h=>?_) (fun h=>?_)
 ·have h':20000<t.data.toList.length:=by have:=of_decide_eq_true h;omega
  simp -implicitDefEqProofs only[go_sem,h,fY,h'];rfl
 have h':¬20000<t.data.toList.length:=by have:=of_decide_eq_false h;omega
 refine aC h ?_;refine jX [(3,1)] (fun m z=>∃i:Nat,i≤t.size∧m=t.size - i∧z=⟨61,[(0,vS t),(2,.ptr 2 0 [] 4 0 0),(3,.au 3 0 [] 1 0 (bare (t.data.toList.take i)).length),(4,vI i)],[(2,0,one ⟨4,[wg],0,false⟩),(3,0,one ⟨1,(bare (t.data.toList.take i)).map cW,2,false⟩)],1⟩) t.size ?_ ?_
 ·refine aw ?_;exact⟨0,aQ _,rfl,rfl⟩
 rintro m z ⟨i,hi,rfl,rfl⟩;have hb:=Nx (t.data.toList.take i);rw[List.length_take]at hb;have ha:∀x,_:=fun x=>du (E:=cW) (l:=bare (t.data.toList.take i)) (xs:=[x]) (b:=1) (n:=10000000) (by simp;omega) (by omega) (by omega)
 rcases bm i t.size with ab|bH
 ·have ae:(i:Int)<(t.size:Int):=by omega
  have hg:=OX (t:=t) (i:=i) (by omega);have hs:=Wc (l:=t.data.toList) (i:=i) (by omega);have w4:IntKind.i64.wrap ((i:Int)+1)=((i+1:Nat):Int):=by rw[aV (by omega)];omega
  generalize t.data.toList[i]=b at *;refine cg ae hg ?_;refine b8 (fun h=>?_) (fun h=>?_)
  ·rw[show yG b=true from h,if_pos rfl]at hs;refine eI w4 hg ae ha ?_;exact⟨_,by omega,i+1,ab,rfl,by rw[hs,VW];simp⟩
  rw[show yG b=false from h,if_neg (by simp),List.append_nil]at hs;refine aC w4 ?_;exact⟨_,by omega,i+1,ab,rfl,by rw[hs]⟩
 have hi:i=t.size:=by omega
 subst hi;have ae:¬((t.size:Int)<(t.size:Int)):=by omega
 have hT:t.data.toList.take t.size=t.data.toList:=by rw[←hL,List.take_length]
 rw[hT]at ha hb ⊢;have hm:fY t.data.toList=CO t.data.toList:=if_neg h';unfold CO at hm;rw[hm];clear hT hm;generalize bare t.data.toList=B at *;have wv:IntKind.u64.wrap (B.length:Int)=(B.length:Int):=pT _ (by omega);refine ez ae ha wv ?_;refine cR (fun m z=>∃(j:Nat) (X:List UInt8),j≤mj B.length∧X=B++[128]++List.replicate j 0∧m=mj B.length - j∧z=⟨61,[(2,.ptr 2 0 [] 4 0 0),(3,.au 3 0 [] 1 0 X.length),(5,.sc (.int .u64 B.length))],[(2,0,one ⟨4,[wg],0,false⟩),(3,0,one ⟨1,X.map cW,2,false⟩)],1⟩) (mj B.length) ?_ ?_
 ·refine aw ?_;exact⟨0,B++[128],aQ _,by simp,rfl,by simp[cW]⟩
 rintro m z ⟨j,X,hj,hX,rfl,rfl⟩;have S4:X.length=B.length+1+j:=by rw[hX];simp;omega
 have hz:=Qr B.length;have ha:∀x,_:=fun x=>du (E:=cW) (l:=X) (xs:=[x]) (b:=1) (n:=10000000) (by simp;omega) (by omega) (by omega)
 have tm:((X.length:Nat):Int).tmod 32=((X.length%32:Nat):Int):=by rw[Int.tmod_eq_emod_of_nonneg (by omega)];omega
 rcases bm j (mj B.length) with ab|bH
 ·have bO:(((X.length%32:Nat):Int) != 24)=true:=by rw[bne_iff_ne];unfold mj at ab;omega
  refine ez tm bO ha ?_;exact⟨_,by omega,j+1,X++[0],by omega,by rw[hX,List.replicate_succ',List.append_assoc],rfl,by simp[cW]⟩
 have hj:j=mj B.length:=by omega
 have bO:(((X.length%32:Nat):Int) != 24)=false:=by rw[bne_eq_false_iff_eq];unfold mj at hj;omega
 refine cg tm bO ?_;refine aD.intro (vX X B.length (by omega)) ?_;have hP:X++low B.length 8=rX B:=by rw[hX,hj];rfl
 have LL:=Qq B;have hPm:=JC B;rw[hP];generalize rX B=P at *;obtain⟨n,hn⟩:∃n,P.length/32=n:=⟨_,rfl⟩;rw[hn]at LL ⊢;have hd:=fun k (hk:k<n)=>aeq P (32 * k) (by omega)
 refine aw ?_;refine cR (fun m z=>∃k:Nat,k≤n∧m=n - k∧z=⟨61,[(2,.ptr 2 0 [] 4 0 0),(3,.au 3 0 [] 1 0 P.length),(6,.ptr 6 0 [] 4 0 0),(7,vI ((32 * k:Nat):Int))],[(2,0,one ⟨4,[wg],0,false⟩),(3,0,one ⟨1,P.map cW,2,false⟩),(6,0,one ⟨4,[(EN H0 P k).cs],0,false⟩)],1⟩) n ?_ ?_
 ·refine aw ?_;exact⟨0,aQ _,rfl,rfl⟩
 rintro m z ⟨k,hk,rfl,rfl⟩;rcases bm k n with ab|bH
 ·have ae:((32 * k:Nat):Int)<(P.length:Int):=by omega
  have w4:IntKind.i64.wrap (((32 * k:Nat):Int)+32)=((32 * (k+1):Nat):Int):=by rw[aV (by omega)];omega
  have tT:((32 * k:Nat):Int)≤((32 * (k+1):Nat):Int)∧((32 * (k+1):Nat):Int)≤(P.length:Int):=by omega
  have h32:32 * (k+1) - 32 * k=32:=by omega
  have t7:∀(x:Option (aj × AV)),kQ (32 * k+32) P.length x=x:=fun x=>Gg (by omega)
  refine oe ae w4 tT h32 t7 ?_;refine cz (hd k ab) ?_;refine jm (agE _ _) w4 ?_;exact⟨_,by omega,k+1,ab,rfl,rfl⟩
 have hk:k=n:=by omega
 subst hk;have ae:¬((32 * k:Nat):Int)<(P.length:Int):=by omega
 exact er ae
theorem aaI (v:Nat) (h:v<18446744073709551616):aR Tryz.prog 148 [vU v] (vS (bA (low v 8))) []:=by
 have:=rC v h;rw[Fy]at this;exact this
theorem Oi (l:List UInt8) (a:Nat) (h:a+8≤l.length) (hl:l.length≤1000000):aR Tryz.prog 150 [vS (bA l),vI a] (vW (uM l a)) []:=by
 have:=ur (bA l) a (by rw[iU];omega) (by rw[iU];omega);rw[Ok,rH,←OB]at this;exact this
theorem ahF:(⟨#[128]⟩:ByteArray)=bA [128]:=rfl
theorem vO (t:ByteArray) (ht:t.size≤1000000000):aR Tryz.prog 97 [vS t] (.agg (fY t.data.toList).cs) []:=by
 refine aA qB false Tryz.f97 ?_;conv=>enter[1];reduce
 refine bf Tryz.f97 57 [.cell 2 39] (by kernel_rfl) (by decide +kernel) rfl ?_;have hL:=Bi t;refine aw ?_;refine b8 (fun h=>?_) (fun h=>?_)
 ·have h':20000<t.data.toList.length:=by have:=of_decide_eq_true h;omega
  simp -implicitDefEqProofs only[go_sem,h,fY,h'];rfl
 have h':¬20000<t.data.toList.length:=by have:=of_decide_eq_false h;omega
 refine aC h ?_;refine aq.intro (agG t (by omega)) ?_;have hb:=Nx t.data.toList;have hm:fY t.data.toList=CO t.data.toList:=if_neg h';unfold CO at hm;rw[hm];generalize bare t.data.toList=B at *;have hz:=Qr B.length;have w1:IntKind.i64.wrap ((B.length:Int)+9)=((B.length+9:Nat):Int):=by rw[aV (by omega)];rfl
 have w2:((B.length+9:Nat):Int).tmod 32=(((B.length+9)%32:Nat):Int):=by rw[Int.tmod_eq_emod_of_nonneg (by omega)];omega
 have w3:IntKind.i64.wrap (32 - (((B.length+9)%32:Nat):Int))=((32 - (B.length+9)%32:Nat):Int):=by rw[aV (by omega)];omega
 have w4:((32 - (B.length+9)%32:Nat):Int).tmod 32=((mj B.length:Nat):Int):=by rw[Int.tmod_eq_emod_of_nonneg (by omega)];unfold mj;omega
 have wv:IntKind.u64.wrap (B.length:Int)=(B.length:Int):=pT _ (by omega);have w5:IntKind.i64.wrap (((32 - (B.length+9)%32:Nat):Int))=((32 - (B.length+9)%32:Nat):Int):=aV (by omega);have pq:decide (((B.length+1:Nat):Int)>9223372036854775807)=false:=by simp;omega
 have hs2:decide (((B.length+1+mj B.length:Nat):Int)>9223372036854775807)=false:=by simp;omega
 have KP:decide (((B.length+1+mj B.length+8:Nat):Int)>9223372036854775807)=false:=by simp;omega
 simp -implicitDefEqProofs only[go_sem,iU,w1,w2,w3,w4,pq,ahF,ux,wv];refine aq.intro (agF (mj B.length) (by omega)) ?_;simp -implicitDefEqProofs only[go_sem,iU,hs2,ux,wv,List.length_append,List.length_replicate];refine aq.intro (aaI B.length (by omega)) ?_;simp -implicitDefEqProofs only[go_sem,iU,KP,ux,wv,List.length_append,List.length_replicate,F2];have hP:B++[128]++List.replicate (mj B.length) 0++low B.length 8=rX B:=rfl;have LL:=Qq B;have hPm:=JC B;rw[hP];generalize rX B=P at *;obtain⟨n,hn⟩:∃n,P.length/32=n:=⟨_,rfl⟩;rw[hn]at LL ⊢;refine cR (fun m z=>∃k:Nat,k≤n∧m=n - k∧z=⟨57,[(2,.ptr 2 0 [] 4 0 0),(4,vS (bA P)),(5,.ptr 5 0 [] 4 0 0),(6,vI ((32 * k:Nat):Int))],[(2,0,one ⟨4,[wg],0,false⟩),(5,0,one ⟨4,[(EN H0 P k).cs],0,false⟩)],1⟩) n ?_ ?_
 ·refine aw ?_;exact⟨0,aQ _,rfl,rfl⟩
 rintro m z ⟨k,hk,rfl,rfl⟩;rcases bm k n with ab|bH
 ·have ae:((32 * k:Nat):Int)<(P.length:Int):=by omega
  have w6:IntKind.i64.wrap (((32 * k:Nat):Int)+32)=((32 * (k+1):Nat):Int):=by rw[aV (by omega)];omega
  have w7:IntKind.i64.wrap (((32 * k:Nat):Int)+8)=((32 * k+8:Nat):Int):=by rw[aV (by omega)];omega
  have w8:IntKind.i64.wrap (((32 * k:Nat):Int)+16)=((32 * k+16:Nat):Int):=by rw[aV (by omega)];omega
  have w9:IntKind.i64.wrap (((32 * k:Nat):Int)+24)=((32 * k+24:Nat):Int):=by rw[aV (by omega)];omega
  simp -implicitDefEqProofs only[go_sem,iU,ae,w6,w7,w8,w9]
  repeat' first|(refine aq.intro (by first|exact Oi P _ (by omega) (by omega)|exact VJ _ (Az P (32 * k))) ?_;try simp -implicitDefEqProofs only[go_sem,w6])|(refine aD.intro (by first|exact Oi P _ (by omega) (by omega)|exact VJ _ (Az P (32 * k))) ?_;try simp -implicitDefEqProofs only[go_sem,w6])|(refine ew (fun h=>?_) (fun h=>?_)<;>try simp -implicitDefEqProofs only[go_sem,w6,h])|(refine b8 (fun h=>?_) (fun h=>?_)<;>try simp -implicitDefEqProofs only[go_sem,w6,h])
  exact⟨_,by omega,k+1,ab,rfl,rfl⟩
 have hk:k=n:=by omega
 subst hk;have ae:¬((32 * k:Nat):Int)<(P.length:Int):=by omega
 simp -implicitDefEqProofs only[go_sem,iU,ae]
theorem afN (t:ByteArray) (ht:t.size≤1000000):aR Tryz.prog 304 [vS t] (vS (bA (0::t.data.toList))) []:=by
 refine aA qB false Tryz.f304 ?_;conv=>enter[1];reduce
 refine bf Tryz.f304 5 [.tmp 2] (by kernel_rfl) (by decide +kernel) rfl ?_;have hs:decide ((((#[0]:Array UInt8).size+t.size:Nat):Int)>9223372036854775807)=false:=by simp;omega
 have e:(⟨#[0]⟩:ByteArray)++t=bA (0::t.data.toList):=AB (by simp[bA,ByteArray.data_append]);exact dk hs e
theorem agq (t:ByteArray) (ht:t.size≤1000000):aR Tryz.prog 198 [vS t] (vS (bA (0::t.data.toList))) []:=by
 refine aA qB false Tryz.f198 ?_;conv=>enter[1];reduce
 refine bf Tryz.f198 7 [.tmp 2] (by kernel_rfl) (by decide +kernel) rfl ?_;have hs:decide ((((#[0]:Array UInt8).size+t.size:Nat):Int)>9223372036854775807)=false:=by simp;omega
 have e:(⟨#[0]⟩:ByteArray)++t=bA (0::t.data.toList):=AB (by simp[bA,ByteArray.data_append]);exact dk hs e
def CR (b:ByteArray):BD:=fY (0::b.data.toList)
def rh (x y:BD):BD:=fY (1::(x.c9.bl++y.c9.bl))
theorem afV (t:ByteArray) (ht:t.size≤1000000):aR Tryz.prog 283 [vS t] (.agg (CR t).cs) []:=by
 refine aA qB false Tryz.f283 ?_;conv=>enter[1];reduce
 refine bf Tryz.f283 6 [.cell 2 39] (by kernel_rfl) (by decide +kernel) rfl ?_;have hh:=vN (bA (0::t.data.toList)) (by rw[iU,List.length_cons,Bi];omega);rw[rH]at hh;refine aw ?_;refine cz (afN t ht) ?_;refine aq.intro hh ?_;simp -implicitDefEqProofs only[go_sem,CR]
theorem agH (t:ByteArray) (ht:t.size≤1000000):aR Tryz.prog 140 [vS t] (.agg (CR t).cs) []:=by
 refine aA qB false Tryz.f140 ?_;conv=>enter[1];reduce
 refine bf Tryz.f140 6 [.cell 2 39] (by kernel_rfl) (by decide +kernel) rfl ?_;have hh:=vO (bA (0::t.data.toList)) (by rw[iU,List.length_cons,Bi];omega);rw[rH]at hh;refine aw ?_;refine cz (agq t ht) ?_;refine aq.intro hh ?_;simp -implicitDefEqProofs only[go_sem,CR]
theorem SY (x:BD):aR Tryz.prog 289 [.agg x.cs] (vS (bA x.c9.bl)) []:=by
 have:=U3 x.c9;rw[Nl]at this;exact this
theorem SX (x:BD):aR Tryz.prog 251 [.agg x.cs] (vS (bA x.c9.bl)) []:=GP x.c9 x.Mi
theorem afM (x y:BD):aR Tryz.prog 305 [.agg x.cs,.agg y.cs] (vS (bA (1::(x.c9.bl++y.c9.bl)))) []:=by
 refine aA qB false Tryz.f305 ?_;conv=>enter[1];reduce
 refine bf Tryz.f305 11 [.tmp 4] (by kernel_rfl) (by decide +kernel) rfl ?_;have b1:(⟨#[1]⟩:ByteArray)=bA [1]:=rfl;have s1:decide ((((#[1]:Array UInt8).size+32:Nat):Int)>9223372036854775807)=false:=rfl;have s2:decide (((1+32:Nat):Int)>9223372036854775807)=false:=rfl;have s3:decide (((1+32+32:Nat):Int)>9223372036854775807)=false:=rfl;refine aC b1 ?_;refine aq.intro (SY x) ?_;simp -implicitDefEqProofs only[go_sem,b1,iU,l9,s1,s2,ux,List.singleton_append];refine aq.intro (SY y) ?_;simp -implicitDefEqProofs only[go_sem,b1,iU,l9,s3,ux]
theorem agp (x y:BD):aR Tryz.prog 199 [.agg x.cs,.agg y.cs] (vS (bA (1::(x.c9.bl++y.c9.bl)))) []:=by
 refine aA qB false Tryz.f199 ?_;conv=>enter[1];reduce
 refine bf Tryz.f199 13 [.tmp 4] (by kernel_rfl) (by decide +kernel) rfl ?_;have b1:(⟨#[1]⟩:ByteArray)=bA [1]:=rfl;have s1:decide ((((#[1]:Array UInt8).size+32:Nat):Int)>9223372036854775807)=false:=rfl;have s2:decide (((1+32:Nat):Int)>9223372036854775807)=false:=rfl;have s3:decide (((1+32+32:Nat):Int)>9223372036854775807)=false:=rfl;refine aC b1 ?_;refine aq.intro (SX x) ?_;simp -implicitDefEqProofs only[go_sem,b1,iU,l9,s1,s2,ux,List.singleton_append];refine aq.intro (SX y) ?_;simp -implicitDefEqProofs only[go_sem,b1,iU,l9,s3,ux]
theorem MV (x y:BD):aR Tryz.prog 285 [.agg x.cs,.agg y.cs] (.agg (rh x y).cs) []:=by
 refine aA qB false Tryz.f285 ?_;conv=>enter[1];reduce
 refine bf Tryz.f285 9 [.cell 4 39] (by kernel_rfl) (by decide +kernel) rfl ?_;have hh:=vN (bA (1::(x.c9.bl++y.c9.bl))) (by rw[iU];simp[l9]);rw[rH]at hh;refine aw ?_;refine cz (afM x y) ?_;refine aq.intro hh ?_;simp -implicitDefEqProofs only[go_sem,rh]
theorem Nh (x y:BD):aR Tryz.prog 142 [.agg x.cs,.agg y.cs] (.agg (rh x y).cs) []:=by
 refine aA qB false Tryz.f142 ?_;conv=>enter[1];reduce
 refine bf Tryz.f142 9 [.cell 4 39] (by kernel_rfl) (by decide +kernel) rfl ?_;have hh:=vO (bA (1::(x.c9.bl++y.c9.bl))) (by rw[iU];simp[l9]);rw[rH]at hh;refine aw ?_;refine cz (agp x y) ?_;refine aq.intro hh ?_;simp -implicitDefEqProofs only[go_sem,rh]
end Go.Proofs.YtobpfkgabdeefaaGreat.E
