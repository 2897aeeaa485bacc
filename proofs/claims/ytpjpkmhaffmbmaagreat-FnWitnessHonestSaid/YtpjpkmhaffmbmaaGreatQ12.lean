/- Contracts: texts are hashed; Contracts: trees; Nodes of a growth, in plain lists: what falls into old and new; the old ones are the peaks; how many there are; Contracts: growths, in the program: what falls into old nodes and new ones; Records of disks, in plain data -/
import Derived.Test.YtpjpkmhaffmbmaaGreatQ9
import Derived.Test.YtpjpkmhaffmbmaaGreatQ7
section
namespace Go.Proofs.YtpjpkmhaffmbmaaGreat.E
open Go Go.RowKit
set_option maxHeartbeats 4000000
set_option maxRecDepth 10000
set_option linter.unusedSimpArgs false
set_option linter.unusedVariables false
set_option linter.unusedSectionVars false
def ziL:Dec:=⟨[(120,.cm [false,true,false])],[9,10,11],[22,30,37,38,39,40,49,56,76,80,87,141,143,159,237,250,259],false⟩
def zgK (b:UInt8):Bool:=((b.toNat:Int) != 255)
def zgL (l:List UInt8):List UInt8:=l.filter zgK
def zeX (n:Nat):Nat:=(32 - (n+9)%32)%32
def jS (l:List UInt8):List UInt8:=l++[128]++List.replicate (zeX l.length) 0++low l.length 8
def wAt (l:List UInt8) (a:Nat):W64:=BitVec.ofNat 64 (qb (l.drop a) 8)
def ziz (l:List UInt8) (a:Nat):BD:=⟨wAt l a,wAt l (a+8),wAt l (a+16),wAt l (a+24)⟩
def runH (s:BD) (l:List UInt8):Nat→BD
 | 0=>s
 | k+1=>mBlk (runH s l k) (ziz l (32 * k))
def H0:BD:=⟨13971524466476933880#64,3286059910148148165#64,8210247237615983910#64,11412903256176698835#64⟩
def zkq (l:List UInt8):BD:=runH H0 (jS (zgL l)) ((jS (zgL l)).length/32)
def zJ (l:List UInt8):BD:=if 20000<l.length then ⟨0#64,0#64,0#64,0#64⟩ else zkq l
theorem zgS (l:List UInt8):∀k,qb l k<256 ^ k
 | 0=>by simp [qb]
 | k+1=>by
  have:=zaM l k
  have:=zgS l k
  simp only [qb,Nat.pow_succ]
  omega
theorem ziZ (l:List UInt8) (a:Nat):(wAt l a).toNat=qb (l.drop a) 8:=by
 unfold wAt
 rw [BitVec.toNat_ofNat,Nat.mod_eq_of_lt (zgS _ 8)]
theorem zps (l:List UInt8) (n:Nat) {i:Nat} (h:i<n):bL (l.take n) i=bL l i:=by
 unfold bL
 rw [List.getD_eq_getElem?_getD,List.getD_eq_getElem?_getD,List.getElem?_take_of_lt h]
theorem zcZ (l:List UInt8) (n:Nat):∀{k:Nat},k≤n→qb (l.take n) k=qb l k
 | 0,_=>rfl
 | k+1,h=>by simp only [qb];rw [zcZ l n (by omega),zps l n (by omega)]
theorem zmu (l:List UInt8) (a:Nat):(ziK ((l.drop a).take 32)).cs=(ziz l a).cs:=by
 have h:∀j,j+8≤32→qb (((l.drop a).take 32).drop j) 8=(wAt l (a+j)).toNat:=by
  intro j hj
  rw [ziZ,List.drop_take,List.drop_drop,zcZ _ _ (by omega)]
 have h0:=h 0 (by omega)
 simp only [List.drop_zero,Nat.add_zero] at h0
 simp only [ziK,MDig.cs,BD.cs,ziz,h0,h 8 (by omega),h 16 (by omega),h 24 (by omega)]
theorem zrF (l:List UInt8) (a:Nat) (h:a+32≤l.length):CallR Tryz.prog 122 [.ro 1 (((l.drop a).take 32).map zy)] (.agg (ziz l a).cs) []:=by
 have:=znx ((l.drop a).take 32) (by simp;omega)
 rw [zmu] at this
 exact this
theorem zem (l:List UInt8):(zgL l).length≤l.length:=List.length_filter_le _ _
theorem zfu {l:List UInt8} {i:Nat} (h:i<l.length):zgL (l.take (i+1))=zgL (l.take i)++(if zgK l[i] then [l[i]] else []):=by
 unfold zgL
 rw [List.take_succ_eq_append_getElem h,List.filter_append]
 cases hb:zgK l[i]<;>simp [List.filter,hb]
theorem zjN (n:Nat):zeX n<32:=Nat.mod_lt _ (by decide)
theorem zaw (l:List UInt8):(jS l).length=l.length+9+zeX l.length:=by simp [jS,zT];omega
theorem zeW (l:List UInt8):(jS l).length=32 * ((jS l).length/32):=by rw [zaw];unfold zeX;omega
theorem zi8 {t:ByteArray} {i:Nat} (h:i<t.data.toList.length):(t.data[i]?).map (fun b=>AV.sc (.int .u8 (b.toNat:Int)))=some (.sc (.int .u8 ((t.data.toList[i].toNat:Nat):Int))):=by
 rw [←Array.getElem?_toList,List.getElem?_eq_getElem h];rfl
theorem zbF (t:ByteArray):t.data.toList.length=t.size:=by rw [Array.length_toList];rfl
theorem zfq (l:List UInt8) (b:UInt8):l.map zy++[[.sc (.int .u8 ((b.toNat:Nat):Int))]]=(l++[b]).map zy:=by simp [zy]
theorem zsp (t:ByteArray) (ht:t.size≤1000000):CallR Tryz.prog 115 [vS t] (vS (bA (zgL t.data.toList))) []:=by
 refine zl ziL false Tryz.f115 ?_
 conv=>enter [1];reduce
 refine jvR Tryz.f115 24 [.tmp 2] (by kernel_rfl) (by decide +kernel) rfl ?_
 have hL:=zbF t
 simp -implicitDefEqProofs only [go_sem]
 refine zX (fun m z=>∃i:Nat,i≤t.size∧m=t.size - i∧z=⟨24,[(0,vS t),(3,.blk 3 0 [] 1 0 (zgL (t.data.toList.take i)).length),(4,vI i)],[(3,0,one ⟨1,(zgL (t.data.toList.take i)).map zy,2,false⟩)],1⟩) t.size ?_ ?_
 ·simp -implicitDefEqProofs only [go_sem]
  exact ⟨0,Nat.zero_le _,rfl,rfl⟩
 ·rintro m z ⟨i,hi,rfl,rfl⟩
  rcases Nat.lt_or_ge i t.size with hlt | hge
  ·have hlt':(i:Int)<(t.size:Int):=by omega
   have hg:=zi8 (t:=t) (i:=i) (by omega)
   have hs:=zfu (l:=t.data.toList) (i:=i) (by omega)
   have hb:=zem (t.data.toList.take i)
   rw [List.length_take] at hb
   have w4:IntKind.i64.wrap ((i:Int)+1)=((i+1:Nat):Int):=by rw [wrS (by omega)];omega
   have ha:∀x,_:=fun x=>zK (E:=zy) (l:=zgL (t.data.toList.take i)) (xs:=[x]) (b:=1) (n:=10000000) (by simp;omega) (by omega) (by omega)
   generalize t.data.toList[i]=b at *
   simp -implicitDefEqProofs only [go_sem,hlt',hg]
   refine zi (fun h=>?_) (fun h=>?_)
   ·rw [show zgK b=true from h,if_pos rfl] at hs
    simp -implicitDefEqProofs only [go_sem,w4,hg,hlt',ha]
    exact ⟨_,by omega,i+1,hlt,rfl,by rw [hs,zfq];simp⟩
   ·rw [show zgK b=false from h,if_neg (by simp),List.append_nil] at hs
    simp -implicitDefEqProofs only [go_sem,w4]
    exact ⟨_,by omega,i+1,hlt,rfl,by rw [hs]⟩
  ·have hi:i=t.size:=by omega
   subst hi
   have hlt':¬((t.size:Int)<(t.size:Int)):=by omega
   simp -implicitDefEqProofs only [go_sem,hlt',xp]
   rw [←hL,List.take_length]
   rfl
theorem zso (n:Nat) (hn:n≤1000):CallR Tryz.prog 116 [vI n] (vS (bA (List.replicate n 0))) []:=by
 refine zl ziL false Tryz.f116 ?_
 conv=>enter [1];reduce
 refine jvR Tryz.f116 16 [.tmp 2] (by kernel_rfl) (by decide +kernel) rfl ?_
 simp -implicitDefEqProofs only [go_sem]
 refine zX (fun m z=>∃i:Nat,i≤n∧m=n - i∧z=⟨16,[(0,vI n),(3,.blk 3 0 [] 1 0 (List.replicate i (0:UInt8)).length),(4,vI i)],[(3,0,one ⟨1,(List.replicate i (0:UInt8)).map zy,2,false⟩)],1⟩) n ?_ ?_
 ·simp -implicitDefEqProofs only [go_sem]
  exact ⟨0,Nat.zero_le _,rfl,rfl⟩
 ·rintro m z ⟨i,hi,rfl,rfl⟩
  have hs:List.replicate (i+1) (0:UInt8)=List.replicate i 0++[0]:=List.replicate_succ'
  obtain ⟨X,hX0⟩:∃X,List.replicate i (0:UInt8)=X:=⟨_,rfl⟩
  have hX:X.length=i:=by rw [←hX0];exact List.length_replicate
  rw [hX0] at hs ⊢
  rcases Nat.lt_or_ge i n with hlt | hge
  ·have hlt':(i:Int)<(n:Int):=by omega
   have w4:IntKind.i64.wrap ((i:Int)+1)=((i+1:Nat):Int):=by rw [wrS (by omega)];omega
   have ha:∀x,_:=fun x=>zK (E:=zy) (l:=X) (xs:=[x]) (b:=1) (n:=10000000) (by simp;omega) (by omega) (by omega)
   simp -implicitDefEqProofs only [go_sem,hlt',w4,ha]
   exact ⟨_,by omega,i+1,hlt,rfl,by rw [hs];simp [zy]⟩
  ·have hi:i=n:=by omega
   have hlt':¬((i:Int)<(n:Int)):=by omega
   simp -implicitDefEqProofs only [go_sem,hlt',xp]
   rw [←hX0,hi]
   rfl
theorem H0_cs:H0.cs=[.sc (.int .u64 13971524466476933880),.sc (.int .u64 3286059910148148165),.sc (.int .u64 8210247237615983910),.sc (.int .u64 11412903256176698835)]:=rfl
theorem ziu (t:ByteArray) (ht:t.size≤1000000000):CallR Tryz.prog 55 [vS t] (.agg (zJ t.data.toList).cs) []:=by
 refine zl ziL false Tryz.f55 ?_
 conv=>enter [1];reduce
 refine jvR Tryz.f55 61 [.cell 2 25] (by kernel_rfl) (by decide +kernel) rfl ?_
 have hL:=zbF t
 simp -implicitDefEqProofs only [go_sem]
 refine zi (fun h=>?_) (fun h=>?_)
 ·have h':20000<t.data.toList.length:=by have:=of_decide_eq_true h;omega
  simp -implicitDefEqProofs only [go_sem,h,zJ,h']
  rfl
 ·have h':¬20000<t.data.toList.length:=by have:=of_decide_eq_false h;omega
  simp -implicitDefEqProofs only [go_sem,h]
  refine qv [(3,1)] (fun m z=>∃i:Nat,i≤t.size∧m=t.size - i∧z=⟨61,[(0,vS t),(2,.ptr 2 0 [] 4 0 0),(3,.blk 3 0 [] 1 0 (zgL (t.data.toList.take i)).length),(4,vI i)],[(2,0,one ⟨4,[zDg],0,false⟩),(3,0,one ⟨1,(zgL (t.data.toList.take i)).map zy,2,false⟩)],1⟩) t.size ?_ ?_
  ·simp -implicitDefEqProofs only [go_sem]
   exact ⟨0,Nat.zero_le _,rfl,rfl⟩
  ·rintro m z ⟨i,hi,rfl,rfl⟩
   have hb:=zem (t.data.toList.take i)
   rw [List.length_take] at hb
   have ha:∀x,_:=fun x=>zK (E:=zy) (l:=zgL (t.data.toList.take i)) (xs:=[x]) (b:=1) (n:=10000000) (by simp;omega) (by omega) (by omega)
   rcases Nat.lt_or_ge i t.size with hlt | hge
   ·have hlt':(i:Int)<(t.size:Int):=by omega
    have hg:=zi8 (t:=t) (i:=i) (by omega)
    have hs:=zfu (l:=t.data.toList) (i:=i) (by omega)
    have w4:IntKind.i64.wrap ((i:Int)+1)=((i+1:Nat):Int):=by rw [wrS (by omega)];omega
    generalize t.data.toList[i]=b at *
    simp -implicitDefEqProofs only [go_sem,hlt',hg]
    refine zi (fun h=>?_) (fun h=>?_)
    ·rw [show zgK b=true from h,if_pos rfl] at hs
     simp -implicitDefEqProofs only [go_sem,w4,hg,hlt',ha]
     exact ⟨_,by omega,i+1,hlt,rfl,by rw [hs,zfq];simp⟩
    ·rw [show zgK b=false from h,if_neg (by simp),List.append_nil] at hs
     simp -implicitDefEqProofs only [go_sem,w4]
     exact ⟨_,by omega,i+1,hlt,rfl,by rw [hs]⟩
   ·have hi:i=t.size:=by omega
    subst hi
    have hlt':¬((t.size:Int)<(t.size:Int)):=by omega
    have hT:t.data.toList.take t.size=t.data.toList:=by rw [←hL,List.take_length]
    rw [hT] at ha hb ⊢
    have hm:zJ t.data.toList=zkq t.data.toList:=if_neg h'
    unfold zkq at hm
    rw [hm]
    clear hT hm
    generalize zgL t.data.toList=B at *
    have wv:IntKind.u64.wrap (B.length:Int)=(B.length:Int):=yF _ (by omega)
    simp -implicitDefEqProofs only [go_sem,hlt',ha,wv]
    refine zX (fun m z=>∃(j:Nat) (X:List UInt8),j≤zeX B.length∧X=B++[128]++List.replicate j 0∧m=zeX B.length - j∧z=⟨61,[(2,.ptr 2 0 [] 4 0 0),(3,.blk 3 0 [] 1 0 X.length),(5,.sc (.int .u64 B.length))],[(2,0,one ⟨4,[zDg],0,false⟩),(3,0,one ⟨1,X.map zy,2,false⟩)],1⟩) (zeX B.length) ?_ ?_
    ·simp -implicitDefEqProofs only [go_sem]
     exact ⟨0,B++[128],Nat.zero_le _,by simp,rfl,by simp [zy]⟩
    ·rintro m z ⟨j,X,hj,hX,rfl,rfl⟩
     have hXl:X.length=B.length+1+j:=by rw [hX];simp;omega
     have hz:=zjN B.length
     have ha:∀x,_:=fun x=>zK (E:=zy) (l:=X) (xs:=[x]) (b:=1) (n:=10000000) (by simp;omega) (by omega) (by omega)
     have tm:((X.length:Nat):Int).tmod 32=((X.length%32:Nat):Int):=by rw [Int.tmod_eq_emod_of_nonneg (by omega)];omega
     rcases Nat.lt_or_ge j (zeX B.length) with hlt | hge
     ·have hne:(((X.length%32:Nat):Int) != 24)=true:=by rw [bne_iff_ne];unfold zeX at hlt;omega
      simp -implicitDefEqProofs only [go_sem,tm,hne,ha]
      exact ⟨_,by omega,j+1,X++[0],by omega,by rw [hX,List.replicate_succ',List.append_assoc],rfl,by simp [zy]⟩
     ·have hj:j=zeX B.length:=by omega
      have hne:(((X.length%32:Nat):Int) != 24)=false:=by rw [bne_eq_false_iff_eq];unfold zeX at hj;omega
      simp -implicitDefEqProofs only [go_sem,tm,hne]
      refine WantM.intro (za5 X B.length (by omega)) ?_
      have hP:X++low B.length 8=jS B:=by rw [hX,hj];rfl
      have hPl:=zeW B
      have hPm:=zaw B
      rw [hP]
      generalize jS B=P at *
      obtain ⟨n,hn⟩:∃n,P.length/32=n:=⟨_,rfl⟩
      rw [hn] at hPl ⊢
      have hd:=fun k (hk:k<n)=>zrF P (32 * k) (by omega)
      simp -implicitDefEqProofs only [go_sem]
      refine zX (fun m z=>∃k:Nat,k≤n∧m=n - k∧z=⟨61,[(2,.ptr 2 0 [] 4 0 0),(3,.blk 3 0 [] 1 0 P.length),(6,.ptr 6 0 [] 4 0 0),(7,vI ((32 * k:Nat):Int))],[(2,0,one ⟨4,[zDg],0,false⟩),(3,0,one ⟨1,P.map zy,2,false⟩),(6,0,one ⟨4,[(runH H0 P k).cs],0,false⟩)],1⟩) n ?_ ?_
      ·simp -implicitDefEqProofs only [go_sem]
       exact ⟨0,Nat.zero_le _,rfl,rfl⟩
      ·rintro m z ⟨k,hk,rfl,rfl⟩
       rcases Nat.lt_or_ge k n with hlt | hge
       ·have hlt':((32 * k:Nat):Int)<(P.length:Int):=by omega
        have w4:IntKind.i64.wrap (((32 * k:Nat):Int)+32)=((32 * (k+1):Nat):Int):=by rw [wrS (by omega)];omega
        have hsl:((32 * k:Nat):Int)≤((32 * (k+1):Nat):Int)∧((32 * (k+1):Nat):Int)≤(P.length:Int):=by omega
        have h32:32 * (k+1) - 32 * k=32:=by omega
        have hif:∀(x:Option (Sig × AV)),ziJ (32 * k+32) P.length x=x:=fun x=>zho (by omega)
        simp -implicitDefEqProofs only [go_sem,hlt',w4,hsl,h32,hif]
        refine Want.intro (hd k hlt) ?_
        simp -implicitDefEqProofs only [go_sem]
        refine Want.intro (zsm _ _) ?_
        simp -implicitDefEqProofs only [go_sem,w4]
        exact ⟨_,by omega,k+1,hlt,rfl,rfl⟩
       ·have hk:k=n:=by omega
        subst hk
        have hlt':¬((32 * k:Nat):Int)<(P.length:Int):=by omega
        simp -implicitDefEqProofs only [go_sem,hlt']
theorem zqJ (v:Nat) (h:v<18446744073709551616):CallR Tryz.prog 117 [vU v] (vS (bA (low v 8))) []:=by
 have:=jx v h
 rw [zdV] at this
 exact this
theorem zmO (l:List UInt8) (a:Nat) (h:a+8≤l.length) (hl:l.length≤1000000):CallR Tryz.prog 119 [vS (bA l),vI a] (vW (wAt l a)) []:=by
 have:=zah (bA l) a (by rw [zU];omega) (by rw [zU];omega)
 rw [ziP,xQ,←ziZ] at this
 exact this
theorem b128:(⟨#[128]⟩:ByteArray)=bA [128]:=rfl
theorem zfp (t:ByteArray) (ht:t.size≤1000000000):CallR Tryz.prog 53 [vS t] (.agg (zJ t.data.toList).cs) []:=by
 refine zl ziL false Tryz.f53 ?_
 conv=>enter [1];reduce
 refine jvR Tryz.f53 57 [.cell 2 25] (by kernel_rfl) (by decide +kernel) rfl ?_
 have hL:=zbF t
 simp -implicitDefEqProofs only [go_sem]
 refine zi (fun h=>?_) (fun h=>?_)
 ·have h':20000<t.data.toList.length:=by have:=of_decide_eq_true h;omega
  simp -implicitDefEqProofs only [go_sem,h,zJ,h']
  rfl
 ·have h':¬20000<t.data.toList.length:=by have:=of_decide_eq_false h;omega
  simp -implicitDefEqProofs only [go_sem,h]
  refine Want.intro (zsp t (by omega)) ?_
  have hb:=zem t.data.toList
  have hm:zJ t.data.toList=zkq t.data.toList:=if_neg h'
  unfold zkq at hm
  rw [hm]
  generalize zgL t.data.toList=B at *
  have hz:=zjN B.length
  have w1:IntKind.i64.wrap ((B.length:Int)+9)=((B.length+9:Nat):Int):=by rw [wrS (by omega)];rfl
  have w2:((B.length+9:Nat):Int).tmod 32=(((B.length+9)%32:Nat):Int):=by rw [Int.tmod_eq_emod_of_nonneg (by omega)];omega
  have w3:IntKind.i64.wrap (32 - (((B.length+9)%32:Nat):Int))=((32 - (B.length+9)%32:Nat):Int):=by rw [wrS (by omega)];omega
  have w4:((32 - (B.length+9)%32:Nat):Int).tmod 32=((zeX B.length:Nat):Int):=by rw [Int.tmod_eq_emod_of_nonneg (by omega)];unfold zeX;omega
  have wv:IntKind.u64.wrap (B.length:Int)=(B.length:Int):=yF _ (by omega)
  have w5:IntKind.i64.wrap (((32 - (B.length+9)%32:Nat):Int))=((32 - (B.length+9)%32:Nat):Int):=wrS (by omega)
  have hs1:decide (((B.length+1:Nat):Int)>9223372036854775807)=false:=by simp;omega
  have hs2:decide (((B.length+1+zeX B.length:Nat):Int)>9223372036854775807)=false:=by simp;omega
  have hs3:decide (((B.length+1+zeX B.length+8:Nat):Int)>9223372036854775807)=false:=by simp;omega
  simp -implicitDefEqProofs only [go_sem,zU,w1,w2,w3,w4,hs1,b128,zai,wv]
  refine Want.intro (zso (zeX B.length) (by omega)) ?_
  simp -implicitDefEqProofs only [go_sem,zU,hs2,zai,wv,List.length_append,List.length_replicate]
  refine Want.intro (zqJ B.length (by omega)) ?_
  simp -implicitDefEqProofs only [go_sem,zU,hs3,zai,wv,List.length_append,List.length_replicate,low8]
  have hP:B++[128]++List.replicate (zeX B.length) 0++low B.length 8=jS B:=rfl
  have hPl:=zeW B
  have hPm:=zaw B
  rw [hP]
  generalize jS B=P at *
  obtain ⟨n,hn⟩:∃n,P.length/32=n:=⟨_,rfl⟩
  rw [hn] at hPl ⊢
  refine zX (fun m z=>∃k:Nat,k≤n∧m=n - k∧z=⟨57,[(2,.ptr 2 0 [] 4 0 0),(4,vS (bA P)),(5,.ptr 5 0 [] 4 0 0),(6,vI ((32 * k:Nat):Int))],[(2,0,one ⟨4,[zDg],0,false⟩),(5,0,one ⟨4,[(runH H0 P k).cs],0,false⟩)],1⟩) n ?_ ?_
  ·simp -implicitDefEqProofs only [go_sem]
   exact ⟨0,Nat.zero_le _,rfl,rfl⟩
  ·rintro m z ⟨k,hk,rfl,rfl⟩
   rcases Nat.lt_or_ge k n with hlt | hge
   ·have hlt':((32 * k:Nat):Int)<(P.length:Int):=by omega
    have w6:IntKind.i64.wrap (((32 * k:Nat):Int)+32)=((32 * (k+1):Nat):Int):=by rw [wrS (by omega)];omega
    have w7:IntKind.i64.wrap (((32 * k:Nat):Int)+8)=((32 * k+8:Nat):Int):=by rw [wrS (by omega)];omega
    have w8:IntKind.i64.wrap (((32 * k:Nat):Int)+16)=((32 * k+16:Nat):Int):=by rw [wrS (by omega)];omega
    have w9:IntKind.i64.wrap (((32 * k:Nat):Int)+24)=((32 * k+24:Nat):Int):=by rw [wrS (by omega)];omega
    simp -implicitDefEqProofs only [go_sem,zU,hlt',w6,w7,w8,w9]
    repeat' first | (refine Want.intro (by first | exact zmO P _ (by omega) (by omega) | exact zny _ (ziz P (32 * k))) ?_;try simp -implicitDefEqProofs only [go_sem,w6]) | (refine WantM.intro (by first | exact zmO P _ (by omega) (by omega) | exact zny _ (ziz P (32 * k))) ?_;try simp -implicitDefEqProofs only [go_sem,w6]) | (refine zm (fun h=>?_) (fun h=>?_)<;>try simp -implicitDefEqProofs only [go_sem,w6,h]) | (refine zi (fun h=>?_) (fun h=>?_)<;>try simp -implicitDefEqProofs only [go_sem,w6,h])
    exact ⟨_,by omega,k+1,hlt,rfl,rfl⟩
   ·have hk:k=n:=by omega
    subst hk
    have hlt':¬((32 * k:Nat):Int)<(P.length:Int):=by omega
    simp -implicitDefEqProofs only [go_sem,zU,hlt']
theorem zr1 (t:ByteArray) (ht:t.size≤1000000):CallR Tryz.prog 195 [vS t] (vS (bA (0::t.data.toList))) []:=by
 refine zl ziL false Tryz.f195 ?_
 conv=>enter [1];reduce
 refine jvR Tryz.f195 5 [.tmp 2] (by kernel_rfl) (by decide +kernel) rfl ?_
 have hs:decide ((((#[0]:Array UInt8).size+t.size:Nat):Int)>9223372036854775807)=false:=by simp;omega
 have e:(⟨#[0]⟩:ByteArray)++t=bA (0::t.data.toList):=zdG (by simp [bA,ByteArray.data_append])
 simp -implicitDefEqProofs only [go_sem,hs,e]
theorem zr8 (t:ByteArray) (ht:t.size≤1000000):CallR Tryz.prog 165 [vS t] (vS (bA (0::t.data.toList))) []:=by
 refine zl ziL false Tryz.f165 ?_
 conv=>enter [1];reduce
 refine jvR Tryz.f165 7 [.tmp 2] (by kernel_rfl) (by decide +kernel) rfl ?_
 have hs:decide ((((#[0]:Array UInt8).size+t.size:Nat):Int)>9223372036854775807)=false:=by simp;omega
 have e:(⟨#[0]⟩:ByteArray)++t=bA (0::t.data.toList):=zdG (by simp [bA,ByteArray.data_append])
 simp -implicitDefEqProofs only [go_sem,hs,e]
def zks (b:ByteArray):BD:=zJ (0::b.data.toList)
def zck (x y:BD):BD:=zJ (1::(x.dig.bl++y.dig.bl))
theorem c191_c (t:ByteArray) (ht:t.size≤1000000):CallR Tryz.prog 191 [vS t] (.agg (zks t).cs) []:=by
 refine zl ziL false Tryz.f191 ?_
 conv=>enter [1];reduce
 refine jvR Tryz.f191 6 [.cell 2 25] (by kernel_rfl) (by decide +kernel) rfl ?_
 have hh:=ziu (bA (0::t.data.toList)) (by rw [zU,List.length_cons,zbF];omega)
 rw [xQ] at hh
 simp -implicitDefEqProofs only [go_sem]
 refine Want.intro (zr1 t ht) ?_
 simp -implicitDefEqProofs only [go_sem]
 refine Want.intro hh ?_
 simp -implicitDefEqProofs only [go_sem,zks]
theorem zsh (t:ByteArray) (ht:t.size≤1000000):CallR Tryz.prog 132 [vS t] (.agg (zks t).cs) []:=by
 refine zl ziL false Tryz.f132 ?_
 conv=>enter [1];reduce
 refine jvR Tryz.f132 6 [.cell 2 25] (by kernel_rfl) (by decide +kernel) rfl ?_
 have hh:=zfp (bA (0::t.data.toList)) (by rw [zU,List.length_cons,zbF];omega)
 rw [xQ] at hh
 simp -implicitDefEqProofs only [go_sem]
 refine Want.intro (zr8 t ht) ?_
 simp -implicitDefEqProofs only [go_sem]
 refine Want.intro hh ?_
 simp -implicitDefEqProofs only [go_sem,zks]
theorem zrg (x:BD):CallR Tryz.prog 199 [.agg x.cs] (vS (bA x.dig.bl)) []:=by
 have:=znm x.dig
 rw [zei] at this
 exact this
theorem zrf (x:BD):CallR Tryz.prog 77 [.agg x.cs] (vS (bA x.dig.bl)) []:=zmh x.dig x.dig_ok
theorem zr2 (x y:BD):CallR Tryz.prog 194 [.agg x.cs,.agg y.cs] (vS (bA (1::(x.dig.bl++y.dig.bl)))) []:=by
 refine zl ziL false Tryz.f194 ?_
 conv=>enter [1];reduce
 refine jvR Tryz.f194 11 [.tmp 4] (by kernel_rfl) (by decide +kernel) rfl ?_
 have b1:(⟨#[1]⟩:ByteArray)=bA [1]:=rfl
 have s1:decide ((((#[1]:Array UInt8).size+32:Nat):Int)>9223372036854775807)=false:=rfl
 have s2:decide (((1+32:Nat):Int)>9223372036854775807)=false:=rfl
 have s3:decide (((1+32+32:Nat):Int)>9223372036854775807)=false:=rfl
 simp -implicitDefEqProofs only [go_sem,b1]
 refine Want.intro (zrg x) ?_
 simp -implicitDefEqProofs only [go_sem,b1,zU,xm,s1,s2,zai,List.singleton_append]
 refine Want.intro (zrg y) ?_
 simp -implicitDefEqProofs only [go_sem,b1,zU,xm,s3,zai]
theorem zsa (x y:BD):CallR Tryz.prog 163 [.agg x.cs,.agg y.cs] (vS (bA (1::(x.dig.bl++y.dig.bl)))) []:=by
 refine zl ziL false Tryz.f163 ?_
 conv=>enter [1];reduce
 refine jvR Tryz.f163 13 [.tmp 4] (by kernel_rfl) (by decide +kernel) rfl ?_
 have b1:(⟨#[1]⟩:ByteArray)=bA [1]:=rfl
 have s1:decide ((((#[1]:Array UInt8).size+32:Nat):Int)>9223372036854775807)=false:=rfl
 have s2:decide (((1+32:Nat):Int)>9223372036854775807)=false:=rfl
 have s3:decide (((1+32+32:Nat):Int)>9223372036854775807)=false:=rfl
 simp -implicitDefEqProofs only [go_sem,b1]
 refine Want.intro (zrf x) ?_
 simp -implicitDefEqProofs only [go_sem,b1,zU,xm,s1,s2,zai,List.singleton_append]
 refine Want.intro (zrf y) ?_
 simp -implicitDefEqProofs only [go_sem,b1,zU,xm,s3,zai]
theorem zno (x y:BD):CallR Tryz.prog 186 [.agg x.cs,.agg y.cs] (.agg (zck x y).cs) []:=by
 refine zl ziL false Tryz.f186 ?_
 conv=>enter [1];reduce
 refine jvR Tryz.f186 9 [.cell 4 25] (by kernel_rfl) (by decide +kernel) rfl ?_
 have hh:=ziu (bA (1::(x.dig.bl++y.dig.bl))) (by rw [zU];simp [xm])
 rw [xQ] at hh
 simp -implicitDefEqProofs only [go_sem]
 refine Want.intro (zr2 x y) ?_
 simp -implicitDefEqProofs only [go_sem]
 refine Want.intro hh ?_
 simp -implicitDefEqProofs only [go_sem,zck]
theorem zkW (x y:BD):CallR Tryz.prog 124 [.agg x.cs,.agg y.cs] (.agg (zck x y).cs) []:=by
 refine zl ziL false Tryz.f124 ?_
 conv=>enter [1];reduce
 refine jvR Tryz.f124 9 [.cell 4 25] (by kernel_rfl) (by decide +kernel) rfl ?_
 have hh:=zfp (bA (1::(x.dig.bl++y.dig.bl))) (by rw [zU];simp [xm])
 rw [xQ] at hh
 simp -implicitDefEqProofs only [go_sem]
 refine Want.intro (zsa x y) ?_
 simp -implicitDefEqProofs only [go_sem]
 refine Want.intro hh ?_
 simp -implicitDefEqProofs only [go_sem,zck]
end Go.Proofs.YtpjpkmhaffmbmaaGreat.E
end
section
namespace Go.Proofs.YtpjpkmhaffmbmaaGreat.E
open Go Go.RowKit
set_option maxHeartbeats 4000000
set_option maxRecDepth 10000
set_option linter.unusedSimpArgs false
set_option linter.unusedVariables false
set_option linter.unusedSectionVars false
def zrI:Dec:=⟨[],[9,10,11],[22,30,37,38,39,40,49,56,76,80,87,141,143,159,237,250,259],false⟩
def zI (l:List ByteArray):Bool:=decide ((l.length:Int)≤256)&&zt l
def spl (n:Nat):Nat:=2 ^ (n - 1).log2
theorem zjc {n j:Nat} (h1:2 ^ j<n) (h2:n≤2 * 2 ^ j):spl n=2 ^ j:=by
 unfold spl
 rw [(Nat.log2_eq_iff (k:=j) (by omega)).2 ⟨by omega,by rw [Nat.pow_succ];omega⟩]
theorem xJ {n:Nat} (h:2≤n):1≤spl n∧spl n<n:=by
 have h1:n - 1≠0:=by omega
 have:=(Nat.log2_eq_iff (k:=(n - 1).log2) h1).1 rfl
 have h3:0<2 ^ (n - 1).log2:=Nat.pow_pos (by omega)
 unfold spl
 omega
theorem zr3 (n:Nat) (h:2≤n) (h2:n≤256):CallR Tryz.prog 193 [vI n] (vI (spl n)) []:=by
 refine zl zrI false Tryz.f193 ?_
 conv=>enter [1];reduce
 refine jvR Tryz.f193 14 [.tmp 2] (by kernel_rfl) (by decide +kernel) rfl ?_
 simp -implicitDefEqProofs only [go_sem]
 refine Want.intro (qy _ _ _) ?_
 have hin:mIn (n:Int) 2 256=true:=by simp [mIn];omega
 simp -implicitDefEqProofs only [go_sem,hin,zb,za]
 refine zX (fun m s=>∃j:Nat,2 ^ j<n∧m=n - 2 ^ j∧s=⟨14,[(0,vI n),(3,vI ((2 ^ j:Nat):Int))],[],1⟩) (n - 1) ?_ ?_
 ·simp -implicitDefEqProofs only [go_sem]
  exact ⟨0,by simp;omega,rfl,rfl⟩
 ·rintro m s ⟨j,hj,rfl,rfl⟩
  have e:2 ^ (j+1)=2 * 2 ^ j:=by rw [Nat.pow_succ];omega
  have hp:0<2 ^ j:=Nat.pow_pos (by omega)
  have hS:=fun h2=>zjc (n:=n) (j:=j) hj h2
  generalize hq:2 ^ j=q at *
  have w1:IntKind.i64.wrap (2 * (q:Int))=((2 * q:Nat):Int):=by rw [wrS (by omega)];omega
  have w2:IntKind.i64.wrap ((q:Int) * 2)=((2 * q:Nat):Int):=by rw [wrS (by omega)];omega
  rcases Nat.lt_or_ge (2 * q) n with hlt | hge
  ·have hlt':((2 * q:Nat):Int)<(n:Int):=by omega
   simp -implicitDefEqProofs only [go_sem,w1,hlt',w2]
   exact ⟨_,by omega,j+1,by omega,rfl,by rw [e]⟩
  ·have hlt':¬((2 * q:Nat):Int)<(n:Int):=by omega
   simp -implicitDefEqProofs only [go_sem,w1,hlt']
   rw [hS (by omega)]
theorem zhA (n:Nat) (h:2≤n) (h2:n≤256):CallR Tryz.prog 126 [vI n] (vI (spl n)) []:=by
 refine zl zrI false Tryz.f126 ?_
 conv=>enter [1];reduce
 refine jvR Tryz.f126 14 [.tmp 2] (by kernel_rfl) (by decide +kernel) rfl ?_
 simp -implicitDefEqProofs only [go_sem]
 refine Want.intro (zaK _ _ _) ?_
 have hin:mIn (n:Int) 2 256=true:=by simp [mIn];omega
 simp -implicitDefEqProofs only [go_sem,hin,zb,za]
 refine zX (fun m s=>∃j:Nat,2 ^ j<n∧m=n - 2 ^ j∧s=⟨14,[(0,vI n),(3,vI ((2 ^ j:Nat):Int))],[],1⟩) (n - 1) ?_ ?_
 ·simp -implicitDefEqProofs only [go_sem]
  exact ⟨0,by simp;omega,rfl,rfl⟩
 ·rintro m s ⟨j,hj,rfl,rfl⟩
  have e:2 ^ (j+1)=2 * 2 ^ j:=by rw [Nat.pow_succ];omega
  have hp:0<2 ^ j:=Nat.pow_pos (by omega)
  have hS:=fun h2=>zjc (n:=n) (j:=j) hj h2
  generalize hq:2 ^ j=q at *
  have w1:IntKind.i64.wrap (2 * (q:Int))=((2 * q:Nat):Int):=by rw [wrS (by omega)];omega
  have w2:IntKind.i64.wrap ((q:Int) * 2)=((2 * q:Nat):Int):=by rw [wrS (by omega)];omega
  rcases Nat.lt_or_ge (2 * q) n with hlt | hge
  ·have hlt':((2 * q:Nat):Int)<(n:Int):=by omega
   simp -implicitDefEqProofs only [go_sem,w1,hlt',w2]
   exact ⟨_,by omega,j+1,by omega,rfl,by rw [e]⟩
  ·have hlt':¬((2 * q:Nat):Int)<(n:Int):=by omega
   simp -implicitDefEqProofs only [go_sem,w1,hlt']
   rw [hS (by omega)]
def xi (l:List ByteArray):BD:=
 match l with
 | []=>zJ []
 | [a]=>zks a
 | a::b::l=>zck (xi ((a::b::l).take (spl (l.length+2)))) (xi ((a::b::l).drop (spl (l.length+2))))
termination_by l.length
decreasing_by
 all_goals
  have:=xJ (n:=l.length+2) (by omega)
  simp only [List.length_take,List.length_drop,List.length_cons]
  omega
theorem zkR (l:List ByteArray) (hl:l.length≤maxLen):CallR Tryz.prog 21 [.ro 1 (l.map zw)] (vB (zI l)) []:=by
 refine zl zrI false Tryz.f21 ?_
 conv=>enter [1];reduce
 refine jvR Tryz.f21 19 [.tmp 2] (by kernel_rfl) (by decide +kernel) rfl ?_
 unfold zI
 simp -implicitDefEqProofs only [go_sem]
 refine zi (fun h=>?_) (fun h=>?_)
 ·simp -implicitDefEqProofs only [go_sem,h]
  have:¬l.length≤256:=by have:=of_decide_eq_true h;omega
  simp
  omega
 ·have h256:l.length≤256:=by have:=of_decide_eq_false h;omega
  simp -implicitDefEqProofs only [go_sem,h]
  refine zX (fun m s=>∃i:Nat,i≤l.length∧m=l.length - i∧zt (l.drop i)=zt l∧s=⟨19,[(0,.ro 1 (l.map zw)),(3,vI i)],[],1⟩) l.length ?_ ?_
  ·simp -implicitDefEqProofs only [go_sem]
   exact ⟨0,Nat.zero_le _,rfl,rfl,rfl⟩
  ·rintro m s ⟨i,hi,rfl,hx,rfl⟩
   have h2:(l.length:Int)≤256:=by omega
   rcases Nat.lt_or_ge i l.length with hlt | hge
   ·have hlt':(i:Int)<(l.length:Int):=by omega
    have hg:l[i]?=some l[i]:=List.getElem?_eq_getElem hlt
    have hw:=zG hlt hl
    rw [qO hlt] at hx
    simp -implicitDefEqProofs only [go_sem,hlt',hg]
    refine zi (fun h=>?_) (fun h=>?_)
    ·simp -implicitDefEqProofs only [go_sem,h]
     have:¬l[i].size≤40:=by have:=of_decide_eq_true h;omega
     rw [←hx]
     simp [this]
    ·simp -implicitDefEqProofs only [go_sem,h,hw]
     have:l[i].size≤40:=by have:=of_decide_eq_false h;omega
     exact ⟨_,by omega,i+1,hlt,rfl,by rw [←hx];simp [this],rfl⟩
   ·have hi:i=l.length:=by omega
    subst hi
    have hlt':¬((l.length:Int)<(l.length:Int)):=by omega
    rw [List.drop_length] at hx
    simp -implicitDefEqProofs only [go_sem,hlt']
    rw [←hx]
    simp [zt]
    omega
theorem yK {l:List ByteArray} (h:zI l=true):l.length≤256∧∀b∈l,b.size≤40:=by
 simp only [zI,Bool.and_eq_true,decide_eq_true_eq,zt,List.all_eq_true] at h
 exact ⟨by omega,h.2⟩
theorem zb7 {l:List ByteArray} (h:2≤l.length):xi l=zck (xi (l.take (spl l.length))) (xi (l.drop (spl l.length))):=by
 match l,h with
 | a::b::l,_=>rw [xi];rfl
theorem z0:((0:Nat):Int)=0:=rfl
theorem z1:((1:Nat):Int)=1:=rfl
theorem zo8:∀(n:Nat) (l:List ByteArray),l.length≤n→l.length≤256→(∀b∈l,b.size≤1000)→CallR Tryz.prog 74 [.ro 1 (l.map zw)] (.agg (xi l).cs) []
 | 0,l,hn,h2,hb=>by
  have:l=[]:=List.eq_nil_of_length_eq_zero (by omega)
  subst this
  refine zl zrI false Tryz.f74 ?_
  conv=>enter [1];reduce
  refine jvR Tryz.f74 27 [.cell 2 25] (by kernel_rfl) (by decide +kernel) rfl ?_
  have h0:=zfp ⟨#[]⟩ (by decide)
  simp -implicitDefEqProofs only [go_sem,z0]
  refine Want.intro h0 ?_
  simp -implicitDefEqProofs only [go_sem,xi]
  try rfl
 | n+1,l,hn,h2,hb=>by
  refine zl zrI false Tryz.f74 ?_
  conv=>enter [1];reduce
  refine jvR Tryz.f74 27 [.cell 2 25] (by kernel_rfl) (by decide +kernel) rfl ?_
  match l,hn,h2,hb with
  | [],_,_,_=>
   have h0:=zfp ⟨#[]⟩ (by decide)
   simp -implicitDefEqProofs only [go_sem,z0]
   refine Want.intro h0 ?_
   simp -implicitDefEqProofs only [go_sem,xi]
   try rfl
  | [a],_,_,hb=>
   have ha:=hb a (by simp)
   simp -implicitDefEqProofs only [go_sem,z1]
   refine Want.intro (zsh a (by omega)) ?_
   simp -implicitDefEqProofs only [go_sem,xi]
  | a::b::l,hn,h2,hb=>
   obtain ⟨L,hL⟩:∃L,a::b::l=L:=⟨_,rfl⟩
   rw [hL] at hn h2 hb ⊢
   have h3:2≤L.length:=by rw [←hL];simp
   rw [zb7 h3]
   have hs:=xJ h3
   have e0:((L.length:Int)==0)=false:=by rw [beq_eq_false_iff_ne];omega
   have e1:((L.length:Int)==1)=false:=by rw [beq_eq_false_iff_ne];omega
   have l1:(L.take (spl L.length)).length≤n∧(L.take (spl L.length)).length≤256:=by rw [List.length_take];omega
   have l2:(L.drop (spl L.length)).length≤n∧(L.drop (spl L.length)).length≤256:=by rw [List.length_drop];omega
   have hT:=zo8 n (L.take (spl L.length)) l1.1 l1.2 (fun b h=>hb b (List.mem_of_mem_take h))
   have hD:=zo8 n (L.drop (spl L.length)) l2.1 l2.2 (fun b h=>hb b (List.mem_of_mem_drop h))
   simp -implicitDefEqProofs only [go_sem,e0,e1,za]
   refine Want.intro (zhA L.length h3 h2) ?_
   generalize spl L.length=k at *
   have k1:(0:Int)≤(k:Int)∧(k:Int)≤(L.length:Int):=by omega
   have k2:(k:Int)≤(L.length:Int)∧(L.length:Int)≤(L.length:Int):=by omega
   have k3:List.take (L.length - k) (List.drop k L)=List.drop k L:=List.take_of_length_le (by simp)
   simp -implicitDefEqProofs only [go_sem,k1,k2,k3,Nat.sub_zero,List.drop_zero]
   refine Want.intro hT ?_
   simp -implicitDefEqProofs only [go_sem]
   refine Want.intro hD ?_
   simp -implicitDefEqProofs only [go_sem]
   refine Want.intro (zkW _ _) ?_
   simp -implicitDefEqProofs only [go_sem]
theorem zo9 (l:List ByteArray) (h:zI l=true):CallR Tryz.prog 74 [.ro 1 (l.map zw)] (.agg (xi l).cs) []:=by
 obtain ⟨h1,h2⟩:=yK h
 exact zo8 l.length l (Nat.le_refl _) h1 fun b hb=>by have:=h2 b hb;omega
end Go.Proofs.YtpjpkmhaffmbmaaGreat.E
end
section
namespace Go.Proofs.YtpjpkmhaffmbmaaGreat.E
open Go Go.RowKit
set_option linter.unusedVariables false
theorem zi6 {α:Type} {l:List α} {i:Nat} (h:i<l.length):l.take (i+1)=l.take i++[l[i]]:=List.take_succ_eq_append_getElem h
theorem jE {l:List ByteArray} (h:zI l=true) (n:Nat):zI (l.take n)=true:=by
 obtain ⟨h1,h2⟩:=yK h
 simp only [zI,Bool.and_eq_true,decide_eq_true_eq,zt,List.all_eq_true,List.length_take]
 exact ⟨by omega,fun b hb=>h2 b (List.mem_of_mem_take hb)⟩
def jc (n:Nat):Nat:=2 ^ n.log2
theorem zkr {n j:Nat} (h1:2 ^ j≤n) (h2:n<2 * 2 ^ j):jc n=2 ^ j:=by
 have:0<2 ^ j:=Nat.pow_pos (by omega)
 unfold jc
 rw [(Nat.log2_eq_iff (k:=j) (by omega)).2 ⟨h1,by rw [Nat.pow_succ];omega⟩]
theorem js {n:Nat} (h:1≤n):1≤jc n∧jc n≤n∧n<2 * jc n:=by
 have h1:n≠0:=by omega
 have:=(Nat.log2_eq_iff (k:=n.log2) h1).1 rfl
 have h3:0<2 ^ n.log2:=Nat.pow_pos (by omega)
 unfold jc
 rw [Nat.pow_succ] at this
 omega
theorem zmQ {n:Nat} (h:2≤n):n≤2 * spl n:=by
 have h1:n - 1≠0:=by omega
 have:=(Nat.log2_eq_iff (k:=(n - 1).log2) h1).1 rfl
 unfold spl
 rw [Nat.pow_succ] at this
 omega
abbrev Nd:=Nat × Nat
def gN (m:Nat):Nat→Nat→Nat→List Nd × List Nd
 | 0,_,_=>([],[])
 | k+1,lo,hi=>
  if hi≤m then ([(lo,hi)],[])
  else if m≤lo then ([],[(lo,hi)])
  else ((gN m k lo (lo+spl (hi - lo))).1++(gN m k (lo+spl (hi - lo)) hi).1,(gN m k lo (lo+spl (hi - lo))).2++(gN m k (lo+spl (hi - lo)) hi).2)
theorem xU {m k lo hi:Nat} (h:hi≤m):gN m (k+1) lo hi=([(lo,hi)],[]):=by rw [gN,if_pos h]
theorem xN {m k lo hi:Nat} (h1:¬hi≤m) (h:m≤lo):gN m (k+1) lo hi=([],[(lo,hi)]):=by rw [gN,if_neg h1,if_pos h]
theorem xV {m k lo hi:Nat} (h1:¬hi≤m) (h:¬m≤lo):gN m (k+1) lo hi=((gN m k lo (lo+spl (hi - lo))).1++(gN m k (lo+spl (hi - lo)) hi).1,(gN m k lo (lo+spl (hi - lo))).2++(gN m k (lo+spl (hi - lo)) hi).2):=by rw [gN,if_neg h1,if_neg h]
theorem zgt {m:Nat}:∀(k lo hi:Nat),lo<hi→hi - lo≤k→∀x,x∈(gN m k lo hi).1∨x∈(gN m k lo hi).2→lo≤x.1∧x.1<x.2∧x.2≤hi
 | 0,lo,hi,h,hk,x,hx=>by omega
 | k+1,lo,hi,h,hk,x,hx=>by
  by_cases h1:hi≤m
  ·rw [xU h1] at hx
   simp at hx
   subst hx
   exact ⟨Nat.le_refl _,h,Nat.le_refl _⟩
  ·by_cases h2:m≤lo
   ·rw [xN h1 h2] at hx
    simp at hx
    subst hx
    exact ⟨Nat.le_refl _,h,Nat.le_refl _⟩
   ·rw [xV h1 h2] at hx
    have hs:=xJ (n:=hi - lo) (by omega)
    have a:=zgt (m:=m) k lo (lo+spl (hi - lo)) (by omega) (by omega) x
    have b:=zgt (m:=m) k (lo+spl (hi - lo)) hi (by omega) (by omega) x
    simp only [List.mem_append] at hx
    rcases hx with (hx | hx) | (hx | hx)
    ·have:=a (.inl hx);omega
    ·have:=b (.inl hx);omega
    ·have:=a (.inr hx);omega
    ·have:=b (.inr hx);omega
theorem qZ {m:Nat}:∀(k lo hi:Nat),lo<hi→hi - lo≤k→(gN m k lo hi).1.length≤hi - lo∧(gN m k lo hi).2.length≤hi - lo
 | 0,lo,hi,h,hk=>by omega
 | k+1,lo,hi,h,hk=>by
  by_cases h1:hi≤m
  ·rw [xU h1];simp;omega
  ·by_cases h2:m≤lo
   ·rw [xN h1 h2];simp;omega
   ·rw [xV h1 h2]
    have hs:=xJ (n:=hi - lo) (by omega)
    have a:=qZ (m:=m) k lo (lo+spl (hi - lo)) (by omega) (by omega)
    have b:=qZ (m:=m) k (lo+spl (hi - lo)) hi (by omega) (by omega)
    simp only [List.length_append]
    omega
theorem zgs {m:Nat}:∀(d k lo hi:Nat),lo<m→m<hi→hi - lo≤k→hi - lo≤2 ^ d→(gN m k lo hi).1.length+(gN m k lo hi).2.length≤2 * d
 | d,0,lo,hi,h1,h2,hk,hd=>by omega
 | 0,k+1,lo,hi,h1,h2,hk,hd=>by simp at hd;omega
 | d+1,k+1,lo,hi,h1,h2,hk,hd=>by
  rw [xV (by omega) (by omega)]
  have hs:=xJ (n:=hi - lo) (by omega)
  have hu:=zmQ (n:=hi - lo) (by omega)
  have hp:spl (hi - lo)≤2 ^ d:=by
   have e:spl (hi - lo)=2 ^ (hi - lo - 1).log2:=rfl
   rw [e]
   refine Nat.pow_le_pow_right (by omega) ?_
   have:=(Nat.log2_lt (n:=hi - lo - 1) (k:=d+1) (by omega)).2 (by omega)
   omega
  have hk1:∀k lo hi,lo<hi→hi - lo≤k→(hi≤m∨m≤lo)→(gN m k lo hi).1.length+(gN m k lo hi).2.length=1:=by
   intro k lo hi hl hk hc
   cases k with
   | zero=>omega
   | succ k=>
    by_cases h:hi≤m
    ·rw [xU h];rfl
    ·rw [xN h (by omega)];rfl
  simp only [List.length_append]
  by_cases hm:m<lo+spl (hi - lo)
  ·have a:=zgs d k lo (lo+spl (hi - lo)) h1 hm (by omega) (by omega)
   have b:=hk1 k (lo+spl (hi - lo)) hi (by omega) (by omega) (.inr (by omega))
   omega
  ·have a:=hk1 k lo (lo+spl (hi - lo)) (by omega) (by omega) (.inl (by omega))
   by_cases he:m=lo+spl (hi - lo)
   ·have b:=hk1 k (lo+spl (hi - lo)) hi (by omega) (by omega) (.inr (by omega))
    omega
   ·have b:=zgs d k (lo+spl (hi - lo)) hi (by omega) h2 (by omega) (by omega)
    omega
def pks:Nat→Nat→Nat→List Nd
 | 0,_,_=>[]
 | k+1,lo,m=>if lo<m then (lo,lo+jc (m - lo))::pks k (lo+jc (m - lo)) m else []
theorem qJ {k lo m:Nat} (h:m≤lo):pks k lo m=[]:=by
 cases k with
 | zero=>rfl
 | succ k=>rw [pks,if_neg (by omega)]
theorem zdv {m:Nat}:∀(k j lo hi:Nat),lo<m→m<hi→hi - lo≤k→m - lo≤j→(gN m k lo hi).1=pks j lo m
 | 0,j,lo,hi,h1,h2,hk,hj=>by omega
 | k+1,0,lo,hi,h1,h2,hk,hj=>by omega
 | k+1,j+1,lo,hi,h1,h2,hk,hj=>by
  rw [xV (by omega) (by omega)]
  have hs:=xJ (n:=hi - lo) (by omega)
  have hu:=zmQ (n:=hi - lo) (by omega)
  obtain ⟨e,he⟩:∃e,spl (hi - lo)=2 ^ e:=⟨_,rfl⟩
  by_cases hm:m<lo+spl (hi - lo)
  ·rw [zdv k (j+1) lo (lo+spl (hi - lo)) h1 hm (by omega) hj]
   cases k with
   | zero=>omega
   | succ k=>rw [xN (by omega) (by omega)];simp
  ·have hh:jc (m - lo)=spl (hi - lo):=by
    have hu':=hu
    have hm':=hm
    rw [he] at hu' hm' ⊢
    exact zkr (by omega) (by omega)
   rw [pks,if_pos h1,hh]
   cases k with
   | zero=>omega
   | succ k=>
    rw [xU (m:=m) (lo:=lo) (by omega)]
    by_cases heq:m=lo+spl (hi - lo)
    ·rw [xN (by omega) (by omega),qJ (by omega)]
     rfl
    ·rw [zdv (k+1) j (lo+spl (hi - lo)) hi (by omega) h2 (by omega) (by omega)]
     rfl
def jf:Nat→Nat→Nat
 | 0,_=>0
 | k+1,n=>n%2+jf k (n/2)
theorem jj:∀k,jf k 0=0
 | 0=>rfl
 | k+1=>by rw [jf,jj k]
theorem zg7:∀(j k r:Nat),r<2 ^ j→j<k→jf k (2 ^ j+r)=1+jf k r
 | j,0,r,h,hk=>by omega
 | 0,k+1,r,h,hk=>by
  have:r=0:=by simp at h;omega
  subst this
  simp [jf,jj]
 | j+1,k+1,r,h,hk=>by
  rw [Nat.pow_succ] at h ⊢
  rw [jf,jf,show (2 ^ j * 2+r)%2=r%2 by omega,show (2 ^ j * 2+r)/2=2 ^ j+r/2 by omega,zg7 j k (r/2) (by omega) (by omega)]
  omega
theorem zdS:∀(j lo m k:Nat),m - lo≤j→m - lo<2 ^ k→(pks j lo m).length=jf k (m - lo)
 | 0,lo,m,k,h,hk=>by rw [show m - lo=0 by omega,jj];rfl
 | j+1,lo,m,k,h,hk=>by
  by_cases h1:lo<m
  ·have hb:=js (n:=m - lo) (by omega)
   obtain ⟨e,he⟩:∃e,jc (m - lo)=2 ^ e:=⟨_,rfl⟩
   rw [pks,if_pos h1,List.length_cons,zdS j (lo+jc (m - lo)) m k (by omega) (by omega)]
   rw [he] at hb ⊢
   have hek:e<k:=(Nat.pow_lt_pow_iff_right (a:=2) (by omega)).1 (by omega)
   have e2:jf k (m - lo)=1+jf k (m - lo - 2 ^ e):=by
    have:=zg7 e k (m - lo - 2 ^ e) (by omega) hek
    rw [show 2 ^ e+(m - lo - 2 ^ e)=m - lo by omega] at this
    exact this
   rw [e2,show m - (lo+2 ^ e)=m - lo - 2 ^ e by omega]
   omega
  ·rw [show m - lo=0 by omega,jj,qJ (by omega)]
   rfl
end Go.Proofs.YtpjpkmhaffmbmaaGreat.E
end
section
namespace Go.Proofs.YtpjpkmhaffmbmaaGreat.E
open Go Go.RowKit
set_option maxHeartbeats 4000000
set_option maxRecDepth 10000
set_option linter.unusedSimpArgs false
set_option linter.unusedVariables false
set_option linter.unusedSectionVars false
def zqe:Dec:=⟨[(185,.cm [false,false]),(200,.cm [false,false,true,true])],[9,10,11],[22,30,37,38,39,40,49,56,76,80,87,141,143,159,237,250,259],false⟩
def nC (x:Nd):List AV:=[vI x.1,vI x.2]
def zpF (l:List Nd):Row:=⟨2,l.map nC,2,false⟩
attribute [go_sem] zpF
theorem zol (l:List Nd):qc 2 (l.map nC)=true:=by
 induction l with
 | nil=>rfl
 | cons a l ih=>simp only [List.map_cons,qc,ih,nC];rfl
theorem zom (l:List Nd):flL (l.map nC)=2:=by
 induction l with
 | nil=>rfl
 | cons a l ih=>simp only [List.map_cons,flL,ih,nC];rfl
attribute [go_sem] zol zom
def jq (m n:Int):Bool:=mIn n 0 256&&mIn m 0 n
theorem znt (m n:Int):CallR Tryz.prog 154 [vI m,vI n] (vB (jq m n)) []:=by
 refine zl zqe false Tryz.f154 ?_
 conv=>enter [1];reduce
 refine jvR Tryz.f154 12 [.tmp 4] (by kernel_rfl) (by decide +kernel) rfl ?_
 unfold jq
 simp -implicitDefEqProofs only [go_sem]
 refine Want.intro (qy _ _ _) ?_
 cases h:mIn n 0 256 with
 | false=>simp -implicitDefEqProofs only [go_sem,ze,zf,zg,zc,zb,za,Bool.false_and]
 | true=>
  simp -implicitDefEqProofs only [go_sem,ze,zf,zg,zc,zb,za,Bool.true_and]
  refine Want.intro (qy _ _ _) ?_
  simp -implicitDefEqProofs only [go_sem]
theorem zkT (lo hi:Nat) (h:lo+2≤hi) (h2:hi≤256):CallR Tryz.prog 179 [.agg [vI lo,vI hi]] (.tup [.agg [vI lo,vI ((lo+spl (hi - lo):Nat):Int)],.agg [vI ((lo+spl (hi - lo):Nat):Int),vI hi]]) []:=by
 refine zl zqe false Tryz.f179 ?_
 conv=>enter [1];reduce
 refine jvR Tryz.f179 22 [.cell 2 223,.cell 3 223] (by kernel_rfl) (by decide +kernel) rfl ?_
 have hs:=xJ (n:=hi - lo) (by omega)
 have w1:IntKind.i64.wrap ((hi:Int) - (lo:Int))=((hi - lo:Nat):Int):=by rw [wrS (by omega)];omega
 have w2:IntKind.i64.wrap ((lo:Int)+((spl (hi - lo):Nat):Int))=((lo+spl (hi - lo):Nat):Int):=by rw [wrS (by omega)];omega
 simp -implicitDefEqProofs only [go_sem,w1]
 refine Want.intro (zr3 (hi - lo) (by omega) (by omega)) ?_
 simp -implicitDefEqProofs only [go_sem,w2]
def nRR (a b:List Nd):Sig:=[(1000000,0,one (zpF a)),(1000001,0,one (zpF b))]
def nNN (a b:List Nd):Sig:=[(0,0,one (zpF a)),(1,0,one (zpF b))]
attribute [go_sem] nRR nNN
theorem zm9 (l:List Nd) (h:l.length≤100000):∀x,(l.map nC++[x]).length≤maxLen∧(l.map nC++[x]).length * 16≤140737488355328:=fun x=>zK (E:=nC) (l:=l) (xs:=[x]) (b:=16) (n:=1000000) (by simp;omega) (by omega) (by omega)
theorem zgy (m:Nat):∀(k lo hi:Nat) (a b:List Nd),lo<hi→hi≤256→hi - lo≤k→a.length+(hi - lo)≤10000→b.length+(hi - lo)≤10000→zW Tryz.prog 200 (nRR a b) [.agg [vI lo,vI hi],vI m,.blk 1000000 0 [] 2 0 a.length,.blk 1000001 0 [] 2 0 b.length]
  (.tup [.blk 0 0 [] 2 0 (a++(gN m k lo hi).1).length,.blk 1 0 [] 2 0 (b++(gN m k lo hi).2).length]) (nNN (a++(gN m k lo hi).1) (b++(gN m k lo hi).2))
 | 0,lo,hi,a,b,h,h2,hk,ha,hb=>by omega
 | k+1,lo,hi,a,b,h,h2,hk,ha,hb=>by
  have hA:=zm9 a (by omega)
  have hB:=zm9 b (by omega)
  refine zl zqe false Tryz.f200 ?_
  conv=>enter [1];reduce
  refine jvM Tryz.f200 52 [.tmp 8,.tmp 9] (by kernel_rfl) (by decide +kernel) rfl ?_
  by_cases c1:hi≤m
  ·have c1':(hi:Int)≤(m:Int):=by omega
   rw [xU c1,List.append_nil]
   simp -implicitDefEqProofs only [go_sem,c1',hA]
   simp [nC]
  ·have c1':¬(hi:Int)≤(m:Int):=by omega
   by_cases c2:m≤lo
   ·have c2':(lo:Int)≥(m:Int):=by omega
    rw [xN c1 c2,List.append_nil]
    simp -implicitDefEqProofs only [go_sem,c1',c2',hB]
    simp [nC]
   ·have c2':¬(lo:Int)≥(m:Int):=by omega
    have hs:=xJ (n:=hi - lo) (by omega)
    rw [xV c1 c2]
    simp -implicitDefEqProofs only [go_sem,c1',c2']
    refine Want.intro (zkT lo hi (by omega) h2) ?_
    simp -implicitDefEqProofs only [go_sem]
    have hl:=qZ (m:=m) k lo (lo+spl (hi - lo)) (by omega) (by omega)
    refine WantM.intro (zgy m k lo (lo+spl (hi - lo)) a b (by omega) (by omega) (by omega) (by omega) (by omega)) ?_
    simp -implicitDefEqProofs only [go_sem]
    refine WantM.intro (zgy m k (lo+spl (hi - lo)) hi _ _ (by omega) (by omega) (by omega) (by rw [List.length_append];omega) (by rw [List.length_append];omega)) ?_
    simp -implicitDefEqProofs only [go_sem,List.append_assoc]
theorem zkG (m:Nat):∀(k lo hi:Nat),lo<hi→hi≤256→hi - lo≤k→zW Tryz.prog 200 [] [.agg [vI lo,vI hi],vI m,.nilS,.nilS]
  (.tup [.blk 0 0 [] 2 0 (gN m k lo hi).1.length,.blk 1 0 [] 2 0 (gN m k lo hi).2.length]) (nNN (gN m k lo hi).1 (gN m k lo hi).2)
 | 0,lo,hi,h,h2,hk=>by omega
 | k+1,lo,hi,h,h2,hk=>by
  have hA:1≤maxLen:=by unfold maxLen;omega
  refine zl zqe false Tryz.f200 ?_
  conv=>enter [1];reduce
  refine jvM Tryz.f200 52 [.tmp 8,.tmp 9] (by kernel_rfl) (by decide +kernel) rfl ?_
  by_cases c1:hi≤m
  ·have c1':(hi:Int)≤(m:Int):=by omega
   rw [xU c1]
   simp -implicitDefEqProofs only [go_sem,c1',hA]
   simp [nC]
  ·have c1':¬(hi:Int)≤(m:Int):=by omega
   by_cases c2:m≤lo
   ·have c2':(lo:Int)≥(m:Int):=by omega
    rw [xN c1 c2]
    simp -implicitDefEqProofs only [go_sem,c1',c2',hA]
    simp [nC]
   ·have c2':¬(lo:Int)≥(m:Int):=by omega
    have hs:=xJ (n:=hi - lo) (by omega)
    rw [xV c1 c2]
    simp -implicitDefEqProofs only [go_sem,c1',c2']
    refine Want.intro (zkT lo hi (by omega) h2) ?_
    simp -implicitDefEqProofs only [go_sem]
    have hl:=qZ (m:=m) k lo (lo+spl (hi - lo)) (by omega) (by omega)
    refine WantM.intro (zkG m k lo (lo+spl (hi - lo)) (by omega) (by omega) (by omega)) ?_
    simp -implicitDefEqProofs only [go_sem]
    refine WantM.intro (zgy m k (lo+spl (hi - lo)) hi _ _ (by omega) (by omega) (by omega) (by omega) (by omega)) ?_
    simp -implicitDefEqProofs only [go_sem]
theorem znp (m n:Nat) (h:1≤n) (h2:n≤256):zW Tryz.prog 185 [] [vI m,vI n] (.tup [.blk 0 0 [] 2 0 (gN m n 0 n).1.length,.blk 1 0 [] 2 0 (gN m n 0 n).2.length]) (nNN (gN m n 0 n).1 (gN m n 0 n).2):=by
 refine zl zqe false Tryz.f185 ?_
 conv=>enter [1];reduce
 refine jvM Tryz.f185 12 [.tmp 4,.tmp 5] (by kernel_rfl) (by decide +kernel) rfl ?_
 simp -implicitDefEqProofs only [go_sem]
 refine WantM.intro (zkG m n 0 n (by omega) h2 (by omega)) ?_
 simp -implicitDefEqProofs only [go_sem]
def xF (m n:Int):Int:=if jq m n then (if m=0∨m=n then 0 else (((gN m.toNat n.toNat 0 n.toNat).1.length+(gN m.toNat n.toNat 0 n.toNat).2.length:Nat):Int)) else -1
theorem xK {m n:Int} (h:jq m n=true):(0≤n∧n≤256)∧(0≤m∧m≤n):=by
 simp only [jq,Bool.and_eq_true,mIn_iff] at h
 exact h
theorem zsc (m n:Int):CallR Tryz.prog 155 [vI m,vI n] (vI (xF m n)) []:=by
 refine zl zqe false Tryz.f155 ?_
 conv=>enter [1];reduce
 refine jvR Tryz.f155 29 [.tmp 4] (by kernel_rfl) (by decide +kernel) rfl ?_
 unfold xF
 simp -implicitDefEqProofs only [go_sem]
 refine Want.intro (znt _ _) ?_
 cases h:jq m n with
 | false=>simp -implicitDefEqProofs only [go_sem,Bool.not_false,zb,za,Bool.false_eq_true]
 | true=>
  obtain ⟨hn,hm⟩:=xK h
  by_cases h0:m=0
  ·subst h0
   simp -implicitDefEqProofs only [go_sem,Bool.not_true,zb,za,ze,zf,zg,zc,true_or]
  ·have h0':(m==0)=false:=by simpa using h0
   by_cases h1:m=n
   ·subst h1
    simp -implicitDefEqProofs only [go_sem,h0',Bool.not_true,zb,za,ze,zf,zg,zc,or_true]
   ·have h1':(m==n)=false:=by simpa using h1
    obtain ⟨M,rfl⟩:∃M:Nat,m=M:=⟨m.toNat,by omega⟩
    obtain ⟨N,rfl⟩:∃N:Nat,n=N:=⟨n.toNat,by omega⟩
    have hno:¬((M:Int)=0∨(M:Int)=(N:Int)):=fun h=>h.elim h0 h1
    have hl:=qZ (m:=M) N 0 N (by omega) (by omega)
    have w1:∀x y:Nat,x≤1000→y≤1000→IntKind.i64.wrap ((x:Int)+(y:Int))=((x+y:Nat):Int):=fun x y _ _=>by rw [wrS (by omega)];omega
    have w1:=w1 (gN M N 0 N).1.length (gN M N 0 N).2.length (by omega) (by omega)
    simp -implicitDefEqProofs only [go_sem,h0',h1',hno,Bool.not_true,zb,za,ze,zf,zg,zc]
    refine WantM.intro (znp M N (by omega) (by omega)) ?_
    simp -implicitDefEqProofs only [go_sem,w1]
end Go.Proofs.YtpjpkmhaffmbmaaGreat.E
end
section
namespace Go.Proofs.YtpjpkmhaffmbmaaGreat.E
open Go Go.RowKit
set_option linter.unusedVariables false
set_option linter.unusedSimpArgs false
structure MSlot where
 sum:Nat
 seq:Nat
 size:Nat
 root:MDig
def MSlot.cs (s:MSlot):List AV:=[vU s.sum,vU s.seq,vU s.size,vU s.root.a,vU s.root.b,vU s.root.c,vU s.root.d]
structure MSlot.ok (t:MSlot):Prop where
 s:t.sum<18446744073709551616
 q:t.seq<18446744073709551616
 z:t.size<18446744073709551616
 r:t.root.ok
structure MDisk where
 one:MSlot
 two:MSlot
def MDisk.cs (d:MDisk):List AV:=[vU d.one.sum,vU d.one.seq,vU d.one.size,vU d.one.root.a,vU d.one.root.b,vU d.one.root.c,vU d.one.root.d,vU d.two.sum,vU d.two.seq,vU d.two.size,vU d.two.root.a,vU d.two.root.b,vU d.two.root.c,vU d.two.root.d]
structure MDisk.ok (d:MDisk):Prop where
 a:d.one.ok
 b:d.two.ok
attribute [go_sem] MSlot.cs MDisk.cs
def yj (s:MSlot):Nat→List UInt8
 | 0=>[]
 | 1=>low s.seq 8
 | 2=>low s.seq 8++low s.size 8
 | 3=>low s.seq 8++low s.size 8++low s.root.a 8
 | 4=>low s.seq 8++low s.size 8++low s.root.a 8++low s.root.b 8
 | 5=>low s.seq 8++low s.size 8++low s.root.a 8++low s.root.b 8++low s.root.c 8
 | _=>low s.seq 8++low s.size 8++low s.root.a 8++low s.root.b 8++low s.root.c 8++low s.root.d 8
theorem zbI (s:MSlot) {i:Nat} (h:i≤6):(yj s i).length=8 * i:=by
 have hi:i=0∨i=1∨i=2∨i=3∨i=4∨i=5∨i=6:=by omega
 rcases hi with rfl | rfl | rfl | rfl | rfl | rfl | rfl<;>simp [yj,low8]
theorem zbJ (s:MSlot):(jl s.seq 8++jl s.size 8++s.root.bytes)=⟨(yj s 6).toArray⟩:=by
 unfold MDig.bytes yj
 apply ByteArray.ext
 apply Array.toList_inj.1
 simp [ByteArray.data_append,Array.toList_append,zbj]
theorem zf8 (x:Int):orI .u64 x 1=((orI .u64 x 1).toNat:Int):=by
 unfold orI
 have:0≤IntKind.u64.wrap ((BitVec.ofInt IntKind.u64.bits x||| BitVec.ofInt IntKind.u64.bits 1).toNat:Int):=by
  rw [wU]
  exact Int.emod_nonneg _ (by decide)
 omega
def zbc (s:MSlot):Nat:=(orI .u64 ((zJ (yj s 6)).a.toNat:Int) 1).toNat
theorem zj3 (s:MSlot):zbc s<18446744073709551616:=by
 have h:orI .u64 ((zJ (yj s 6)).a.toNat:Int) 1<18446744073709551616:=by
  unfold orI
  rw [wU]
  exact Int.emod_lt_of_pos _ (by decide)
 unfold zbc
 omega
def zD (s:MSlot):Bool:=((s.sum:Int)==(zbc s:Int))&&(decide ((s.seq:Int)≥1)&&(decide ((s.seq:Int)≤1000000000)&&(decide ((s.size:Int)≥1)&&decide ((s.size:Int)≤256))))
structure MRec where
 seq:Int
 size:Int
 root:MDig
def MRec.cs (r:MRec):List AV:=[vI r.seq,vI r.size,vU r.root.a,vU r.root.b,vU r.root.c,vU r.root.d]
attribute [go_sem] MRec.cs
def MSlot.rec_ (s:MSlot):MRec:=⟨s.seq,s.size,s.root⟩
def zL (d:MDisk):MRec × Int:=
 match zD d.one,zD d.two with
 | true,true=>if d.two.seq>d.one.seq then (d.two.rec_,2) else (d.one.rec_,1)
 | true,false=>(d.one.rec_,1)
 | false,true=>(d.two.rec_,2)
 | false,false=>(⟨0,0,dig0⟩,0)
def zx (d:MDisk):MPt:=if (zL d).2=0 then ⟨0,(zJ []).dig⟩ else ⟨(zL d).1.size,(zL d).1.root⟩
theorem yb {s:MSlot} (h:zD s=true):(1≤s.seq∧s.seq≤1000000000)∧(1≤s.size∧s.size≤256):=by
 simp only [zD,Bool.and_eq_true,decide_eq_true_eq] at h
 omega
theorem wN (d:MDisk):0≤(zx d).size∧(zx d).size≤256:=by
 unfold zx
 split
 ·exact ⟨Int.le_refl _,by decide⟩
 ·rename_i h
  unfold zL at h ⊢
  cases h1:zD d.one<;>cases h2:zD d.two<;>simp only [h1,h2] at h ⊢
  ·exact absurd trivial h
  ·have:=yb h2
   show (0:Int)≤(d.two.size:Int)∧(d.two.size:Int)≤256
   omega
  ·have:=yb h1
   show (0:Int)≤(d.one.size:Int)∧(d.one.size:Int)≤256
   omega
  ·have:=yb h1
   have:=yb h2
   split
   ·show (0:Int)≤(d.two.size:Int)∧(d.two.size:Int)≤256
    omega
   ·show (0:Int)≤(d.one.size:Int)∧(d.one.size:Int)≤256
    omega
structure MRaw where
 slot:Int
 word:Int
 value:Nat
def MRaw.cs (r:MRaw):List AV:=[vI r.slot,vI r.word,vU r.value]
attribute [go_sem] MRaw.cs
def zdk (s:MSlot) (w:Int) (v:Nat):MSlot:=
 if w=0 then {s with sum:=v} else if w=1 then {s with seq:=v} else if w=2 then {s with size:=v}
 else if w=3 then {s with root:={s.root with a:=v}} else if w=4 then {s with root:={s.root with b:=v}}
 else if w=5 then {s with root:={s.root with c:=v}} else if w=6 then {s with root:={s.root with d:=v}} else s
def xl (d:MDisk) (r:MRaw):MDisk:=if r.slot=1 then {d with one:=zdk d.one r.word r.value} else if r.slot=2 then {d with two:=zdk d.two r.word r.value} else d
def zF (d:MDisk) (l:List MRaw):MDisk:=l.foldl xl d
theorem zj4 {s:MSlot} (h:s.ok) {w:Int} {v:Nat} (hv:v<18446744073709551616):(zdk s w v).ok:=by
 obtain ⟨h1,h2,h3,h4,h5,h6,h7⟩:=h
 unfold zdk
 repeat' split
 all_goals first
  | exact ⟨hv,h2,h3,h4,h5,h6,h7⟩
  | exact ⟨h1,hv,h3,h4,h5,h6,h7⟩
  | exact ⟨h1,h2,hv,h4,h5,h6,h7⟩
  | exact ⟨h1,h2,h3,hv,h5,h6,h7⟩
  | exact ⟨h1,h2,h3,h4,hv,h6,h7⟩
  | exact ⟨h1,h2,h3,h4,h5,hv,h7⟩
  | exact ⟨h1,h2,h3,h4,h5,h6,hv⟩
  | exact ⟨h1,h2,h3,h4,h5,h6,h7⟩
def yT (d:MDisk) (size:Int) (root:MDig):List MRaw:=
 if mIn size 1 256=true∧(zL d).1.seq≠1000000000 then
  (let to:Int:=if (zL d).2=1 then 2 else 1
   let s:MSlot:=⟨0,((zL d).1.seq+1).toNat,size.toNat,root⟩
   [⟨to,0,0⟩,⟨to,1,s.seq⟩,⟨to,2,s.size⟩,⟨to,3,root.a⟩,⟨to,4,root.b⟩,⟨to,5,root.c⟩,⟨to,6,root.d⟩,⟨to,0,zbc s⟩])
 else []
theorem wJ (d:MDisk):0≤(zL d).1.seq∧(zL d).1.seq≤1000000000:=by
 unfold zL
 cases h1:zD d.one<;>cases h2:zD d.two<;>simp only
 ·exact ⟨by show (0:Int)≤0;omega,by show (0:Int)≤1000000000;omega⟩
 ·have:=yb h2
  show (0:Int)≤(d.two.seq:Int)∧(d.two.seq:Int)≤1000000000
  omega
 ·have:=yb h1
  show (0:Int)≤(d.one.seq:Int)∧(d.one.seq:Int)≤1000000000
  omega
 ·have:=yb h1
  have:=yb h2
  split
  ·show (0:Int)≤(d.two.seq:Int)∧(d.two.seq:Int)≤1000000000
   omega
  ·show (0:Int)≤(d.one.seq:Int)∧(d.one.seq:Int)≤1000000000
   omega
end Go.Proofs.YtpjpkmhaffmbmaaGreat.E
end
