/- Contracts: what is drawn. -/
import Derived.Test.YtpjpkmhaffmbmaaGreatQ9
namespace Go.Proofs.YtpjpkmhaffmbmaaGreat.E
open Go Go.RowKit
set_option maxHeartbeats 4000000
set_option maxRecDepth 10000
set_option linter.unusedSimpArgs false
set_option linter.unusedVariables false
set_option linter.unusedSectionVars false
def zeg:Dec:=⟨[(39,.cm [true,false]),(150,.cm [true])],[9,10,11],[22,30,37,38,39,40,49,56,76,80,87,141,143,159,237,250,259],false⟩
structure Dr where
 b:List UInt8
 p:Nat
def Dr.cs (r:Dr):List AV:=[.ro 1 (r.b.map zy),vI r.p]
def Dr.row (r:Dr):Sig:=[(1000000,0,one ⟨2,[r.cs],0,false⟩)]
attribute [go_sem] Dr.cs Dr.row
abbrev vD:AV:=.ptr 1000000 0 [] 2 0 0
def Dr.ok (r:Dr) (n:Nat):Prop:=r.b.length≤2000∧r.p≤n
theorem zr9 (l:List UInt8) (hl:l.length≤maxLen):zW Tryz.prog 164 [] [.ro 1 (l.map zy)] (.ptr 0 0 [] 2 0 0) [(0,0,one ⟨2,[(Dr.mk (l.take 2000) 0).cs],0,false⟩)]:=by
 refine zl zeg false Tryz.f164 ?_
 conv=>enter [1];reduce
 refine jvM Tryz.f164 11 [.tmp 2] (by kernel_rfl) (by decide +kernel) rfl ?_
 simp -implicitDefEqProofs only [go_sem]
 refine zi (fun h=>?_) (fun h=>?_)
 ·have hlt:(2000:Int)≤(l.length:Int):=by have:=of_decide_eq_true h;omega
  simp -implicitDefEqProofs only [go_sem,h,hlt]
  try rfl
 ·have h':l.take 2000=l:=List.take_of_length_le (by have:=of_decide_eq_false h;omega)
  simp -implicitDefEqProofs only [go_sem,h,h']
  try rfl
theorem zhK {x y:Int} (hx:0≤x∧x<9223372036854775808) (hy:0≤y∧y<9223372036854775808):0≤znS .i64 x y:=by
 obtain ⟨a,rfl⟩:∃a:Nat,x=a:=⟨x.toNat,by omega⟩
 obtain ⟨b,rfl⟩:∃b:Nat,y=b:=⟨y.toNat,by omega⟩
 unfold znS
 rw [show IntKind.i64.bits=64 from rfl,BitVec.ofInt_natCast,BitVec.ofInt_natCast,BitVec.toNat_xor,BitVec.toNat_ofNat,BitVec.toNat_ofNat,Nat.mod_eq_of_lt (by omega),Nat.mod_eq_of_lt (by omega)]
 have:a ^^^ b<2 ^ 63:=Nat.xor_lt_two_pow (by omega) (by omega)
 rw [wrS (by omega)]
 omega
def Dr.nx (r:Dr):Dr:=⟨r.b,r.p+1⟩
theorem nx_b (r:Dr):r.nx.b=r.b:=rfl
theorem zqI (r:Dr):r.nx.p=r.p+1:=rfl
attribute [go_sem] nx_b zqI
def pkX (r:Dr):Nat:=bL r.b (r.p%r.b.length) * 131+bL r.b ((r.p * 7+3)%r.b.length) * 1117+r.p * 29+r.p/r.b.length * 53
def pk (r:Dr) (n:Int):Int:=if n<1 then 0 else if r.b.length=0 then 0 else if r.p<r.b.length then (bL r.b r.p:Int).tmod n else (znS .i64 (pkX r:Int) ((pkX r/64:Nat):Int)).tmod n
theorem zaW (r:Dr) (n:Int) (h:r.ok 1000000000):(0≤pk r n∧(pk r n<n∨n<1∧pk r n=0))∧zW Tryz.prog 39 r.row [vD,vI n] (vI (pk r n)) r.nx.row:=by
 obtain ⟨hb,hp⟩:=h
 have w1:IntKind.i64.wrap ((r.p:Int)+1)=((r.p+1:Nat):Int):=by rw [wrS (by omega)];omega
 have w2:IntKind.i64.wrap (((r.p+1:Nat):Int) - 1)=(r.p:Int):=by rw [wrS (by omega)];omega
 unfold pk
 by_cases h0:n<1
 ·rw [if_pos h0]
  refine ⟨by omega,?_⟩
  refine zl zeg false Tryz.f39 ?_
  conv=>enter [1];reduce
  refine jvM Tryz.f39 99 [.tmp 4] (by kernel_rfl) (by decide +kernel) rfl ?_
  simp -implicitDefEqProofs only [go_sem,w1,h0,zg,zb]
 ·rw [if_neg h0]
  by_cases h1:r.b.length=0
  ·rw [if_pos h1]
   refine ⟨by omega,?_⟩
   refine zl zeg false Tryz.f39 ?_
   conv=>enter [1];reduce
   refine jvM Tryz.f39 99 [.tmp 4] (by kernel_rfl) (by decide +kernel) rfl ?_
   have h2:(((0:Nat):Int)==0)=true:=rfl
   simp -implicitDefEqProofs only [go_sem,w1,h0,h1,h2,zf,zb]
  ·have h2:((r.b.length:Int)==0)=false:=by rw [beq_eq_false_iff_ne];omega
   rw [if_neg h1]
   by_cases h3:r.p<r.b.length
   ·rw [if_pos h3]
    have h4:(r.p:Int)<(r.b.length:Int):=by omega
    have hg:=yG (l:=r.b) (i:=r.p) h3
    have hbl:=zaM r.b r.p
    have w3:IntKind.i64.wrap (bL r.b r.p:Int)=(bL r.b r.p:Int):=wrS (by omega)
    have hn:¬n=0:=by omega
    have hq:0≤(bL r.b r.p:Int).tmod n∧(bL r.b r.p:Int).tmod n<n:=⟨Int.tmod_nonneg _ (by omega),Int.tmod_lt_of_pos _ (by omega)⟩
    refine ⟨⟨hq.1,.inl hq.2⟩,?_⟩
    refine zl zeg false Tryz.f39 ?_
    conv=>enter [1];reduce
    refine jvM Tryz.f39 99 [.tmp 4] (by kernel_rfl) (by decide +kernel) rfl ?_
    simp -implicitDefEqProofs only [go_sem,w1,w2,h0,h2,h4,hg,w3,hn,zb,za,zf]
   ·rw [if_neg h3]
    unfold pkX
    have h4:¬(r.p:Int)<(r.b.length:Int):=by omega
    have h5:¬((r.b.length:Int)=0):=by omega
    have hL:0<r.b.length:=by omega
    have e1:(r.p:Int).tmod (r.b.length:Int)=((r.p%r.b.length:Nat):Int):=by rw [Int.tmod_eq_emod_of_nonneg (by omega)];rfl
    have e2:IntKind.i64.wrap ((r.p:Int) * 7)=((r.p * 7:Nat):Int):=by rw [wrS (by omega)];omega
    have e3:IntKind.i64.wrap (((r.p * 7:Nat):Int)+3)=((r.p * 7+3:Nat):Int):=by rw [wrS (by omega)];omega
    have e4:((r.p * 7+3:Nat):Int).tmod (r.b.length:Int)=(((r.p * 7+3)%r.b.length:Nat):Int):=by rw [Int.tmod_eq_emod_of_nonneg (by omega)];rfl
    have e5:(r.p:Int).tdiv (r.b.length:Int)=((r.p/r.b.length:Nat):Int):=by rw [Int.tdiv_eq_ediv_of_nonneg (by omega)];rfl
    have l1:r.p%r.b.length<r.b.length:=Nat.mod_lt _ hL
    have l2:(r.p * 7+3)%r.b.length<r.b.length:=Nat.mod_lt _ hL
    have l3:r.p/r.b.length≤r.p:=Nat.div_le_self _ _
    have g1:=yG l1
    have g2:=yG l2
    have b1:=zaM r.b (r.p%r.b.length)
    have b2:=zaM r.b ((r.p * 7+3)%r.b.length)
    generalize r.p%r.b.length=i1 at *
    generalize (r.p * 7+3)%r.b.length=i2 at *
    generalize r.p/r.b.length=i3 at *
    generalize bL r.b i1=x1 at *
    generalize bL r.b i2=x2 at *
    have l1':(i1:Int)<(r.b.length:Int):=by omega
    have l2':(i2:Int)<(r.b.length:Int):=by omega
    have f1:IntKind.i64.wrap (x1:Int)=(x1:Int):=wrS (by omega)
    have f2:IntKind.i64.wrap (x2:Int)=(x2:Int):=wrS (by omega)
    have f3:IntKind.i64.wrap ((x1:Int) * 131)=((x1 * 131:Nat):Int):=by rw [wrS (by omega)];omega
    have f4:IntKind.i64.wrap ((x2:Int) * 1117)=((x2 * 1117:Nat):Int):=by rw [wrS (by omega)];omega
    have f5:IntKind.i64.wrap (((x1 * 131:Nat):Int)+((x2 * 1117:Nat):Int))=((x1 * 131+x2 * 1117:Nat):Int):=by rw [wrS (by omega)];omega
    have f6:IntKind.i64.wrap ((r.p:Int) * 29)=((r.p * 29:Nat):Int):=by rw [wrS (by omega)];omega
    have f7:IntKind.i64.wrap (((x1 * 131+x2 * 1117:Nat):Int)+((r.p * 29:Nat):Int))=((x1 * 131+x2 * 1117+r.p * 29:Nat):Int):=by rw [wrS (by omega)];omega
    have f8:IntKind.i64.wrap ((i3:Int) * 53)=((i3 * 53:Nat):Int):=by rw [wrS (by omega)];omega
    have f9:IntKind.i64.wrap (((x1 * 131+x2 * 1117+r.p * 29:Nat):Int)+((i3 * 53:Nat):Int))=((x1 * 131+x2 * 1117+r.p * 29+i3 * 53:Nat):Int):=by rw [wrS (by omega)];omega
    have hX:x1 * 131+x2 * 1117+r.p * 29+i3 * 53<9223372036854775808:=by omega
    generalize x1 * 131+x2 * 1117+r.p * 29+i3 * 53=X at *
    have f10:(X:Int).tdiv 64=((X/64:Nat):Int):=by rw [Int.tdiv_eq_ediv_of_nonneg (by omega)];rfl
    have hx:=zhK (x:=(X:Int)) (y:=((X/64:Nat):Int)) (by omega) (by omega)
    have hn:¬n=0:=by omega
    generalize hz:znS .i64 (X:Int) ((X/64:Nat):Int)=z at *
    have hq:0≤z.tmod n∧z.tmod n<n:=⟨Int.tmod_nonneg _ hx,Int.tmod_lt_of_pos _ (by omega)⟩
    have w64:IntKind.i64.wrap ((X/64:Nat):Int)=((X/64:Nat):Int):=wrS (by omega)
    have f0:IntKind.i64.wrap (i3:Int)=(i3:Int):=wrS (by omega)
    refine ⟨⟨hq.1,.inl hq.2⟩,?_⟩
    refine zl zeg false Tryz.f39 ?_
    conv=>enter [1];reduce
    refine jvM Tryz.f39 99 [.tmp 4] (by kernel_rfl) (by decide +kernel) rfl ?_
    simp -implicitDefEqProofs only [go_sem,w1,w2,h0,h2,h4,h5,e1,e2,e3,e4,e5,g1,g2,l1',l2',f0,f1,f2,f3,f4,f5,f6,f7,f8,f9,f10,w64,hz,hn,zb,za,zf]
def Dr.adv (r:Dr) (i:Nat):Dr:=⟨r.b,r.p+i⟩
theorem adv_b (r:Dr) (i:Nat):(r.adv i).b=r.b:=rfl
theorem zgO (r:Dr) (i:Nat):(r.adv i).p=r.p+i:=rfl
attribute [go_sem] adv_b zgO
def qB (r:Dr):Nat→Nat
 | 0=>0
 | i+1=>(orI .u64 (IntKind.u64.wrap ((qB r i:Int) * 2 ^ 8)) (IntKind.u64.wrap (pk (r.adv i) 256))).toNat
theorem zdN (z:Int):IntKind.u64.wrap z=((IntKind.u64.wrap z).toNat:Int)∧(IntKind.u64.wrap z).toNat<18446744073709551616:=by
 have h8:IntKind.u64.bits=64:=rfl
 have hs:IntKind.u64.signed=false:=rfl
 simp only [IntKind.wrap,h8,hs,Bool.false_and,Bool.false_eq_true,if_false]
 omega
theorem zfH (r:Dr) (i:Nat):qB r i<18446744073709551616:=by
 cases i with
 | zero=>simp [qB]
 | succ i=>exact (zdN _).2
def wd (r:Dr):Nat × Dr:=if pk r 6=0 then ((pk r.nx 3).toNat,r.adv 2) else if pk r 6=1 then ((zqK .u64 (pk r.nx 3)).toNat,r.adv 2) else (qB r.nx 8,r.adv 9)
theorem zhz (r:Dr) (h:r.ok 900000000):zW Tryz.prog 150 r.row [vD] (vU (wd r).1) (wd r).2.row:=by
 refine zl zeg false Tryz.f150 ?_
 conv=>enter [1];reduce
 refine jvM Tryz.f150 30 [.tmp 2] (by kernel_rfl) (by decide +kernel) rfl ?_
 simp -implicitDefEqProofs only [go_sem]
 have h6:=zaW r 6 ⟨h.1,by have:=h.2;omega⟩
 have h3:=zaW r.nx 3 ⟨h.1,by have:=h.2;show r.p+1≤_;omega⟩
 refine WantM.intro h6.2 ?_
 unfold wd
 by_cases k0:pk r 6=0
 ·rw [if_pos k0]
  have k1:(pk r 6==0)=true:=by simpa using k0
  simp -implicitDefEqProofs only [go_sem,k1,zb]
  refine WantM.intro h3.2 ?_
  have:=yF (pk r.nx 3).toNat (by omega)
  rw [Int.toNat_of_nonneg h3.1.1] at this
  have h4:=Int.toNat_of_nonneg h3.1.1
  simp -implicitDefEqProofs only [go_sem,this]
  exact congrArg (fun z=>AV.sc (.int .u64 z)) h4.symm
 ·rw [if_neg k0]
  have k1:(pk r 6==0)=false:=by simpa using k0
  by_cases k2:pk r 6=1
  ·rw [if_pos k2]
   have k3:(pk r 6==1)=true:=by simpa using k2
   simp -implicitDefEqProofs only [go_sem,k1,k3,zb,za]
   refine WantM.intro h3.2 ?_
   have:=yF (pk r.nx 3).toNat (by omega)
   rw [Int.toNat_of_nonneg h3.1.1] at this
   have h4:((zqK .u64 (pk r.nx 3)).toNat:Int)=zqK .u64 (pk r.nx 3):=(zdN _).1.symm
   simp -implicitDefEqProofs only [go_sem,this]
   exact congrArg (fun z=>AV.sc (.int .u64 z)) h4.symm
  ·rw [if_neg k2]
   have k3:(pk r 6==1)=false:=by simpa using k2
   simp -implicitDefEqProofs only [go_sem,k1,k3,zb,za]
   have hp:=h.2
   refine zX (fun m z=>∃i:Nat,i≤8∧m=8 - i∧z=⟨30,[(0,vD),(4,vU (qB r.nx i)),(5,vI i)],(r.nx.adv i).row,1⟩) 8 ?_ ?_
   ·simp -implicitDefEqProofs only [go_sem]
    exact ⟨0,by omega,rfl,rfl⟩
   ·rintro m z ⟨i,hi,rfl,rfl⟩
    rcases Nat.lt_or_ge i 8 with hlt | hge
    ·have hlt':(i:Int)<8:=by omega
     have hpk:=zaW (r.nx.adv i) 256 ⟨h.1,by show r.p+1+i≤_;omega⟩
     have w4:IntKind.i64.wrap ((i:Int)+1)=((i+1:Nat):Int):=by rw [wrS (by omega)];omega
     have hv:orI .u64 (IntKind.u64.wrap ((qB r.nx i:Int) * 2 ^ 8)) (IntKind.u64.wrap (pk (r.nx.adv i) 256))=(qB r.nx (i+1):Int):=(zdN _).1
     simp -implicitDefEqProofs only [go_sem,hlt']
     refine WantM.intro hpk.2 ?_
     simp -implicitDefEqProofs only [go_sem,w4,hv]
     exact ⟨_,by omega,i+1,hlt,rfl,rfl⟩
    ·have hi8:i=8:=by omega
     subst hi8
     have hlt':¬(((8:Nat):Int)<8):=by omega
     simp -implicitDefEqProofs only [go_sem,hlt']
theorem zlv (r:Dr) (h:r.ok 900000000):(wd r).1<18446744073709551616:=by
 unfold wd
 have h3:=zaW r.nx 3 ⟨h.1,by have:=h.2;show r.p+1≤_;omega⟩
 split
 ·show (pk r.nx 3).toNat<_;omega
 ·split
  ·show (zqK .u64 _).toNat<_
   exact (zdN _).2
  ·exact zfH _ _
theorem zcM (r:Dr) {n:Nat} (h:r.ok n):(wd r).2.ok (n+9)∧(wd r).2.b=r.b:=by
 unfold wd
 obtain ⟨h1,h2⟩:=h
 split
 ·exact ⟨⟨h1,by show r.p+2≤_;omega⟩,rfl⟩
 ·split<;>exact ⟨⟨h1,by show r.p+_≤_;omega⟩,rfl⟩
def dgR (r:Dr):MDig × Dr:=(⟨(wd r).1,(wd (wd r).2).1,(wd (wd (wd r).2).2).1,(wd (wd (wd (wd r).2).2).2).1⟩,(wd (wd (wd (wd r).2).2).2).2)
theorem zcx (r:Dr) (h:r.ok 800000000):zW Tryz.prog 93 r.row [vD] (.agg (dgR r).1.cs) (dgR r).2.row:=by
 refine zl zeg false Tryz.f93 ?_
 conv=>enter [1];reduce
 refine jvM Tryz.f93 18 [.cell 2 25] (by kernel_rfl) (by decide +kernel) rfl ?_
 have h1:=(zcM r h).1
 have h2:=(zcM _ h1).1
 have h3:=(zcM _ h2).1
 have k:∀{r:Dr} {n:Nat},r.ok n→n≤900000000→r.ok 900000000:=fun h hn=>⟨h.1,Nat.le_trans h.2 hn⟩
 simp -implicitDefEqProofs only [go_sem]
 refine WantM.intro (zhz r (k h (by omega))) ?_
 simp -implicitDefEqProofs only [go_sem]
 refine WantM.intro (zhz _ (k h1 (by omega))) ?_
 simp -implicitDefEqProofs only [go_sem]
 refine WantM.intro (zhz _ (k h2 (by omega))) ?_
 simp -implicitDefEqProofs only [go_sem]
 refine WantM.intro (zhz _ (k h3 (by omega))) ?_
 simp -implicitDefEqProofs only [go_sem]
 exact ⟨rfl,rfl⟩
theorem jV (r:Dr) {n:Nat} (h:r.ok n):(dgR r).2.ok (n+36)∧(dgR r).2.b=r.b:=by
 have h1:=zcM r h
 have h2:=zcM _ h1.1
 have h3:=zcM _ h2.1
 have h4:=zcM _ h3.1
 exact ⟨h4.1,h4.2.trans (h3.2.trans (h2.2.trans h1.2))⟩
theorem qj (r:Dr) (h:r.ok 800000000):(dgR r).1.ok:=by
 have h1:=(zcM r h).1
 have h2:=(zcM _ h1).1
 have h3:=(zcM _ h2).1
 have k:∀{r:Dr} {n:Nat},r.ok n→n≤900000000→r.ok 900000000:=fun h hn=>⟨h.1,Nat.le_trans h.2 hn⟩
 exact ⟨zlv _ (k h (by omega)),zlv _ (k h1 (by omega)),zlv _ (k h2 (by omega)),zlv _ (k h3 (by omega))⟩
def txL (r:Dr):Nat→List UInt8
 | 0=>[]
 | i+1=>txL r i++[UInt8.ofNat (pk (r.adv i) 256).toNat]
theorem zi5 (r:Dr) (i:Nat):(txL r i).length=i:=by
 induction i with
 | zero=>rfl
 | succ i ih=>simp [txL,ih]
def tx (r:Dr) (n:Int):ByteArray × Dr:=(bA (txL r.nx (pk r (n+1)).toNat),r.nx.adv (pk r (n+1)).toNat)
theorem zo5 (r:Dr) (n:Int) (h:r.ok 900000000) (hn:0≤n∧n≤1000):zW Tryz.prog 96 r.row [vD,vI n] (vS (tx r n).1) (tx r n).2.row:=by
 refine zl zeg false Tryz.f96 ?_
 conv=>enter [1];reduce
 refine jvM Tryz.f96 24 [.tmp 4] (by kernel_rfl) (by decide +kernel) rfl ?_
 have hp:=h.2
 have hk:=zaW r (n+1) ⟨h.1,by omega⟩
 have w1:IntKind.i64.wrap (n+1)=n+1:=wrS (by omega)
 simp -implicitDefEqProofs only [go_sem,w1]
 refine WantM.intro hk.2 ?_
 unfold tx
 obtain ⟨hk1,-⟩:=hk
 obtain ⟨K,hK,hK2⟩:∃K:Nat,pk r (n+1)=K∧K≤1000:=⟨(pk r (n+1)).toNat,by omega,by omega⟩
 rw [hK]
 simp -implicitDefEqProofs only [go_sem]
 refine zX (fun m z=>∃i:Nat,i≤K∧m=K - i∧z=⟨24,[(0,vD),(5,.blk 5 0 [] 1 0 (txL r.nx i).length),(6,vI ((K - i:Nat):Int))],[(1000000,0,one ⟨2,[(r.nx.adv i).cs],0,false⟩),(5,0,one ⟨1,(txL r.nx i).map zy,2,false⟩)],1⟩) K ?_ ?_
 ·simp -implicitDefEqProofs only [go_sem]
  exact ⟨0,by omega,rfl,rfl⟩
 ·rintro m z ⟨i,hi,rfl,rfl⟩
  have htl:=zi5 r.nx i
  rcases Nat.lt_or_ge i K with hlt | hge
  ·have hlt':((K - i:Nat):Int)>0:=by omega
   have hpk:=zaW (r.nx.adv i) 256 ⟨h.1,by show r.p+1+i≤_;omega⟩
   have w4:IntKind.i64.wrap (((K - i:Nat):Int) - 1)=((K - (i+1):Nat):Int):=by rw [wrS (by omega)];omega
   have hb:IntKind.u8.wrap (pk (r.nx.adv i) 256)=(((pk (r.nx.adv i) 256).toNat%256:Nat):Int):=by rw [←zaR,Int.toNat_of_nonneg hpk.1.1]
   have ha:∀x,_:=fun x=>zK (E:=zy) (l:=txL r.nx i) (xs:=[x]) (b:=1) (n:=100000) (by simp;omega) (by omega) (by omega)
   simp -implicitDefEqProofs only [go_sem,hlt']
   refine WantM.intro hpk.2 ?_
   simp -implicitDefEqProofs only [go_sem,w4,hb,ha]
   exact ⟨_,by omega,i+1,hlt,rfl,by simp [txL,zy];rfl⟩
  ·have hiK:i=K:=by omega
   subst hiK
   have hlt':¬(((i - i:Nat):Int)>0):=by omega
   simp -implicitDefEqProofs only [go_sem,hlt',xp]
   rfl
def rep (s:List UInt8) (k:Nat):List UInt8:=(List.replicate k s).flatten
theorem zjs (s:List UInt8) (a b:Nat):rep s (a+b)=rep s a++rep s b:=by simp [rep,←List.replicate_append_replicate]
theorem zf3 (s:List UInt8) (k:Nat):(rep s k).length=k * s.length:=by simp [rep,List.length_flatten,List.map_replicate,List.sum_replicate_nat]
theorem zkV (s:List UInt8) (n:Nat) (hn:n≤30000) (hs:s.length≤4):CallR Tryz.prog 131 [vS (bA s),vI n] (vS (bA (rep s n))) []:=by
 refine zl zeg false Tryz.f131 ?_
 conv=>enter [1];reduce
 refine jvR Tryz.f131 20 [.tmp 4] (by kernel_rfl) (by decide +kernel) rfl ?_
 simp -implicitDefEqProofs only [go_sem]
 refine zX (fun m z=>∃q c x:Nat,m=q∧x+q * c=n∧(1≤c∧c≤2 * n+1)∧z=⟨20,[(0,vS (bA (rep s c))),(1,vI q),(5,vS (bA (rep s x)))],[],1⟩) n ?_ ?_
 ·simp -implicitDefEqProofs only [go_sem]
  exact ⟨n,1,0,rfl,by omega,by omega,by simp [rep];rfl⟩
 ·rintro m z ⟨q,c,x,rfl,hx,hc,rfl⟩
  rcases Nat.eq_zero_or_pos m with h0 | h0
  ·subst h0
   have hlt':¬(((0:Nat):Int)>0):=by omega
   simp -implicitDefEqProofs only [go_sem,hlt']
   rw [show x=n by omega]
  ·have hlt':(m:Int)>0:=by omega
   have hcn:c≤n:=Nat.le_trans (Nat.le_mul_of_pos_left c h0) (by omega)
   have htm:((m:Int)).tmod 2=((m%2:Nat):Int):=by rw [Int.tmod_eq_emod_of_nonneg (by omega)];omega
   have htd:((m:Int)).tdiv 2=((m/2:Nat):Int):=by rw [Int.tdiv_eq_ediv_of_nonneg (by omega)];omega
   have w1:IntKind.i64.wrap ((m/2:Nat):Int)=((m/2:Nat):Int):=by
    have hmn:m≤n:=Nat.le_trans (Nat.le_mul_of_pos_right m hc.1) (by omega)
    exact wrS (by omega)
   have l1:=zf3 s c
   have l2:=zf3 s x
   have b1:c * s.length≤30000 * 4:=Nat.mul_le_mul (by omega) hs
   have b2:x * s.length≤30000 * 4:=Nat.mul_le_mul (by omega) hs
   have hsz1:¬((((rep s x).length+(rep s c).length:Nat):Int)>9223372036854775807):=by omega
   have hsz2:¬((((rep s c).length+(rep s c).length:Nat):Int)>9223372036854775807):=by omega
   have e2:rep s c++rep s c=rep s (2 * c):=by rw [←zjs];congr 1;omega
   have e1:=(zjs s x c).symm
   simp -implicitDefEqProofs only [go_sem,hlt',htm]
   rcases Nat.mod_two_eq_zero_or_one m with hm | hm
   ·have k1:(((m%2:Nat):Int)==1)=false:=by rw [hm];rfl
    simp -implicitDefEqProofs only [go_sem,k1,za,hsz2,e2,htd,w1]
    refine ⟨m/2,by omega,m/2,2 * c,x,rfl,?_,by omega,rfl⟩
    have:m/2 * (2 * c)=m * c:=by rw [←Nat.mul_assoc];congr 1;omega
    omega
   ·have k1:(((m%2:Nat):Int)==1)=true:=by rw [hm];rfl
    simp -implicitDefEqProofs only [go_sem,k1,zb,hsz1,hsz2,e1,e2,htd,w1]
    refine ⟨m/2,by omega,m/2,2 * c,x+c,rfl,?_,by omega,rfl⟩
    have h1:m/2 * (2 * c)=(m - 1) * c:=by rw [←Nat.mul_assoc];congr 1;omega
    have h2:m * c=(m - 1) * c+c:=by
     obtain ⟨k,rfl⟩:∃k,m=k+1:=⟨m - 1,by omega⟩
     rw [Nat.add_mul,Nat.one_mul];rfl
    omega
end Go.Proofs.YtpjpkmhaffmbmaaGreat.E
