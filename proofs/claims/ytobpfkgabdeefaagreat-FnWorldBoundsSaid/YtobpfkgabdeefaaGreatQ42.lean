/- Contracts: what is drawn; Contracts: messages that are drawn; Contracts: messages that are drawn, spoilt; Contracts: leaves that are drawn; Contracts: the point of leaves, whatever they are; a reader behind three pointers; Contracts: letters for a node in a bag; a drawn world's reader; who calls -/
import Derived.Test.YtobpfkgabdeefaaGreatQ41
namespace Go.Proofs.YtobpfkgabdeefaaGreat.E
open Go Go.RowKit
set_option maxHeartbeats 4000000
set_option maxRecDepth 10000
set_option linter.unusedSimpArgs false
set_option linter.unusedVariables false
set_option linter.unusedSectionVars false
def yr:cc:=⟨[(92,.cm [true,false])],cw,cz,false⟩
structure Dr where
 b:List UInt8
 p:Nat
def Dr.cs (r:Dr):List AV:=[.ro 1 (r.b.map cE),vI r.p]
def Dr.row (r:Dr):ak:=[(1000000,0,one ⟨2,[r.cs],0,false⟩)]
attribute [go_sem] Dr.cs Dr.row
abbrev vD:AV:=.ptr 1000000 0 [] 2 0 0
def Dr.ok (r:Dr) (n:Nat):Prop:=r.b.length<=2000/\r.p<=n
theorem VV (l:List UInt8) (hl:l.length<=maxLen):aY Tryz.prog 102 [] [.ro 1 (l.map cE)] (.ptr 0 0 [] 2 0 0) [(0,0,one ⟨2,[(Dr.mk (l.take 2000) 0).cs],0,false⟩)]:=by
 refine aF yr false Tryz.f102 ?_;conv=>enter[1];reduce
 refine bI Tryz.f102 11 [.tmp 2] (by kernel_rfl) (by decide +kernel) rfl ?_;refine au ?_;refine bX (fun h=>?_) (fun h=>?_)
 ·have ab:(2000:Int)<=(l.length:Int):=by have:=of_decide_eq_true h;omega
  simp -implicitDefEqProofs only[go_sem,h,ab];try rfl
 have h':l.take 2000=l:=List.take_of_length_le (by have:=of_decide_eq_false h;omega);simp -implicitDefEqProofs only[go_sem,h,h'];try rfl
theorem Xh {x y:Int}(hx:0<=x/\x<9223372036854775808) (hy:0<=y/\y<9223372036854775808):0<=wF .i64 x y:=by
 obtain⟨a,rfl⟩:∃a:Nat,x=a:=⟨x.toNat,by omega⟩;obtain⟨b,rfl⟩:∃b:Nat,y=b:=⟨y.toNat,by omega⟩;unfold wF;rw[show IntKind.i64.bits=64 from rfl,BitVec.ofInt_natCast,BitVec.ofInt_natCast,BitVec.toNat_xor,BitVec.toNat_ofNat,BitVec.toNat_ofNat,Nat.mod_eq_of_lt (by omega),Nat.mod_eq_of_lt (by omega)];have:a ^^^ b<2 ^ 63:=Nat.xor_lt_two_pow (by omega) (by omega);rw[aN (by omega)];omega
def Dr.nx (r:Dr):Dr:=⟨r.b,r.p+1⟩
theorem aaS (r:Dr):r.nx.b=r.b:=rfl
theorem aaR (r:Dr):r.nx.p=r.p+1:=rfl
attribute [go_sem] aaS aaR
def Jv (r:Dr):Nat:=bL r.b (r.p%r.b.length) * 131+bL r.b ((r.p * 7+3)%r.b.length) * 1117+r.p * 29+r.p/r.b.length * 53
def pk (r:Dr) (n:Int):Int:=if n<1 then 0 else if r.b.length=0 then 0 else if r.p<r.b.length then(bL r.b r.p:Int).tmod n else(wF .i64 (Jv r:Int) ((Jv r/64:Nat):Int)).tmod n
theorem Fo (r:Dr) (n:Int) (h:r.ok 1000000000):(0<=pk r n/\(pk r n<n\/n<1/\pk r n=0))/\aY Tryz.prog 92 r.row [vD,vI n] (vI (pk r n)) r.nx.row:=by
 obtain⟨hb,hp⟩:=h;have w1:IntKind.i64.wrap ((r.p:Int)+1)=((r.p+1:Nat):Int):=by rw[aN (by omega)];omega
 have w2:IntKind.i64.wrap (((r.p+1:Nat):Int) - 1)=(r.p:Int):=by rw[aN (by omega)];omega
 unfold pk;by_cases h0:n<1
 ·rw[if_pos h0];refine⟨by omega,?_⟩;refine aF yr false Tryz.f92 ?_;conv=>enter[1];reduce
  refine bI Tryz.f92 99 [.tmp 4] (by kernel_rfl) (by decide +kernel) rfl ?_;simp -implicitDefEqProofs only[go_sem,w1,h0,fg,aT]
 rw[if_neg h0];by_cases h1:r.b.length=0
 ·rw[if_pos h1];refine⟨by omega,?_⟩;refine aF yr false Tryz.f92 ?_;conv=>enter[1];reduce
  refine bI Tryz.f92 99 [.tmp 4] (by kernel_rfl) (by decide +kernel) rfl ?_;have h2:(((0:Nat):Int)==0)=true:=rfl;simp -implicitDefEqProofs only[go_sem,w1,h0,h1,h2,bW,aT]
 have h2:((r.b.length:Int)==0)=false:=by rw[beq_eq_false_iff_ne];omega
 rw[if_neg h1];by_cases h3:r.p<r.b.length
 ·rw[if_pos h3];have h4:(r.p:Int)<(r.b.length:Int):=by omega
  have hg:=rV (l:=r.b) (i:=r.p) h3;have pU:=qS r.b r.p;have w3:IntKind.i64.wrap (bL r.b r.p:Int)=(bL r.b r.p:Int):=aN (by omega);have hn:¬n=0:=by omega
  have hq:0<=(bL r.b r.p:Int).tmod n/\(bL r.b r.p:Int).tmod n<n:=⟨Int.tmod_nonneg _ (by omega),Int.tmod_lt_of_pos _ (by omega)⟩;refine⟨⟨hq.1,.inl hq.2⟩,?_⟩;refine aF yr false Tryz.f92 ?_;conv=>enter[1];reduce
  refine bI Tryz.f92 99 [.tmp 4] (by kernel_rfl) (by decide +kernel) rfl ?_;simp -implicitDefEqProofs only[go_sem,w1,w2,h0,h2,h4,hg,w3,hn,aT,aV,bW]
 rw[if_neg h3];unfold Jv;have h4:¬(r.p:Int)<(r.b.length:Int):=by omega
 have h5:¬((r.b.length:Int)=0):=by omega
 have hL:0<r.b.length:=by omega
 have e1:(r.p:Int).tmod (r.b.length:Int)=((r.p%r.b.length:Nat):Int):=by rw[Int.tmod_eq_emod_of_nonneg (by omega)];rfl
 have e2:IntKind.i64.wrap ((r.p:Int) * 7)=((r.p * 7:Nat):Int):=by rw[aN (by omega)];omega
 have e3:IntKind.i64.wrap (((r.p * 7:Nat):Int)+3)=((r.p * 7+3:Nat):Int):=by rw[aN (by omega)];omega
 have e4:((r.p * 7+3:Nat):Int).tmod (r.b.length:Int)=(((r.p * 7+3)%r.b.length:Nat):Int):=by rw[Int.tmod_eq_emod_of_nonneg (by omega)];rfl
 have e5:(r.p:Int).tdiv (r.b.length:Int)=((r.p/r.b.length:Nat):Int):=by rw[Int.tdiv_eq_ediv_of_nonneg (by omega)];rfl
 have l1:r.p%r.b.length<r.b.length:=Nat.mod_lt _ hL;have l2:(r.p * 7+3)%r.b.length<r.b.length:=Nat.mod_lt _ hL;have l3:r.p/r.b.length<=r.p:=Nat.div_le_self _ _;have g1:=rV l1;have g2:=rV l2;have b1:=qS r.b (r.p%r.b.length);have b2:=qS r.b ((r.p * 7+3)%r.b.length);generalize r.p%r.b.length=i1 at *;generalize (r.p * 7+3)%r.b.length=i2 at *;generalize r.p/r.b.length=i3 at *;generalize bL r.b i1=x1 at *;generalize bL r.b i2=x2 at *;have l1':(i1:Int)<(r.b.length:Int):=by omega
 have B9:(i2:Int)<(r.b.length:Int):=by omega
 have f1:IntKind.i64.wrap (x1:Int)=(x1:Int):=aN (by omega);have f2:IntKind.i64.wrap (x2:Int)=(x2:Int):=aN (by omega);have f3:IntKind.i64.wrap ((x1:Int) * 131)=((x1 * 131:Nat):Int):=by rw[aN (by omega)];omega
 have f4:IntKind.i64.wrap ((x2:Int) * 1117)=((x2 * 1117:Nat):Int):=by rw[aN (by omega)];omega
 have f5:IntKind.i64.wrap (((x1 * 131:Nat):Int)+((x2 * 1117:Nat):Int))=((x1 * 131+x2 * 1117:Nat):Int):=by rw[aN (by omega)];omega
 have f6:IntKind.i64.wrap ((r.p:Int) * 29)=((r.p * 29:Nat):Int):=by rw[aN (by omega)];omega
 have f7:IntKind.i64.wrap (((x1 * 131+x2 * 1117:Nat):Int)+((r.p * 29:Nat):Int))=((x1 * 131+x2 * 1117+r.p * 29:Nat):Int):=by rw[aN (by omega)];omega
 have f8:IntKind.i64.wrap ((i3:Int) * 53)=((i3 * 53:Nat):Int):=by rw[aN (by omega)];omega
 have f9:IntKind.i64.wrap (((x1 * 131+x2 * 1117+r.p * 29:Nat):Int)+((i3 * 53:Nat):Int))=((x1 * 131+x2 * 1117+r.p * 29+i3 * 53:Nat):Int):=by rw[aN (by omega)];omega
 have hX:x1 * 131+x2 * 1117+r.p * 29+i3 * 53<9223372036854775808:=by omega
 generalize x1 * 131+x2 * 1117+r.p * 29+i3 * 53=X at *;have f10:(X:Int).tdiv 64=((X/64:Nat):Int):=by rw[Int.tdiv_eq_ediv_of_nonneg (by omega)];rfl
 have hx:=Xh (x:=(X:Int)) (y:=((X/64:Nat):Int)) (by omega) (by omega);have hn:¬n=0:=by omega
 generalize hz:wF .i64 (X:Int) ((X/64:Nat):Int)=z at *;have hq:0<=z.tmod n/\z.tmod n<n:=⟨Int.tmod_nonneg _ hx,Int.tmod_lt_of_pos _ (by omega)⟩;have XE:IntKind.i64.wrap ((X/64:Nat):Int)=((X/64:Nat):Int):=aN (by omega);have f0:IntKind.i64.wrap (i3:Int)=(i3:Int):=aN (by omega);refine⟨⟨hq.1,.inl hq.2⟩,?_⟩;refine aF yr false Tryz.f92 ?_;conv=>enter[1];reduce
 refine bI Tryz.f92 99 [.tmp 4] (by kernel_rfl) (by decide +kernel) rfl ?_;simp -implicitDefEqProofs only[go_sem,w1,w2,h0,h2,h4,h5,e1,e2,e3,e4,e5,g1,g2,l1',B9,f0,f1,f2,f3,f4,f5,f6,f7,f8,f9,f10,XE,hz,hn,aT,aV,bW]
def Dr.bf (r:Dr) (i:Nat):Dr:=⟨r.b,r.p+i⟩
theorem ah1 (r:Dr) (i:Nat):(r.bf i).b=r.b:=rfl
theorem ah0 (r:Dr) (i:Nat):(r.bf i).p=r.p+i:=rfl
attribute [go_sem] ah1 ah0
def N6 (r:Dr):Nat->Nat
 | 0=>0
 | i+1=>(kZ .u64 (IntKind.u64.wrap ((N6 r i:Int) * 2 ^ 8)) (IntKind.u64.wrap (pk (r.bf i) 256))).toNat
def wd (r:Dr):Nat × Dr:=if pk r 6=0 then((pk r.nx 3).toNat,r.bf 2) else if pk r 6=1 then((QQ .u64 (pk r.nx 3)).toNat,r.bf 2) else(N6 r.nx 8,r.bf 9)
def uV (r:Dr):Nat->List UInt8
 | 0=>[]
 | i+1=>uV r i++[UInt8.ofNat (pk (r.bf i) 256).toNat]
theorem OD (r:Dr) (i:Nat):(uV r i).length=i:=by
 induction i with
 | zero=>rfl
 | succ i ih=>simp[uV,ih]
def tx (r:Dr) (n:Int):ByteArray × Dr:=(bA (uV r.nx (pk r (n+1)).toNat),r.nx.bf (pk r (n+1)).toNat)
theorem agz (r:Dr) (n:Int) (h:r.ok 900000000) (hn:0<=n/\n<=1000):aY Tryz.prog 202 r.row [vD,vI n] (vS (tx r n).1) (tx r n).2.row:=by
 refine aF yr false Tryz.f202 ?_;conv=>enter[1];reduce
 refine bI Tryz.f202 24 [.tmp 4] (by kernel_rfl) (by decide +kernel) rfl ?_;have hp:=h.2;have hk:=Fo r (n+1) ⟨h.1,by omega⟩;have w1:IntKind.i64.wrap (n+1)=n+1:=aN (by omega);refine aA w1 ?_;refine aE.intro hk.2 ?_;unfold tx;obtain⟨uh,-⟩:=hk;obtain⟨K,hK,hK2⟩:∃K:Nat,pk r (n+1)=K/\K<=1000:=⟨(pk r (n+1)).toNat,by omega,by omega⟩;rw[hK];refine au ?_;refine dq (fun m z=>∃i:Nat,i<=K/\m=K - i/\z=⟨24,[(0,vD),(5,.aw 5 0 [] 1 0 (uV r.nx i).length),(6,vI ((K - i:Nat):Int))],[(1000000,0,one ⟨2,[(r.nx.bf i).cs],0,false⟩),(5,0,one ⟨1,(uV r.nx i).map cE,2,false⟩)],1⟩) K ?_ ?_
 ·refine au ?_;exact⟨0,by omega,rfl,rfl⟩
 rintro m z ⟨i,hi,rfl,rfl⟩;have htl:=OD r.nx i;rcases bp i K with ab|bM
 ·have ah:((K - i:Nat):Int)>0:=by omega
  have SF:=Fo (r.nx.bf i) 256 ⟨h.1,by show r.p+1+i<=_;omega⟩;have w4:IntKind.i64.wrap (((K - i:Nat):Int) - 1)=((K - (i+1):Nat):Int):=by rw[aN (by omega)];omega
  have hb:IntKind.u8.wrap (pk (r.nx.bf i) 256)=(((pk (r.nx.bf i) 256).toNat%256:Nat):Int):=by rw[<-EH,Int.toNat_of_nonneg SF.1.1]
  have ha:∀x,_:=fun x=>ed (E:=cE) (l:=uV r.nx i) (xs:=[x]) (b:=1) (n:=100000) (by simp;omega) (by omega) (by omega)
  refine aA ah ?_;refine ji SF.2 w4 hb ha ?_;exact⟨_,by omega,i+1,ab,rfl,by simp[uV,cE];rfl⟩
 have hiK:i=K:=by omega
 subst hiK;have ah:¬(((i - i:Nat):Int)>0):=by omega
 refine yP ah ?_;rfl
def rep (s:List UInt8) (k:Nat):List UInt8:=(List.replicate k s).flatten
theorem PQ (s:List UInt8) (a b:Nat):rep s (a+b)=rep s a++rep s b:=by simp[rep,<-List.replicate_append_replicate]
theorem PO (s:List UInt8) (k:Nat):(rep s k).length=k * s.length:=by simp[rep,List.length_flatten,List.map_replicate,List.sum_replicate_nat]
theorem agO (s:List UInt8) (n:Nat) (hn:n<=30000) (hs:s.length<=4):ba Tryz.prog 156 [vS (bA s),vI n] (vS (bA (rep s n))) []:=by
 refine aF yr false Tryz.f156 ?_;conv=>enter[1];reduce
 refine bu Tryz.f156 20 [.tmp 4] (by kernel_rfl) (by decide +kernel) rfl ?_;refine au ?_;refine dq (fun m z=>∃q c x:Nat,m=q/\x+q * c=n/\(1<=c/\c<=2 * n+1)/\z=⟨20,[(0,vS (bA (rep s c))),(1,vI q),(5,vS (bA (rep s x)))],[],1⟩) n ?_ ?_
 ·refine au ?_;exact⟨n,1,0,rfl,by omega,by omega,by simp[rep];rfl⟩
 rintro m z ⟨q,c,x,rfl,hx,hc,rfl⟩;rcases Nat.eq_zero_or_pos m with h0|h0
 ·subst h0;have ah:¬(((0:Nat):Int)>0):=by omega
  refine aA ah ?_;rw[show x=n by omega]
 have ah:(m:Int)>0:=by omega
 have zS:c<=n:=Nat.le_trans (Nat.le_mul_of_pos_left c h0) (by omega);have oj:((m:Int)).tmod 2=((m%2:Nat):Int):=by rw[Int.tmod_eq_emod_of_nonneg (by omega)];omega
 have zK:((m:Int)).tdiv 2=((m/2:Nat):Int):=by rw[Int.tdiv_eq_ediv_of_nonneg (by omega)];omega
 have w1:IntKind.i64.wrap ((m/2:Nat):Int)=((m/2:Nat):Int):=by
  have pJ:m<=n:=Nat.le_trans (Nat.le_mul_of_pos_right m hc.1) (by omega);exact aN (by omega)
 have l1:=PO s c;have l2:=PO s x;have b1:c * s.length<=30000 * 4:=Nat.mul_le_mul (by omega) hs;have b2:x * s.length<=30000 * 4:=Nat.mul_le_mul (by omega) hs;have KE:¬((((rep s x).length+(rep s c).length:Nat):Int)>9223372036854775807):=by omega
 have zM:¬((((rep s c).length+(rep s c).length:Nat):Int)>9223372036854775807):=by omega
 have e2:rep s c++rep s c=rep s (2 * c):=by rw[<-PQ];congr 1;omega
 have e1:=(PQ s x c).symm;refine b8 ah oj ?_;rcases Nat.mod_two_eq_zero_or_one m with hm|hm
 ·have k1:(((m%2:Nat):Int)==1)=false:=by rw[hm];rfl
  simp -implicitDefEqProofs only[go_sem,k1,aV,zM,e2,zK,w1];refine⟨m/2,by omega,m/2,2 * c,x,rfl,?_,by omega,rfl⟩;have:m/2 * (2 * c)=m * c:=by rw[<-Nat.mul_assoc];congr 1;omega
  omega
 have k1:(((m%2:Nat):Int)==1)=true:=by rw[hm];rfl
 simp -implicitDefEqProofs only[go_sem,k1,aT,KE,zM,e1,e2,zK,w1];refine⟨m/2,by omega,m/2,2 * c,x+c,rfl,?_,by omega,rfl⟩;have h1:m/2 * (2 * c)=(m - 1) * c:=by rw[<-Nat.mul_assoc];congr 1;omega
 have h2:m * c=(m - 1) * c+c:=by
  obtain⟨k,rfl⟩:∃k,m=k+1:=⟨m - 1,by omega⟩;rw[Nat.add_mul,Nat.one_mul];rfl
 omega
theorem Dr.ok.le {r:Dr}{a b:Nat}(h:r.ok a) (hb:a<=b):r.ok b:=⟨h.1,Nat.le_trans h.2 hb⟩
theorem Dr.ok.bf {r:Dr}{a:Nat}(h:r.ok a) (i:Nat):(r.bf i).ok (a+i):=⟨h.1,Nat.add_le_add_right h.2 i⟩
theorem Dr.ok.nx {r:Dr}{a:Nat}(h:r.ok a):r.nx.ok (a+1):=⟨h.1,Nat.add_le_add_right h.2 1⟩
theorem fO {r:Dr}{n:Int}(h:r.ok 1000000000) (hn:1<=n):0<=pk r n/\pk r n<n:=by
 have:=(Fo r n h).1;omega
theorem er {r:Dr}(n:Int) (h:r.ok 1000000000):aY Tryz.prog 92 r.row [vD,vI n] (vI (pk r n)) r.nx.row:=(Fo r n h).2
theorem Yd (r:Dr) (n:Int) {a:Nat}(h:r.ok a) (ha:a<=900000000) (hn:0<=n):(tx r n).2.ok (a+1+n.toNat)/\(tx r n).1.size<=n.toNat:=by
 have hq:=fO (h.le (b:=1000000000) (by omega)) (n:=n+1) (by omega);refine⟨⟨h.1,?_⟩,?_⟩
 ·show r.p+1+(pk r (n+1)).toNat<=_
  have:=h.2;omega
 show(bA _).size<=_
 rw[iY,OD];omega
attribute [go_sem] gh
def aJ.pr (m:aJ):Row:=⟨4,m.proof.map aX.cs,2,false⟩
def aJ.lr (m:aJ):Row:=⟨1,m.az.map cF,2,false⟩
def Dr.rr (r:Dr):Nat × (Nat × d9):=(1000000,0,one ⟨2,[r.cs],0,false⟩)
attribute [go_sem] aJ.pr aJ.lr Dr.rr
structure NP (m:aJ):Prop where
 r:m.root.ok
 d:∀d∈m.proof,d.ok
 p:m.proof.length<=100
 l:m.az.length<=100
 s:∀s∈m.az,s.size<=100
theorem NP.with {m m':aJ}(h:NP m) (hr:m'.root.ok) (hp:m'.proof=m.proof) (hl:m'.az=m.az):NP m':=⟨hr,by rw[hp];exact h.d,by rw[hp];exact h.p,by rw[hl];exact h.l,by rw[hl];exact h.s⟩
def ae9:cc:=⟨[],cw,cz,false⟩
def Dr.r2 (r:Dr):ak:=[(1000000,0,one ⟨1,[[.ptr 1000001 0 [] 2 0 0]],0,false⟩),(1000001,0,one ⟨2,[r.cs],0,false⟩)]
attribute [go_sem] Dr.r2
theorem agk (l:List ByteArray) (h:eJ l=true):ba Tryz.prog 252 [.ro 1 (l.map cF)] (.agg (vI l.length::(fp l).cs)) []:=by
 refine aF ae9 false Tryz.f252 ?_;conv=>enter[1];reduce
 refine bu Tryz.f252 12 [.cell 2 41] (by kernel_rfl) (by decide +kernel) rfl ?_;have hl:=(gB h).1;refine au ?_;refine aq.intro (tp l (by unfold maxLen;omega)) ?_;refine Ik h ?_;refine aq.intro (An l h) ?_;exact dy
def ae8:cc:=⟨[],cw,cz,false⟩
def Dr.r3 (r:Dr):ak:=[(1000000,0,one ⟨1,[[.ptr 1000001 0 [] 1 0 0]],0,false⟩),(1000001,0,one ⟨1,[[.ptr 1000002 0 [] 2 0 0]],0,false⟩),(1000002,0,one ⟨2,[r.cs],0,false⟩)]
attribute [go_sem] Dr.r3
def tJ (l:List ByteArray):cg:=if eJ l then⟨l.length,(fp l).dg⟩ else .zero
theorem Yo (l:List ByteArray):(tJ l).root.ok/\(0<=(tJ l).size/\(tJ l).size<=(l.length:Int)):=by
 unfold tJ;split
 ·exact⟨(fp l).Dk,Int.natCast_nonneg _,Int.le_refl _⟩
 exact⟨pX,Int.le_refl _,Int.natCast_nonneg _⟩
theorem Yp (l:List ByteArray) (hl:l.length<=maxLen):ba Tryz.prog 252 [.ro 1 (l.map cF)] (.agg (tJ l).cs) []:=by
 unfold tJ;cases h:eJ l with
 | true=>exact agk l h
 | false=>
  refine aF ae8 false Tryz.f252 ?_;conv=>enter[1];reduce
  refine bu Tryz.f252 12 [.cell 2 41] (by kernel_rfl) (by decide +kernel) rfl ?_;refine au ?_;refine aq.intro (tp l hl) ?_;simp -implicitDefEqProofs only[go_sem,h,Bool.not_false,aT];rfl
section
def Ma:cc:=⟨[(92,.cm [true,false])],cw,cz,false⟩
attribute [-go_sem] ei
def i9 (l:List aC) (node:Int):List Nat->List Nat:=List.filter fun k=>(l.getD k ⟨0,0,⟨#[]⟩⟩).iB==node
theorem abS (l:List aC) (node:Int):∀k∈i9 l node (List.range l.length),k<l.length:=fun k hk=>List.mem_range.1 (List.mem_filter.1 hk).1
theorem abT (l:List aC) (node:Int) (n:Nat):(i9 l node (List.range n)).length<=n:=Nat.le_trans (List.length_filter_le _ _) (Nat.le_of_eq List.length_range)
theorem abR (l:List aC) (node:Int) {i:Nat}(h:i<l.length):i9 l node (List.range (i+1))=i9 l node (List.range i)++(if l[i].iB==node then [i] else []):=by
 unfold i9;rw[List.range_succ,List.filter_append];congr 1;simp only[List.filter_cons,List.filter_nil,List.getD_eq_getElem?_getD,bm h,Option.getD_some]
theorem Vw {room:Int}{l:List aC}(h:nk room l) (node:Int):ba Tryz.prog 200 [iL room l,vI node] (.aw 0 0 [] 1 0 (i9 l node (List.range l.length)).length) [([],⟨1,(i9 l node (List.range l.length)).map jN,2,false⟩)]:=by
 refine aF Ma false Tryz.f200 ?_;conv=>enter[1];reduce
 refine bu Tryz.f200 32 [.tmp 4] (by kernel_rfl) (by decide +kernel) rfl ?_;have yd:=yA h;have hl:l.length<=1000:=by have:=h.n;omega
 unfold iL at yd ⊢;refine au ?_;refine aq.intro yd ?_;simp -implicitDefEqProofs only[go_sem,Bool.not_true,aV];refine dq (fun m s=>∃(i:Nat) (X:List Nat),(i<=l.length/\X=i9 l node (List.range i))/\m=l.length - i/\s=⟨32,[(1,vI node),(2,.ptr 2 0 [] 2 0 0),(5,.aw 5 0 [] 1 0 X.length),(6,vI i)],[(2,0,one ⟨2,[[vI room,.ro 3 (l.map aC.cs)]],0,false⟩),(5,0,one ⟨1,X.map jN,2,false⟩)],1⟩) l.length ?_ ?_
 ·refine au ?_;exact⟨0,[],⟨aR _,rfl⟩,rfl,rfl⟩
 rintro m s ⟨i,X,⟨hi,hX⟩,rfl,rfl⟩;rcases bp i l.length with ab|bM
 ·have ah:(i:Int)<(l.length:Int):=by omega
  have hg:l[i]?=some l[i]:=bm ab;have hw:=dx ab (show l.length<=maxLen by unfold maxLen;omega);have aD:=abR l node ab;have GU:=abT l node i;rw[<-hX]at aD GU;have ha:=JR X (by omega);cases e:(l[i].iB==node) with
  | true=>
   rw[if_pos e]at aD;simp -implicitDefEqProofs only[go_sem,ah,hg,hw,e,ha,aT];refine⟨_,by omega,i+1,_,⟨ab,aD.symm⟩,rfl,?_⟩;simp only[gj,jN]
  | false=>
   rw[if_neg (by rw[e];decide),List.append_nil]at aD;simp -implicitDefEqProofs only[go_sem,ah,hg,hw,e,aV];exact⟨_,by omega,i+1,_,⟨ab,aD.symm⟩,rfl,rfl⟩
 have hi:i=l.length:=by omega
 subst hi;have ah:¬((l.length:Int)<(l.length:Int)):=by omega
 rw[<-hX];exact eE ah
theorem agI (l:List ByteArray) (hl:l.length<=1000):aY Tryz.prog 179 [] [.ro 1 (l.map cF)] (.aw 0 0 [] 1 0 l.length) [(0,0,one ⟨1,l.map cF,2,false⟩)]:=by
 refine aF Ma false Tryz.f179 ?_;conv=>enter[1];reduce
 refine bI Tryz.f179 20 [.tmp 2] (by kernel_rfl) (by decide +kernel) rfl ?_;have hm:l.length<=maxLen:=by unfold maxLen;omega
 refine au ?_;refine dq (fun m s=>∃i:Nat,i<=l.length/\m=l.length - i/\s=⟨20,[(0,.ro 1 (l.map cF)),(3,.aw 3 0 [] 1 0 (l.take i).length),(4,vI i)],[(3,0,one ⟨1,(l.take i).map cF,2,false⟩)],1⟩) l.length ?_ ?_
 ·refine au ?_;exact⟨0,aR _,rfl,rfl⟩
 rintro m s ⟨i,hi,rfl,rfl⟩;rcases bp i l.length with ab|bM
 ·have ah:(i:Int)<(l.length:Int):=by omega
  have hg:l[i]?=some l[i]:=bm ab;have hw:=dx ab hm;have ha:∀x,_:=fun x=>ed (E:=cF) (l:=l.take i) (xs:=[x]) (b:=16) (n:=2000) (by simp;omega) (by omega) (by omega)
  refine dP ah hg hw ha ?_;refine⟨_,by omega,i+1,ab,rfl,?_⟩;rw[List.take_succ_eq_append_getElem ab];simp only[gj];rfl
 have hi:i=l.length:=by omega
 subst hi;have ah:¬((l.length:Int)<(l.length:Int)):=by omega
 exact uN ah
structure DW where
 r:Dr
 ev:Bool
 alt:List ByteArray
 w:ae
def DW.cells (d:DW) (k:Nat):List AV:=[.ptr 1000001 0 [] 2 0 0,vI d.w.set.many,vI d.w.set.eH,vI d.w.set.bB,vI d.w.set.room,vI d.w.set.inbox,vB d.ev,.aw k 0 [] 1 0 d.alt.length]++d.w.cells (k+1) 1
def DW.sig (d:DW) (k:Nat):ak:=(1000000,0,one ⟨43,[d.cells k],0,false⟩)::(1000001,0,one ⟨2,[d.r.cs],0,false⟩)::(k,0,one ⟨1,d.alt.map cF,2,false⟩)::d.w.rows (k+1) 1
abbrev uU:AV:=.ptr 1000000 0 [] 43 0 0
attribute [go_sem] DW.cells DW.sig ae.cells ae.rows
structure DW.ok (d:DW) (n:Nat):Prop where
 r:d.r.ok n
 w:d.w.wf
 a:d.alt.length<=100
@[go_sem] theorem aiB:ti Tryz.prog 128=some ⟨43,504,true,some [.sc (.pointer none),.sc (.int .i64 0),.sc (.int .i64 0),.sc (.int .i64 0),.sc (.int .i64 0),.sc (.int .i64 0),.sc (.bool false),.aG,.sc (.int .i64 0),.sc (.int .i64 0),.sc (.int .i64 0),.sc (.int .i64 0),.sc (.int .i64 0),.aG,.aG,.aG,.sc (.int .i64 0),.sc (.int .i64 0),.sc (.int .i64 0),.sc (.int .i64 0),.sc (.int .i64 0),.sc (.int .u64 0),.sc (.int .u64 0),.sc (.int .u64 0),.sc (.int .u64 0),.aG,.sc (.int .i64 0),.sc (.int .u64 0),.sc (.int .u64 0),.sc (.int .u64 0),.sc (.int .u64 0),.aG,.sc (.int .i64 0),.sc (.int .u64 0),.sc (.int .u64 0),.sc (.int .u64 0),.sc (.int .u64 0),.aG,.aG,.sc (.int .i64 0),.aG,.aG,.sc (.bool false)],[(0,1),(1,5),(6,1),(7,1),(8,35)],0,0,.struct⟩:=by kernel_rfl
theorem agy (d:DW) (h:d.ok 900000000):aY Tryz.prog 203 (d.sig 1000002) [uU] (vI (d.w.set.many+1+pk d.r (d.w.set.bB+1))) ({d with r:=d.r.nx}.sig 1000002):=by
 refine aF Ma false Tryz.f203 ?_;conv=>enter[1];reduce
 refine bI Tryz.f203 21 [.tmp 2] (by kernel_rfl) (by decide +kernel) rfl ?_;have hx:=h.w.hx;have hs:=ea h.w.so;have hr:d.r.ok 1000000000:=h.r.le (by omega);have q:=fO (n:=d.w.set.bB+1) hr (by omega);have w1:IntKind.i64.wrap (d.w.set.many+1)=d.w.set.many+1:=aN (by omega);have w2:IntKind.i64.wrap (d.w.set.bB+1)=d.w.set.bB+1:=aN (by omega);have w3:IntKind.i64.wrap (d.w.set.many+1+pk d.r (d.w.set.bB+1))=d.w.set.many+1+pk d.r (d.w.set.bB+1):=aN (by omega);refine eV w1 w2 hx ?_;refine aE.intro (er _ hr) ?_;exact dp w3 hx
end
end Go.Proofs.YtobpfkgabdeefaaGreat.E
