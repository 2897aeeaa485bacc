/- Contracts: a world in new memory, by value; The world as it is made by the program, plain; the contract: the program plays -/
import Derived.Test.YtobpfkgabdeefaaGreatQ41
namespace Go.Proofs.YtobpfkgabdeefaaGreat.E
open Go Go.RowKit
set_option maxHeartbeats 4000000
set_option maxRecDepth 10000
set_option linter.unusedSimpArgs false
set_option linter.unusedVariables false
set_option linter.unusedSectionVars false
section
def aeQ:cc:=⟨[(89,.ca),(118,.cm [false]),(119,.ca),(120,.cm [false]),(121,.ca),(122,.cm [false]),(123,.cm [false]),(124,.ca),(125,.ca),(126,.cm [false]),(127,.cm [false]),(128,.cm [false])],cw,cz,false⟩
attribute [-go_sem] ei
theorem XW (l:List ByteArray) (hl:l.length<=1000000):aY Tryz.prog 118 [] [.ro 1 (l.map cF)] (.ro 1 (l.map cF)) []:=
 Ht (fl:=2) (by decide) (by rw[List.length_map];exact uB l (by omega))
theorem XT (l:List bD) (hl:l.length<=1000000):aY Tryz.prog 120 [] [.ro 7 (l.map bD.cs)] (.ro 7 (l.map bD.cs)) []:=
 Ht (fl:=2) (by decide) (by rw[List.length_map];exact DF l (by omega))
theorem XV (l:List aC) (hl:l.length<=1000000):aY Tryz.prog 126 [] [.ro 3 (l.map aC.cs)] (.ro 3 (l.map aC.cs)) []:=
 Ht (fl:=2) (by decide) (by rw[List.length_map];exact pe l (by omega))
theorem XX (l:List aX) (hl:l.length<=1000000):aY Tryz.prog 128 [] [.ro 4 (l.map aX.cs)] (.ro 4 (l.map aX.cs)) []:=
 Ht (fl:=2) (by decide) (by rw[List.length_map];exact DE l (by omega))
theorem XY (c:bw) (hl:c.bj.length<=100):aY Tryz.prog 122 [] [c.ro] c.ro []:=by
 have hf:∃σ,((kU [(0,0,one c.ar)] []).bind fun σ=>jZ σ (c.av []))=some (σ,c.ro):=by
  have h:(((kU [(0,0,one c.ar)] []).bind fun σ=>jZ σ (c.av [])).map fun x=>x.2)=some c.ro:=by
   simp -implicitDefEqProofs only[go_sem,kU,jZ,sub]
  obtain⟨⟨σ,v⟩,h1,h2⟩:=cP h;cases h2;exact⟨σ,h1⟩
 obtain⟨σ,hf⟩:=hf;exact(HN c hl).val [] hf
theorem XU (m:c9) (h1:m.cl.bj.length<=100) (h2:m.az.length<=1000):aY Tryz.prog 123 [] [m.ro] m.ro []:=by
 have hf:∃σ,((kU m.BE []).bind fun σ=>jZ σ m.DL)=some (σ,m.ro):=by
  have h:(((kU m.BE []).bind fun σ=>jZ σ m.DL).map fun x=>x.2)=some m.ro:=by
   simp -implicitDefEqProofs only[go_sem,kU,jZ,sub]
  obtain⟨⟨σ,v⟩,h1,h2⟩:=cP h;cases h2;exact⟨σ,h1⟩
 obtain⟨σ,hf⟩:=hf;exact(HM m h1 h2).val [] hf
def yw (w:ae) (W C U B K:AV):List AV:=[vI w.set.many,vI w.set.eH,vI w.set.bB,vI w.set.room,vI w.set.inbox,.ro 1 (w.log.map cF),W,C]++(w.cS.rc++[U,B,vI w.room,.ro 3 (w.aO.map aC.cs),K,vB w.stop])
def nf (w:ae):List (List AV):=w.bx.map pg
def Pt (w:ae) (k:Nat):List AV:=yw w (.aw k 0 [] 15 0 w.aj.length) (.aw (k+1) 0 [] 15 0 w.cls.length) (.aw (k+2) 0 [] 1 0 w.up.length) (.ro 1 (nf w)) (.aw (k+3) 0 [] 16 0 w.book.length)
def sR (w:ae) (k:Nat) (a b c:Bool):ak:=[(1000000,0,one ⟨35,[Pt w k],0,false⟩),
 (k,0,one ⟨15,w.aj.map bz.rc,1,a⟩),(k+1,0,one ⟨15,w.cls.map bw.rc,1,b⟩),(k+2,0,one ⟨1,w.up.map dw,2,c⟩),(k+3,0,one ⟨16,w.book.map dK.cs,1,false⟩)]
attribute [go_sem] yw sR Pt
structure ae.small (w:ae):Prop where
 log:w.log.length<=1000
 aj:w.aj.length<=1000
 cls:w.cls.length<=1000
 up:w.up.length<=1000
 ai:w.ai.length<=1000
 aO:w.aO.length<=1000
 book:w.book.length<=4000000000
 ack:w.cS.cl.bj.length<=100
 lv:w.cS.az.length<=1000
 ws:∀x∈w.aj,x.aQ.length<=1000
 ca:∀x∈w.cls,x.bj.length<=100
 bx:∀x∈w.ai,x.length<=1000
 pf:∀x∈w.book,x.proof.length<=1000
theorem Bg {α:Type}{l:List α}{i:Nat}{a:α}(h:l[i]?=some a):l.set i a=l:=by
 have hi:i<l.length:=(List.getElem?_eq_some_iff.1 h).1;have e:l[i]=a:=(List.getElem?_eq_some_iff.1 h).2;rw[<-e];exact List.set_getElem_self hi
theorem afM (w:ae) (h:w.small):aY Tryz.prog 77 (sR w 1000001 false false false) [eI] w.rv []:=by
 refine aF aeQ false Tryz.f77 ?_;conv=>enter[1];reduce
 refine rl Tryz.f77 136 [.cell 2 64] (by kernel_rfl) (by decide +kernel) rfl rfl ?_;have hb:nf w=w.bx.map fun b=>[AV.ro 3 b]:=rfl
 have qA:(nf w).length=w.ai.length:=by unfold nf;rw[List.length_map,dh]
 have xT:w.bx.length=w.ai.length:=dh w;have k1:=XW w.log (by have:=h.log;omega);have k2:=ag3 w.aj (by have:=h.aj;omega);have f2:=TB w.aj;generalize dJ (w.aj.map bz.rc)=fw at *;refine au ?_;refine ep k1 ?_;refine jj k2 f2 ?_;have m1:w.aj.length<=maxLen:=by have:=h.aj;unfold maxLen;omega
 refine im (fun m s=>∃(i:Nat),i<=w.aj.length/\m=w.aj.length - i/\s=⟨136,[(0,eI),(2,.ptr 2 0 [] 35 0 0),(3,.ptr 3 0 [] 35 0 0),(27,vI w.aj.length),(28,vI i)],sR w 900000 true false false++[(2,0,one ⟨35,[jL],0,false⟩),(3,0,one ⟨35,[yw w (.aw 10003 0 [] 15 0 w.aj.length) (.aw 900001 0 [] 15 0 w.cls.length) (.aw 900002 0 [] 1 0 w.up.length) (.ro 1 (nf w)) (.aw 900003 0 [] 16 0 w.book.length)],0,false⟩),(10003,0,one ⟨15,w.aj.map bz.rc,1,false⟩)],1⟩) w.aj.length (bO.step (aB.b9 [1000000] [0,2,3,27,28] _) ?_) ?_
 ·refine aA f2 ?_;refine bO.step (aB.qe (r:=10003) (w.aj.map bz.rc) 1 (by decide) f2 rfl (hY.refl _)) ?_;refine au ?_;refine bO.intro (aB.refl _) ?_;exact⟨0,aR _,rfl,rfl⟩
 rintro m s ⟨i,hi,rfl,rfl⟩;rcases bp i w.aj.length with ab|bM
 ·have ah:(i:Int)<(w.aj.length:Int):=by omega
  have hg:w.aj[i]?=some w.aj[i]:=bm ab;have hw:=dx ab m1;have rF:(w.aj.map bz.rc)[i]?=some (w.aj[i]).rc:=by rw[List.getElem?_map,hg];rfl
  have rA:=Bg rF;have kw:=XT w.aj[i].aQ (by have:=h.ws _ (List.getElem_mem ab);omega);generalize w.aj[i]=y at *;simp only[bz.rc,bz.cs,cX.cs,List.cons_append,List.nil_append]at rA;simp -implicitDefEqProofs only[go_sem,ah,hg,bz.rc];refine aE.intro kw ?_;simp -implicitDefEqProofs only[go_sem,ah,hg,bz.rc,rA,hw];refine fh.intro (w.aj.length - (i+1)) (by omega) (aB.b9 [1000000] [0,2,3,27,28] _) ?_;refine au ?_;exact⟨i+1,ab,rfl,rfl⟩
 have hi:i=w.aj.length:=by omega
 cases hi;have ah:¬((w.aj.length:Int)<(w.aj.length:Int)):=by omega
 have k3:=ag2 w.cls (by have:=h.cls;omega);have f3:=TD w.cls;generalize dJ (w.cls.map bw.rc)=fc at *;refine aA ah ?_;refine jj k3 f3 ?_;have m2:w.cls.length<=maxLen:=by have:=h.cls;unfold maxLen;omega
 refine im (fun m s=>∃(i:Nat),i<=w.cls.length/\m=w.cls.length - i/\s=⟨136,[(0,eI),(2,.ptr 2 0 [] 35 0 0),(3,.ptr 3 0 [] 35 0 0),(52,vI w.cls.length),(53,vI i)],sR w 900000 true true false++[(2,0,one ⟨35,[jL],0,false⟩),(3,0,one ⟨35,[yw w (.aw 10003 0 [] 15 0 w.aj.length) (.aw 20003 0 [] 15 0 w.cls.length) (.aw 900002 0 [] 1 0 w.up.length) (.ro 1 (nf w)) (.aw 900003 0 [] 16 0 w.book.length)],0,false⟩),(10003,0,one ⟨15,w.aj.map bz.rc,1,false⟩),(20003,0,one ⟨15,w.cls.map bw.rc,1,false⟩)],1⟩) w.cls.length (bO.step (aB.b9 [1000000] [0,2,3,52,53] _) ?_) ?_
 ·refine aA f3 ?_;refine bO.step (aB.qe (r:=20003) (w.cls.map bw.rc) 1 (by decide) f3 rfl (hY.refl _)) ?_;refine au ?_;refine bO.intro (aB.refl _) ?_;exact⟨0,aR _,rfl,rfl⟩
 rintro m s ⟨i,hi,rfl,rfl⟩;rcases bp i w.cls.length with ab|bM
 ·have ah:(i:Int)<(w.cls.length:Int):=by omega
  have hg:w.cls[i]?=some w.cls[i]:=bm ab;have hw:=dx ab m2;have rF:(w.cls.map bw.rc)[i]?=some (w.cls[i]).rc:=by rw[List.getElem?_map,hg];rfl
  have rA:=Bg rF;have kw:=XY w.cls[i] (h.ca _ (List.getElem_mem ab));generalize w.cls[i]=y at *;simp only[bw.rc,bw.cs]at rA;simp -implicitDefEqProofs only[go_sem,ah,hg,bw.rc];refine aE.intro kw ?_;simp -implicitDefEqProofs only[go_sem,ah,hg,bw.rc,rA,hw];refine fh.intro (w.cls.length - (i+1)) (by omega) (aB.b9 [1000000] [0,2,3,52,53] _) ?_;refine au ?_;exact⟨i+1,ab,rfl,rfl⟩
 have hi:i=w.cls.length:=by omega
 cases hi;have ah:¬((w.cls.length:Int)<(w.cls.length:Int)):=by omega
 have k4:=XU w.cS h.ack h.lv;have k5:=ag1 w.up (by have:=h.up;omega);have k6:=ag0 w.bx (by rw[xT];have:=h.ai;omega);have f6:=TE w.bx;have qF:List.map pg w.bx=nf w:=rfl;rw[qF]at k6 f6;rw[xT]at k6;generalize dJ (nf w)=fb at *;refine aA ah ?_;refine ep k4 ?_;refine cT k5 ?_;refine jj k6 f6 ?_;have m3:w.ai.length<=maxLen:=by have:=h.ai;unfold maxLen;omega
 refine im (fun m s=>∃(i:Nat),i<=w.ai.length/\m=w.ai.length - i/\s=⟨136,[(0,eI),(2,.ptr 2 0 [] 35 0 0),(3,.ptr 3 0 [] 35 0 0),(87,vI w.ai.length),(88,vI i)],sR w 900000 true true true++[(2,0,one ⟨35,[jL],0,false⟩),(3,0,one ⟨35,[yw w (.aw 10003 0 [] 15 0 w.aj.length) (.aw 20003 0 [] 15 0 w.cls.length) (.aw 30003 0 [] 1 0 w.up.length) (.aw 40003 0 [] 1 0 w.ai.length) (.aw 900003 0 [] 16 0 w.book.length)],0,false⟩),(10003,0,one ⟨15,w.aj.map bz.rc,1,false⟩),(20003,0,one ⟨15,w.cls.map bw.rc,1,false⟩),(30003,0,one ⟨1,w.up.map dw,2,false⟩),(40003,0,one ⟨1,nf w,1,false⟩)],1⟩) w.ai.length (bO.step (aB.b9 [1000000] [0,2,3,87,88] _) ?_) ?_
 ·refine aA f6 ?_;refine bO.step (aB.qe (r:=40003) (nf w) 1 (by decide) f6 rfl (hY.refl _)) ?_;refine au ?_;refine bO.intro (aB.refl _) ?_;exact⟨0,aR _,rfl,rfl⟩
 rintro m s ⟨i,hi,rfl,rfl⟩;rcases bp i w.ai.length with ab|bM
 ·have ah:(i:Int)<(w.ai.length:Int):=by omega
  have rF:(nf w)[i]?=some [AV.ro 3 (w.ai[i].map aC.cs)]:=by
   unfold nf ae.bx;rw[List.getElem?_map,List.getElem?_map,bm ab];rfl
  have hw:=dx ab m3;have rA:=Bg rF;have kw:=XV w.ai[i] (by have:=h.bx _ (List.getElem_mem ab);omega);generalize w.ai[i]=y at *;refine eV ah rF qA ?_;refine aE.intro kw ?_;refine qc ah rF qA rA hw ?_;refine fh.intro (w.ai.length - (i+1)) (by omega) (aB.b9 [1000000] [0,2,3,87,88] _) ?_;refine au ?_;exact⟨i+1,ab,rfl,rfl⟩
 have hi:i=w.ai.length:=by omega
 cases hi;have ah:¬((w.ai.length:Int)<(w.ai.length:Int)):=by omega
 have k7:=wm w.room w.aO h.aO;have k8:=afI w.book (by have:=h.book;omega);have f8:=TC w.book;generalize dJ (w.book.map dK.cs)=fe at *;refine aA ah ?_;refine ep k7 ?_;refine jj k8 f8 ?_;have m4:w.book.length<=maxLen:=by have:=h.book;unfold maxLen;omega
 refine im (fun m s=>∃(i:Nat),i<=w.book.length/\m=w.book.length - i/\s=⟨136,[(2,.ptr 2 0 [] 35 0 0),(3,.ptr 3 0 [] 35 0 0),(118,vI w.book.length),(119,vI i)],[(2,0,one ⟨35,[jL],0,false⟩),(3,0,one ⟨35,[yw w (.aw 10003 0 [] 15 0 w.aj.length) (.aw 20003 0 [] 15 0 w.cls.length) (.aw 30003 0 [] 1 0 w.up.length) (.aw 40003 0 [] 1 0 w.ai.length) (.aw 50003 0 [] 16 0 w.book.length)],0,false⟩),(10003,0,one ⟨15,w.aj.map bz.rc,1,false⟩),(20003,0,one ⟨15,w.cls.map bw.rc,1,false⟩),(30003,0,one ⟨1,w.up.map dw,2,false⟩),(40003,0,one ⟨1,nf w,1,false⟩),(50003,0,one ⟨16,w.book.map dK.cs,1,false⟩)],1⟩) w.book.length (bO.step (aB.b9 [] [2,3,118,119] _) ?_) ?_
 ·refine aA f8 ?_;refine bO.step (aB.qe (r:=50003) (w.book.map dK.cs) 1 (by decide) f8 rfl (hY.refl _)) ?_;refine au ?_;refine bO.intro (aB.refl _) ?_;exact⟨0,aR _,rfl,rfl⟩
 rintro m s ⟨i,hi,rfl,rfl⟩;rcases bp i w.book.length with ab|bM
 ·have ah:(i:Int)<(w.book.length:Int):=by omega
  have hg:w.book[i]?=some w.book[i]:=bm ab;have rF:(w.book.map dK.cs)[i]?=some (w.book[i]).cs:=by rw[List.getElem?_map,hg];rfl
  have hw:=dx ab m4;have rA:=Bg rF;have kw:=XX w.book[i].proof (by have:=h.pf _ (List.getElem_mem ab);omega);generalize w.book[i]=y at *;simp only[dK.cs]at rA;simp -implicitDefEqProofs only[go_sem,ah,hg,dK.cs];refine aE.intro kw ?_;simp -implicitDefEqProofs only[go_sem,ah,hg,dK.cs,rA,hw];refine fh.intro (w.book.length - (i+1)) (by omega) (aB.b9 [] [2,3,118,119] _) ?_;refine au ?_;exact⟨i+1,ab,rfl,rfl⟩
 have hi:i=w.book.length:=by omega
 cases hi;have ah:¬((w.book.length:Int)<(w.book.length:Int)):=by omega
 have adF:List.map (fun b=>[AV.ro 3 b]) w.bx=nf w:=rfl;have iu:List.take w.ai.length (nf w)=nf w:=List.take_of_length_le (by rw[qA];exact Nat.le_refl _);refine aA ah ?_;refine dO.intro (aB.refl _) ?_;refine eV adF qA iu ?_
 first|exact True.intro|rfl|exact⟨rfl,rfl⟩
end
section
attribute [-go_sem] ei
def wz (s:et):ae:=⟨s,[],List.replicate s.many.toNat cJ,List.replicate s.bB.toNat bw.zero,c9.zero,List.replicate (s.many+s.bB+2).toNat false,List.replicate (s.many+s.bB+2).toNat [],s.room,[],[],false⟩
def Ku (v:ae) (n:Nat):ae:=eQ {v with up:=v.up.set n true} n
def ko (s:et):Nat->ae
 | 0=>wz s
 | n+1=>Ku (ko s n) n
theorem Xj {s:et}(h:ij s=true):(wz s).wl:=by
 have hs:=ea h;refine⟨h,?_,?_,?_,?_⟩
 ·show((List.replicate s.many.toNat cJ).length:Int)=s.many
  rw[List.length_replicate];omega
 ·show((List.replicate s.bB.toNat bw.zero).length:Int)=s.bB
  rw[List.length_replicate];omega
 ·show(List.replicate (s.many+s.bB+2).toNat false).length=(List.replicate s.many.toNat cJ).length+(List.replicate s.bB.toNat bw.zero).length+2
  simp only[List.length_replicate];omega
 show(List.replicate (s.many+s.bB+2).toNat ([]:List aC)).length=(List.replicate s.many.toNat cJ).length+(List.replicate s.bB.toNat bw.zero).length+2
 simp only[List.length_replicate];omega
theorem Rz {s:et}(h:ij s=true):∀n,(ko s n).wl
 | 0=>Xj h
 | n+1=>((Rz h n).up n true).fresh n
theorem ad7 (w:ae) (n:Nat):(eQ w n).up=w.up:=by
 unfold eQ
 repeat' split
 all_goals rfl
theorem Kc {s:et}:∀n,(ko s n).up.length=(s.many+s.bB+2).toNat
 | 0=>List.length_replicate
 | n+1=>by
  show(eQ {ko s n with up:=(ko s n).up.set n true} n).up.length=_
  rw[ad7];show((ko s n).up.set n true).length=_
  rw[List.length_set];exact Kc n
theorem TH {α:Type}(n:Nat) (z a:α):jf z (List.replicate n a) n=List.replicate n z:=by
 have h:=Df (z:=z) (l:=List.replicate n a);rw[List.length_replicate,List.map_replicate]at h;exact h
theorem abL {s:et}(h:ij s=true) {W C N:Nat}(hW:s.many=W) (hC:s.bB=C) (hN:N=W+C+2):∀n,n<=N->
  ko s n=⟨s,[],List.replicate W cJ,jf (dW s) (List.replicate C bw.zero) (min (n - (W+1)) C),if n=N then qm s else c9.zero,jf true (List.replicate N false) n,List.replicate N [],s.room,[],[],false⟩:=by
 have hs:=ea h;intro n;induction n with
 | zero=>
  intro _;show wz s=_
  unfold wz;rw[show s.many.toNat=W by omega,show s.bB.toNat=C by omega,show(s.many+s.bB+2).toNat=N by omega,if_neg (by omega),show 0 - (W+1)=0 by omega,Nat.zero_min];rfl
 | succ n ih=>
  intro hn;show Ku (ko s n) n=_
  rw[ih (by omega)];unfold Ku;simp only;rw[if_neg (by omega),Hh (by rw[List.length_replicate];omega)];have eo:(jf (dW s) (List.replicate C bw.zero) (min (n - (W+1)) C)).length=C:=by
   rw[rO (by rw[List.length_replicate];omega),List.length_replicate]
  unfold eQ;simp only[List.length_replicate,eo];by_cases h0:n=0
  ·rw[if_pos h0,if_neg (by omega),show min (n+1 - (W+1)) C=min (n - (W+1)) C by omega]
  rw[if_neg h0];by_cases h1:n<=W
  ·rw[if_pos h1,if_neg (by omega),show min (n+1 - (W+1)) C=min (n - (W+1)) C by omega];have e:(List.replicate W cJ).getD (n - 1) cJ=cJ:=by
    rw[List.getD_eq_getElem?_getD,List.getElem?_replicate];split<;>rfl
   rw[e,Bg (by rw[List.getElem?_replicate,if_pos (by omega)];rfl)]
  rw[if_neg h1];by_cases h2:n<=W+C
  ·rw[if_pos h2,if_neg (by omega),show n - W - 1=min (n - (W+1)) C by omega,Hh (by rw[List.length_replicate];omega),show min (n - (W+1)) C+1=min (n+1 - (W+1)) C by omega]
  rw[if_neg h2,if_pos (by omega),show min (n+1 - (W+1)) C=min (n - (W+1)) C by omega]
theorem abM {s:et}(h:ij s=true):ko s (s.many+s.bB+2).toNat=gz s:=by
 have hs:=ea h;obtain⟨W,hW⟩:∃W:Nat,s.many=(W:Int):=⟨s.many.toNat,by omega⟩;obtain⟨C,hC⟩:∃C:Nat,s.bB=(C:Int):=⟨s.bB.toNat,by omega⟩;rw[show(s.many+s.bB+2).toNat=W+C+2 by omega,abL h hW hC rfl _ (Nat.le_refl _),if_pos rfl,show min (W+C+2 - (W+1)) C=C by omega,TH,TH];unfold gz;rw[show s.many.toNat=W by omega,show s.bB.toNat=C by omega,show(s.many+s.bB+2).toNat=W+C+2 by omega]
theorem ae.wf.small {w:ae}(h:w.wf) (hb:w.book.length<=4000000000) (hp:∀e∈w.book,e.proof.length<=1000):w.small:=by
 have hs:=ea h.so;have fR:=h.nw;have jV:=h.nc;have jW:=h.nb;have om:=h.nu;have pU:=h.bl;have SA:=h.rm;have mU:=(ra h.mn).1;have hl:=(gB h.lg).1;have mo:=(gB mU.l).1;exact⟨by omega,by omega,by omega,by omega,by omega,by omega,hb,mU.a,by omega,fun x hx=>by have:=tH (h.wt x hx).2.1;omega,fun x hx=>(rT (h.cl x hx)).2,fun x hx=>by have:=(h.bx x hx).1;omega,hp⟩
theorem aas {s:et}{l:List bQ}(h:ij s=true) (hn:l.length<=600) (hl:∀x∈l,e9 x=true):(l.foldl eZ (gz s)).small:=by
 have hv:=wJ (zu h) hl;have fU:=HR (zu h) hl;have hb:=fU.len;have iW:(gz s).book.length=0:=rfl;obtain⟨L,e,-,hp⟩:=fU;refine hv.small (by omega) fun x hx=>?_
 rw[e]at hx;exact hp x (by simpa[gz]using hx)
end
end Go.Proofs.YtobpfkgabdeefaaGreat.E
