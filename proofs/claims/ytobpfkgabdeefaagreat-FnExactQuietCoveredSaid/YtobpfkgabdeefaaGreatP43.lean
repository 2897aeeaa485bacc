/- Contracts: a world in new memory, by value; The world as it is made by the program, plain; the contract: the program plays -/
import Derived.Test.YtobpfkgabdeefaaGreatP42
namespace Go.Proofs.YtobpfkgabdeefaaGreat.E
open Go Go.RowKit
set_option maxHeartbeats 4000000
set_option maxRecDepth 10000
set_option linter.unusedSimpArgs false
set_option linter.unusedVariables false
set_option linter.unusedSectionVars false
section
def aeB:bX:=⟨[(89,.ca),(118,.cm [false]),(119,.ca),(120,.cm [false]),(121,.ca),(122,.cm [false]),(123,.cm [false]),(124,.ca),(125,.ca),(126,.cm [false]),(127,.cm [false]),(128,.cm [false])],[9,10,11],[24,26,30,44,47,50,51,52,57,58,59,62,76,88,138,185,186,187,253,254,297,311],false⟩
attribute [-go_sem] ei
theorem XN (l:List ByteArray) (hl:l.length≤1000000):bb Tryz.prog 118 [] [.ro 1 (l.map cY)] (.ro 1 (l.map cY)) []:=
 Hp (fl:=2) (by decide) (by rw[List.length_map];exact uu l (by omega))
theorem XK (l:List bG) (hl:l.length≤1000000):bb Tryz.prog 120 [] [.ro 7 (l.map bG.cs)] (.ro 7 (l.map bG.cs)) []:=
 Hp (fl:=2) (by decide) (by rw[List.length_map];exact DJ l (by omega))
theorem XM (l:List aB) (hl:l.length≤1000000):bb Tryz.prog 126 [] [.ro 3 (l.map aB.cs)] (.ro 3 (l.map aB.cs)) []:=
 Hp (fl:=2) (by decide) (by rw[List.length_map];exact oW l (by omega))
theorem XO (l:List aW) (hl:l.length≤1000000):bb Tryz.prog 128 [] [.ro 4 (l.map aW.cs)] (.ro 4 (l.map aW.cs)) []:=
 Hp (fl:=2) (by decide) (by rw[List.length_map];exact DI l (by omega))
theorem XP (c:bu) (hl:c.bt.length≤100):bb Tryz.prog 122 [] [c.ro] c.ro []:=by
 have hf:∃σ,((kH [(0,0,one c.ar)] []).bind fun σ=>jg σ (c.av []))=some (σ,c.ro):=by
  have h:(((kH [(0,0,one c.ar)] []).bind fun σ=>jg σ (c.av [])).map fun x=>x.2)=some c.ro:=by
   simp -implicitDefEqProofs only[go_sem,kH,jg,sub]
  obtain⟨⟨σ,v⟩,h1,h2⟩:=cJ h;cases h2;exact⟨σ,h1⟩
 obtain⟨σ,hf⟩:=hf;exact(HO c hl).val [] hf
theorem XL (m:cQ) (h1:m.cl.bt.length≤100) (h2:m.az.length≤1000):bb Tryz.prog 123 [] [m.ro] m.ro []:=by
 have hf:∃σ,((kH m.BL []).bind fun σ=>jg σ m.DP)=some (σ,m.ro):=by
  have h:(((kH m.BL []).bind fun σ=>jg σ m.DP).map fun x=>x.2)=some m.ro:=by
   simp -implicitDefEqProofs only[go_sem,kH,jg,sub]
  obtain⟨⟨σ,v⟩,h1,h2⟩:=cJ h;cases h2;exact⟨σ,h1⟩
 obtain⟨σ,hf⟩:=hf;exact(HN m h1 h2).val [] hf
def sU (w:ai) (W C U B K:AV):List AV:=[vI w.set.many,vI w.set.eK,vI w.set.bB,vI w.set.room,vI w.set.inbox,.ro 1 (w.log.map cY),W,C]++(w.cD.rc++[U,B,vI w.room,.ro 3 (w.bj.map aB.cs),K,vB w.stop])
def mO (w:ai):List (List AV):=w.bx.map oX
def Pr (w:ai) (k:Nat):List AV:=sU w (.au k 0 [] 15 0 w.ah.length) (.au (k+1) 0 [] 15 0 w.cls.length) (.au (k+2) 0 [] 1 0 w.up.length) (.ro 1 (mO w)) (.au (k+3) 0 [] 16 0 w.book.length)
def sR (w:ai) (k:Nat) (a b c:Bool):aj:=[(1000000,0,one ⟨35,[Pr w k],0,false⟩),
 (k,0,one ⟨15,w.ah.map bE.rc,1,a⟩),(k+1,0,one ⟨15,w.cls.map bu.rc,1,b⟩),(k+2,0,one ⟨1,w.up.map dq,2,c⟩),(k+3,0,one ⟨16,w.book.map dy.cs,1,false⟩)]
attribute [go_sem] sU sR Pr
structure ai.small (w:ai):Prop where
 log:w.log.length≤1000
 ah:w.ah.length≤1000
 cls:w.cls.length≤1000
 up:w.up.length≤1000
 ak:w.ak.length≤1000
 bj:w.bj.length≤1000
 book:w.book.length≤4000000000
 ack:w.cD.cl.bt.length≤100
 lv:w.cD.az.length≤1000
 ws:∀x∈w.ah,x.aS.length≤1000
 ca:∀x∈w.cls,x.bt.length≤100
 bx:∀x∈w.ak,x.length≤1000
 pf:∀x∈w.book,x.proof.length≤1000
theorem Bn {α:Type}{l:List α}{i:Nat}{a:α}(h:l[i]?=some a):l.set i a=l:=by
 have hi:i<l.length:=(List.getElem?_eq_some_iff.1 h).1;have e:l[i]=a:=(List.getElem?_eq_some_iff.1 h).2;rw[←e];exact List.set_getElem_self hi
theorem afs (w:ai) (h:w.small):bb Tryz.prog 77 (sR w 1000001 false false false) [eA] w.rv []:=by
 refine aA aeB false Tryz.f77 ?_;conv=>enter[1];reduce
 refine qV Tryz.f77 136 [.cell 2 64] (by kernel_rfl) (by decide +kernel) rfl rfl ?_;have hb:mO w=w.bx.map fun b=>[AV.ro 3 b]:=rfl
 have qk:(mO w).length=w.ak.length:=by unfold mO;rw[List.length_map,de]
 have xW:w.bx.length=w.ak.length:=de w;have k1:=XN w.log (by have:=h.log;omega);have k2:=agQ w.ah (by have:=h.ah;omega);have f2:=Tw w.ah;generalize dx (w.ah.map bE.rc)=fw at *;refine aw ?_;refine eP k1 ?_;refine jm k2 f2 ?_;have m1:w.ah.length≤maxLen:=by have:=h.ah;unfold maxLen;omega
 refine iN (fun m s=>∃(i:Nat),i≤w.ah.length∧m=w.ah.length - i∧s=⟨136,[(0,eA),(2,.ptr 2 0 [] 35 0 0),(3,.ptr 3 0 [] 35 0 0),(27,vI w.ah.length),(28,vI i)],sR w 900000 true false false++[(2,0,one ⟨35,[jL],0,false⟩),(3,0,one ⟨35,[sU w (.au 10003 0 [] 15 0 w.ah.length) (.au 900001 0 [] 15 0 w.cls.length) (.au 900002 0 [] 1 0 w.up.length) (.ro 1 (mO w)) (.au 900003 0 [] 16 0 w.book.length)],0,false⟩),(10003,0,one ⟨15,w.ah.map bE.rc,1,false⟩)],1⟩) w.ah.length (cO.step (aI.dm [1000000] [0,2,3,27,28] _) ?_) ?_
 ·refine aC f2 ?_;refine cO.step (aI.pO (r:=10003) (w.ah.map bE.rc) 1 (by decide) f2 rfl (gM.refl _)) ?_;refine aw ?_;refine cO.intro (aI.refl _) ?_;exact⟨0,aQ _,rfl,rfl⟩
 rintro m s ⟨i,hi,rfl,rfl⟩;rcases bm i w.ah.length with ab|bH
 ·have ae:(i:Int)<(w.ah.length:Int):=by omega
  have hg:w.ah[i]?=some w.ah[i]:=bz ab;have hw:=df ab m1;have ra:(w.ah.map bE.rc)[i]?=some (w.ah[i]).rc:=by rw[List.getElem?_map,hg];rfl
  have q6:=Bn ra;have kw:=XK w.ah[i].aS (by have:=h.ws _ (List.getElem_mem ab);omega);generalize w.ah[i]=y at *;simp only[bE.rc,bE.cs,cS.cs,List.cons_append,List.nil_append]at q6;simp -implicitDefEqProofs only[go_sem,ae,hg,bE.rc];refine aD.intro kw ?_;simp -implicitDefEqProofs only[go_sem,ae,hg,bE.rc,q6,hw];refine fh.intro (w.ah.length - (i+1)) (by omega) (aI.dm [1000000] [0,2,3,27,28] _) ?_;refine aw ?_;exact⟨i+1,ab,rfl,rfl⟩
 have hi:i=w.ah.length:=by omega
 cases hi;have ae:¬((w.ah.length:Int)<(w.ah.length:Int)):=by omega
 have k3:=agP w.cls (by have:=h.cls;omega);have f3:=Ty w.cls;generalize dx (w.cls.map bu.rc)=fc at *;refine aC ae ?_;refine jm k3 f3 ?_;have m2:w.cls.length≤maxLen:=by have:=h.cls;unfold maxLen;omega
 refine iN (fun m s=>∃(i:Nat),i≤w.cls.length∧m=w.cls.length - i∧s=⟨136,[(0,eA),(2,.ptr 2 0 [] 35 0 0),(3,.ptr 3 0 [] 35 0 0),(52,vI w.cls.length),(53,vI i)],sR w 900000 true true false++[(2,0,one ⟨35,[jL],0,false⟩),(3,0,one ⟨35,[sU w (.au 10003 0 [] 15 0 w.ah.length) (.au 20003 0 [] 15 0 w.cls.length) (.au 900002 0 [] 1 0 w.up.length) (.ro 1 (mO w)) (.au 900003 0 [] 16 0 w.book.length)],0,false⟩),(10003,0,one ⟨15,w.ah.map bE.rc,1,false⟩),(20003,0,one ⟨15,w.cls.map bu.rc,1,false⟩)],1⟩) w.cls.length (cO.step (aI.dm [1000000] [0,2,3,52,53] _) ?_) ?_
 ·refine aC f3 ?_;refine cO.step (aI.pO (r:=20003) (w.cls.map bu.rc) 1 (by decide) f3 rfl (gM.refl _)) ?_;refine aw ?_;refine cO.intro (aI.refl _) ?_;exact⟨0,aQ _,rfl,rfl⟩
 rintro m s ⟨i,hi,rfl,rfl⟩;rcases bm i w.cls.length with ab|bH
 ·have ae:(i:Int)<(w.cls.length:Int):=by omega
  have hg:w.cls[i]?=some w.cls[i]:=bz ab;have hw:=df ab m2;have ra:(w.cls.map bu.rc)[i]?=some (w.cls[i]).rc:=by rw[List.getElem?_map,hg];rfl
  have q6:=Bn ra;have kw:=XP w.cls[i] (h.ca _ (List.getElem_mem ab));generalize w.cls[i]=y at *;simp only[bu.rc,bu.cs]at q6;simp -implicitDefEqProofs only[go_sem,ae,hg,bu.rc];refine aD.intro kw ?_;simp -implicitDefEqProofs only[go_sem,ae,hg,bu.rc,q6,hw];refine fh.intro (w.cls.length - (i+1)) (by omega) (aI.dm [1000000] [0,2,3,52,53] _) ?_;refine aw ?_;exact⟨i+1,ab,rfl,rfl⟩
 have hi:i=w.cls.length:=by omega
 cases hi;have ae:¬((w.cls.length:Int)<(w.cls.length:Int)):=by omega
 have k4:=XL w.cD h.ack h.lv;have k5:=agO w.up (by have:=h.up;omega);have k6:=agN w.bx (by rw[xW];have:=h.ak;omega);have f6:=Tz w.bx;have qq:List.map oX w.bx=mO w:=rfl;rw[qq]at k6 f6;rw[xW]at k6;generalize dx (mO w)=fb at *;refine aC ae ?_;refine eP k4 ?_;refine cz k5 ?_;refine jm k6 f6 ?_;have m3:w.ak.length≤maxLen:=by have:=h.ak;unfold maxLen;omega
 refine iN (fun m s=>∃(i:Nat),i≤w.ak.length∧m=w.ak.length - i∧s=⟨136,[(0,eA),(2,.ptr 2 0 [] 35 0 0),(3,.ptr 3 0 [] 35 0 0),(87,vI w.ak.length),(88,vI i)],sR w 900000 true true true++[(2,0,one ⟨35,[jL],0,false⟩),(3,0,one ⟨35,[sU w (.au 10003 0 [] 15 0 w.ah.length) (.au 20003 0 [] 15 0 w.cls.length) (.au 30003 0 [] 1 0 w.up.length) (.au 40003 0 [] 1 0 w.ak.length) (.au 900003 0 [] 16 0 w.book.length)],0,false⟩),(10003,0,one ⟨15,w.ah.map bE.rc,1,false⟩),(20003,0,one ⟨15,w.cls.map bu.rc,1,false⟩),(30003,0,one ⟨1,w.up.map dq,2,false⟩),(40003,0,one ⟨1,mO w,1,false⟩)],1⟩) w.ak.length (cO.step (aI.dm [1000000] [0,2,3,87,88] _) ?_) ?_
 ·refine aC f6 ?_;refine cO.step (aI.pO (r:=40003) (mO w) 1 (by decide) f6 rfl (gM.refl _)) ?_;refine aw ?_;refine cO.intro (aI.refl _) ?_;exact⟨0,aQ _,rfl,rfl⟩
 rintro m s ⟨i,hi,rfl,rfl⟩;rcases bm i w.ak.length with ab|bH
 ·have ae:(i:Int)<(w.ak.length:Int):=by omega
  have ra:(mO w)[i]?=some [AV.ro 3 (w.ak[i].map aB.cs)]:=by
   unfold mO ai.bx;rw[List.getElem?_map,List.getElem?_map,bz ab];rfl
  have hw:=df ab m3;have q6:=Bn ra;have kw:=XM w.ak[i] (by have:=h.bx _ (List.getElem_mem ab);omega);generalize w.ak[i]=y at *;refine ez ae ra qk ?_;refine aD.intro kw ?_;refine oe ae ra qk q6 hw ?_;refine fh.intro (w.ak.length - (i+1)) (by omega) (aI.dm [1000000] [0,2,3,87,88] _) ?_;refine aw ?_;exact⟨i+1,ab,rfl,rfl⟩
 have hi:i=w.ak.length:=by omega
 cases hi;have ae:¬((w.ak.length:Int)<(w.ak.length:Int)):=by omega
 have k7:=vY w.room w.bj h.bj;have k8:=afo w.book (by have:=h.book;omega);have f8:=Tx w.book;generalize dx (w.book.map dy.cs)=fe at *;refine aC ae ?_;refine eP k7 ?_;refine jm k8 f8 ?_;have m4:w.book.length≤maxLen:=by have:=h.book;unfold maxLen;omega
 refine iN (fun m s=>∃(i:Nat),i≤w.book.length∧m=w.book.length - i∧s=⟨136,[(2,.ptr 2 0 [] 35 0 0),(3,.ptr 3 0 [] 35 0 0),(118,vI w.book.length),(119,vI i)],[(2,0,one ⟨35,[jL],0,false⟩),(3,0,one ⟨35,[sU w (.au 10003 0 [] 15 0 w.ah.length) (.au 20003 0 [] 15 0 w.cls.length) (.au 30003 0 [] 1 0 w.up.length) (.au 40003 0 [] 1 0 w.ak.length) (.au 50003 0 [] 16 0 w.book.length)],0,false⟩),(10003,0,one ⟨15,w.ah.map bE.rc,1,false⟩),(20003,0,one ⟨15,w.cls.map bu.rc,1,false⟩),(30003,0,one ⟨1,w.up.map dq,2,false⟩),(40003,0,one ⟨1,mO w,1,false⟩),(50003,0,one ⟨16,w.book.map dy.cs,1,false⟩)],1⟩) w.book.length (cO.step (aI.dm [] [2,3,118,119] _) ?_) ?_
 ·refine aC f8 ?_;refine cO.step (aI.pO (r:=50003) (w.book.map dy.cs) 1 (by decide) f8 rfl (gM.refl _)) ?_;refine aw ?_;refine cO.intro (aI.refl _) ?_;exact⟨0,aQ _,rfl,rfl⟩
 rintro m s ⟨i,hi,rfl,rfl⟩;rcases bm i w.book.length with ab|bH
 ·have ae:(i:Int)<(w.book.length:Int):=by omega
  have hg:w.book[i]?=some w.book[i]:=bz ab;have ra:(w.book.map dy.cs)[i]?=some (w.book[i]).cs:=by rw[List.getElem?_map,hg];rfl
  have hw:=df ab m4;have q6:=Bn ra;have kw:=XO w.book[i].proof (by have:=h.pf _ (List.getElem_mem ab);omega);generalize w.book[i]=y at *;simp only[dy.cs]at q6;simp -implicitDefEqProofs only[go_sem,ae,hg,dy.cs];refine aD.intro kw ?_;simp -implicitDefEqProofs only[go_sem,ae,hg,dy.cs,q6,hw];refine fh.intro (w.book.length - (i+1)) (by omega) (aI.dm [] [2,3,118,119] _) ?_;refine aw ?_;exact⟨i+1,ab,rfl,rfl⟩
 have hi:i=w.book.length:=by omega
 cases hi;have ae:¬((w.book.length:Int)<(w.book.length:Int)):=by omega
 have adn:List.map (fun b=>[AV.ro 3 b]) w.bx=mO w:=rfl;have gY:List.take w.ak.length (mO w)=mO w:=List.take_of_length_le (by rw[qk];exact Nat.le_refl _);refine aC ae ?_;refine dK.intro (aI.refl _) ?_;refine ez adn qk gY ?_
 first|exact True.intro|rfl|exact⟨rfl,rfl⟩|trace_state
end
section
def ajk:bX:=⟨[(75,.cm [true,false]),(76,.cm [true,false]),(77,.cm [true])],[9,10,11],[24,26,30,44,47,50,51,52,57,58,59,62,76,88,138,185,186,187,253,254,297,311],false⟩
attribute [-go_sem] ei
def wz (s:cK):ai:=⟨s,[],List.replicate s.many.toNat cF,List.replicate s.bB.toNat bu.zero,cQ.zero,List.replicate (s.many+s.bB+2).toNat false,List.replicate (s.many+s.bB+2).toNat [],s.room,[],[],false⟩
def KE (v:ai) (n:Nat):ai:=eW {v with up:=v.up.set n true} n
def jV (s:cK):Nat→ai
 | 0=>wz s
 | n+1=>KE (jV s n) n
theorem Xa {s:cK}(h:fv s=true):(wz s).wl:=by
 have hs:=d7 h;refine⟨h,?_,?_,?_,?_⟩
 ·show((List.replicate s.many.toNat cF).length:Int)=s.many
  rw[List.length_replicate];omega
 ·show((List.replicate s.bB.toNat bu.zero).length:Int)=s.bB
  rw[List.length_replicate];omega
 ·show(List.replicate (s.many+s.bB+2).toNat false).length=(List.replicate s.many.toNat cF).length+(List.replicate s.bB.toNat bu.zero).length+2
  simp only[List.length_replicate];omega
 show(List.replicate (s.many+s.bB+2).toNat ([]:List aB)).length=(List.replicate s.many.toNat cF).length+(List.replicate s.bB.toNat bu.zero).length+2
 simp only[List.length_replicate];omega
theorem Ry {s:cK}(h:fv s=true):∀n,(jV s n).wl
 | 0=>Xa h
 | n+1=>((Ry h n).up n true).fresh n
theorem adQ (w:ai) (n:Nat):(eW w n).up=w.up:=by
 unfold eW
 repeat' split
 all_goals rfl
theorem Ki {s:cK}:∀n,(jV s n).up.length=(s.many+s.bB+2).toNat
 | 0=>List.length_replicate
 | n+1=>by
  show(eW {jV s n with up:=(jV s n).up.set n true} n).up.length=_
  rw[adQ];show((jV s n).up.set n true).length=_
  rw[List.length_set];exact Ki n
theorem TC {α:Type}(n:Nat) (z a:α):iT z (List.replicate n a) n=List.replicate n z:=by
 have h:=Dg (z:=z) (l:=List.replicate n a);rw[List.length_replicate,List.map_replicate]at h;exact h
theorem abw {s:cK}(h:fv s=true) {W C N:Nat}(hW:s.many=W) (hC:s.bB=C) (hN:N=W+C+2):∀n,n≤N→
  jV s n=⟨s,[],List.replicate W cF,iT (dP s) (List.replicate C bu.zero) (min (n - (W+1)) C),if n=N then p6 s else cQ.zero,iT true (List.replicate N false) n,List.replicate N [],s.room,[],[],false⟩:=by
 have hs:=d7 h;intro n;induction n with
 | zero=>
  intro _;show wz s=_
  unfold wz;rw[show s.many.toNat=W by omega,show s.bB.toNat=C by omega,show(s.many+s.bB+2).toNat=N by omega,if_neg (by omega),show 0 - (W+1)=0 by omega,Nat.zero_min];rfl
 | succ n ih=>
  intro hn;show KE (jV s n) n=_
  rw[ih (by omega)];unfold KE;simp only;rw[if_neg (by omega),Ha (by rw[List.length_replicate];omega)];have dT:(iT (dP s) (List.replicate C bu.zero) (min (n - (W+1)) C)).length=C:=by
   rw[ru (by rw[List.length_replicate];omega),List.length_replicate]
  unfold eW;simp only[List.length_replicate,dT];by_cases h0:n=0
  ·rw[if_pos h0,if_neg (by omega),show min (n+1 - (W+1)) C=min (n - (W+1)) C by omega]
  rw[if_neg h0];by_cases h1:n≤W
  ·rw[if_pos h1,if_neg (by omega),show min (n+1 - (W+1)) C=min (n - (W+1)) C by omega];have e:(List.replicate W cF).getD (n - 1) cF=cF:=by
    rw[List.getD_eq_getElem?_getD,List.getElem?_replicate];split<;>rfl
   rw[e,Bn (by rw[List.getElem?_replicate,if_pos (by omega)];rfl)]
  rw[if_neg h1];by_cases h2:n≤W+C
  ·rw[if_pos h2,if_neg (by omega),show n - W - 1=min (n - (W+1)) C by omega,Ha (by rw[List.length_replicate];omega),show min (n - (W+1)) C+1=min (n+1 - (W+1)) C by omega]
  rw[if_neg h2,if_pos (by omega),show min (n+1 - (W+1)) C=min (n - (W+1)) C by omega]
theorem abx {s:cK}(h:fv s=true):jV s (s.many+s.bB+2).toNat=gU s:=by
 have hs:=d7 h;obtain⟨W,hW⟩:∃W:Nat,s.many=(W:Int):=⟨s.many.toNat,by omega⟩;obtain⟨C,hC⟩:∃C:Nat,s.bB=(C:Int):=⟨s.bB.toNat,by omega⟩;rw[show(s.many+s.bB+2).toNat=W+C+2 by omega,abw h hW hC rfl _ (Nat.le_refl _),if_pos rfl,show min (W+C+2 - (W+1)) C=C by omega,TC,TC];unfold gU;rw[show s.many.toNat=W by omega,show s.bB.toNat=C by omega,show(s.many+s.bB+2).toNat=W+C+2 by omega]
theorem ai.wf.small {w:ai}(h:w.wf) (hb:w.book.length≤4000000000) (hp:∀e∈w.book,e.proof.length≤1000):w.small:=by
 have hs:=d7 h.so;have ga:=h.nw;have jD:=h.nc;have lF:=h.nb;have oD:=h.nu;have qp:=h.bl;have Sx:=h.rm;have oF:=(r8 h.mn).1;have hl:=(gI h.lg).1;have na:=(gI oF.l).1;exact⟨by omega,by omega,by omega,by omega,by omega,by omega,hb,oF.a,by omega,fun x hx=>by have:=uI (h.wt x hx).2.1;omega,fun x hx=>(sX (h.cl x hx)).2,fun x hx=>by have:=(h.bx x hx).1;omega,hp⟩
theorem aaj {s:cK}{l:List aJ}(h:fv s=true) (hn:l.length≤600) (hl:∀x∈l,fW x=true):(l.foldl fF (gU s)).small:=by
 have hv:=wu (BT h) hl;have gq:=HR (BT h) hl;have hb:=gq.len;have iI:(gU s).book.length=0:=rfl;obtain⟨L,e,-,hp⟩:=gq;refine hv.small (by omega) fun x hx=>?_
 rw[e]at hx;exact hp x (by simpa[gU]using hx)
end
end Go.Proofs.YtobpfkgabdeefaaGreat.E
