/- Contracts: the program plays; The law of WorldBounds -/
import Derived.Test.YtobpfkgabdeefaaGreatQ46
import Derived.Test.YtobpfkgabdeefaaGreatQ45
namespace Go.Proofs.YtobpfkgabdeefaaGreat.E
open Go Go.RowKit
set_option maxRecDepth 10000
set_option linter.unusedSimpArgs false
set_option linter.unusedVariables false
set_option linter.unusedSectionVars false
section
set_option maxHeartbeats 8000000
def aeP:cc:=⟨[(75,.cm [true,false]),(76,.cm [true,false]),(77,.cm [true])],cw,cz,false⟩
attribute [-go_sem] ei Si
theorem acz {P:Program}{l:List J}{a b:DT}{s:St}{K:St->Prop}(h1:jT P l a s K) (h2:jT P l b s K):jT P l (.or a b) s K:=⟨h1,h2⟩
def w8 (v:ae):ak:=(4,0,one ⟨35,[jL],0,false⟩)::(8,0,one ⟨35,[v.cells 10008 10000],0,false⟩)::v.rows 10008 10000
def Ol (v:ae):ak:=(4,0,one ⟨35,[jL],0,false⟩)::(8,0,one ⟨35,[yw v (.aw 10008 0 [] 15 0 v.aj.length) (.aw 20008 0 [] 15 0 v.cls.length) (.aw 30008 0 [] 1 0 v.up.length) (.ro 1 (nf v)) (.aw 40008 0 [] 16 0 v.book.length)],0,false⟩)::(10008,0,one ⟨15,v.aj.map bz.rc,1,false⟩)::(20008,0,one ⟨15,v.cls.map bw.rc,1,false⟩)::(30008,0,one ⟨1,v.up.map dw,2,false⟩)::(40008,0,one ⟨16,v.book.map dK.cs,1,false⟩)::[]
attribute [go_sem] w8 Ol
def JP (s:et) (i j N:Nat):List AV:=[vI s.many,vI s.eH,vI s.bB,vI s.room,vI s.inbox,.ro 1 [],.aw 10008 0 [] 15 0 i,.aw 20008 0 [] 15 0 j]++(bw.zero.cs (.ro 1 [])++([.ro 1 []]++cg.zero.cs++[.aw 30008 0 [] 1 0 N,.aw 40008 0 [] 1 0 N,vI s.room,.ro 3 [],.aw 50008 0 [] 16 0 0,vB false]))
theorem afS (s:et) (l:List bQ) (hl:l.length<=maxLen):aY Tryz.prog 33 [] [.agg s.cs,.ro 4 (l.map bQ.bH)] (re s l).rv []:=by
 refine yV [[0,0,0,0],[0,0,0,0,0,0]] aeP false Tryz.f33 ?_;conv=>enter[1];reduce
 refine rl Tryz.f33 86 [.cell 4 64] (by kernel_rfl) (by decide +kernel) rfl rfl ?_;have nD:=UX s;unfold re FU;cases h1:ij s with
 | false=>
  rw[h1]at nD;rw[Bool.false_and,if_neg (by decide)];refine au ?_;refine aq.intro nD ?_;refine oG ?_;refine dO.intro (aB.refl _) ?_;refine au ?_
  first|exact True.intro|rfl|exact⟨rfl,rfl⟩
 | true=>
  rw[h1]at nD;rw[Bool.true_and];by_cases h6:l.length<=600
  ·have uq:¬((l.length:Int)>600):=by omega
   rw[decide_eq_true h6,Bool.true_and];have hs:=ea h1;refine au ?_;refine aq.intro nD ?_;refine Ej uq ?_;refine dq (fun m z=>∃(i:Nat),(i<=l.length/\(l.take i).all e9=true)/\m=l.length - i/\z=⟨86,[(1,.ro 4 (l.map bQ.bH)),(2,.ptr 2 0 [] 5 0 0),(4,.ptr 4 0 [] 35 0 0),(21,.ro 4 (l.map bQ.bH)),(22,vI l.length),(23,vI i)],[(2,0,one ⟨5,[s.cs],0,false⟩),(4,0,one ⟨35,[jL],0,false⟩)],1⟩) l.length ?_ ?_
   ·refine au ?_;exact⟨0,⟨aR _,rfl⟩,rfl,rfl⟩
   rintro m z ⟨i,⟨hi,ha⟩,rfl,rfl⟩;rcases bp i l.length with ab|bM
   ·have ah:(i:Int)<(l.length:Int):=by omega
    have hg:l[i]?=some l[i]:=bm ab;have hw:=dx ab hl;have aD:=afO l[i];have cB:=Wt e9 l ab;cases aI:e9 l[i] with
    | true=>
     rw[aI]at aD;rw[ha,aI]at cB;refine b8 ah hg ?_;refine jj aD hw ?_;exact⟨_,by omega,i+1,⟨ab,cB⟩,rfl,rfl⟩
    | false=>
     rw[aI]at aD;rw[Wu ab aI,if_neg (by decide)];refine b8 ah hg ?_;refine jj aD hw ?_;refine dO.intro (aB.refl _) ?_;refine au ?_
     first|exact True.intro|rfl|exact⟨rfl,rfl⟩
   have hi:i=l.length:=by omega
   cases hi;have ah:¬((l.length:Int)<(l.length:Int)):=by omega
   rw[List.take_length]at ha;rw[if_pos ha];have h2:∀x∈l,e9 x=true:=List.all_eq_true.1 ha;obtain⟨W,hW⟩:∃W:Nat,s.many=(W:Int):=⟨s.many.toNat,by omega⟩;obtain⟨C,hC⟩:∃C:Nat,s.bB=(C:Int):=⟨s.bB.toNat,by omega⟩;obtain⟨N,hN⟩:∃N:Nat,N=W+C+2:=⟨_,rfl⟩;have gZ:=UW s h1;have z1:IntKind.i64.wrap (s.many+s.bB+1+1)=(N:Int):=by rw[aN (by omega)];omega
   have q1:((136:Nat):Int) * (W:Int)<=281474976710656/\(W:Int)<=9223372036854775807:=by omega
   have q2:((136:Nat):Int) * (C:Int)<=281474976710656/\(C:Int)<=9223372036854775807:=by omega
   have q3:((1:Nat):Int) * (N:Int)<=281474976710656/\(N:Int)<=9223372036854775807:=by omega
   have q4:((24:Nat):Int) * (N:Int)<=281474976710656/\(N:Int)<=9223372036854775807:=by omega
   refine aA ah ?_;refine jj gZ z1 ?_;refine kM (fun z=>z=⟨86,[(1,.ro 4 (l.map bQ.bH)),(4,.ptr 4 0 [] 35 0 0),(8,.ptr 8 0 [] 35 0 0)],w8 (wz s),1⟩) ?_ ?_
   ·have vG:bO (fun z=>z=⟨86,[(1,.ro 4 (l.map bQ.bH)),(4,.ptr 4 0 [] 35 0 0),(8,.ptr 8 0 [] 35 0 0)],w8 (wz s),1⟩) ⟨86,[(1,.ro 4 (l.map bQ.bH)),(4,.ptr 4 0 [] 35 0 0),(8,.ptr 8 0 [] 35 0 0)],[(4,0,one ⟨35,[jL],0,false⟩),(8,0,one ⟨35,[BN s (.aw 10008 0 [] 15 0 W) (.aw 20008 0 [] 15 0 C) (mZ wE) (.aw 30008 0 [] 1 0 N) (.aw 40008 0 [] 1 0 N)],0,false⟩),(10008,0,one ⟨15,List.replicate W AN,2,false⟩),(20008,0,one ⟨15,List.replicate C wE,2,false⟩),(30008,0,one ⟨1,List.replicate N [vB false],2,false⟩),(40008,0,one ⟨1,List.replicate N [.aG],2,false⟩)],1⟩:=by
     refine au ?_;refine bO.step (aB.gX [(34008,16)] _) ?_;refine au ?_;refine bO.step (aB.b9 [] [1,4,8] _) ?_;refine au ?_;refine bO.step (aB.qe (r:=10008) (List.replicate W (cJ.aH.cs++[.ro 7 []])) 1 (by decide) (by decide) rfl (hY.rep (by
     unfold cJ qb;simp -implicitDefEqProofs only[go_sem]
     repeat' first
      | exact .nil
      | refine .cons nn ?_
      | refine .cons np ?_) _)) ?_
     refine bO.step (aB.qe (r:=20008) (List.replicate C (bw.zero.cs (.ro 1 []))) 1 (by decide) (by decide) rfl (hY.rep (by
     unfold bw.zero;simp -implicitDefEqProofs only[go_sem]
     repeat' first
      | exact .nil
      | refine .cons nn ?_
      | refine .cons np ?_) _)) ?_
     refine bO.step (aB.qe (r:=50008) [] 1 (by decide) (by decide) rfl .nil) ?_;refine au ?_;refine bO.step (aB.V6 (B:=40008) (sz:=3) (by decide) rfl rfl (by repeat' first|exact trivial|refine And.intro (.inl rfl) ?_|refine And.intro (.inr ⟨_,rfl,rfl⟩) ?_)) ?_;refine au ?_;refine bO.step (aB.qe (r:=8) [JP s W C N] 0 (by decide) (by decide) rfl (.cons (by
     unfold JP bw.zero;simp -implicitDefEqProofs only[go_sem]
     repeat' first
      | exact .nil
      | refine .cons nn ?_
      | refine .cons np ?_) .nil)) ?_
     refine bO.intro (aB.refl _) ?_;have gD:wz s=⟨s,[],List.replicate W cJ,List.replicate C bw.zero,c9.zero,List.replicate N false,List.replicate N [],s.room,[],[],false⟩:=by
      unfold wz;rw[show s.many.toNat=W by omega,show s.bB.toNat=C by omega,show(s.many+s.bB+2).toNat=N by omega]
     have pT:ae.bx ⟨s,[],List.replicate W cJ,List.replicate C bw.zero,c9.zero,List.replicate N false,List.replicate N [],s.room,[],[],false⟩=List.replicate N []:=EZ _ _ _;rw[gD];simp -implicitDefEqProofs only[go_sem,JP,pT,EZ,List.length_replicate]
     first|done|rfl|exact⟨rfl,rfl⟩
    simp -implicitDefEqProofs only[go_sem,hW,hC]at vG;simp -implicitDefEqProofs only[go_sem,hW,hC,q1,q2,q3,q4,List.length_replicate]
    repeat' (refine acz ?_ ?_<;>try simp -implicitDefEqProofs only[go_sem,hW,hC,q1,q2,q3,q4,List.length_replicate])
    all_goals
     refine bO.step (aB.b9 [] [1,4,8] _) ?_;simp -implicitDefEqProofs only[go_sem,hW,hC];exact vG
   rintro z rfl;have dZ:=Rz h1;have iq:=(dZ 0).hx;have iq:∀r g sz,ei (gi r g sz (wz s).bx)=[(r,g)]:=iq;have Lz:(s.many+s.bB+2).toNat=N:=by omega
   have KC:(wz s).up.length=N:=by have:=Kc (s:=s) 0;rw[Lz]at this;exact this
   have hm:N<=maxLen:=by unfold maxLen;omega
   refine b8 iq KC ?_;refine im (fun m z=>∃(i:Nat),i<=N/\m=N - i/\z=⟨86,[(1,.ro 4 (l.map bQ.bH)),(4,.ptr 4 0 [] 35 0 0),(8,.ptr 8 0 [] 35 0 0),(55,vI N),(56,vI i)],w8 (ko s i),1⟩) N (bO.intro (aB.b9 [] [1,4,8,55,56] _) ?_) ?_
   ·refine b8 iq KC ?_;refine⟨0,aR _,rfl,?_⟩;show _=(⟨86,[(1,.ro 4 (l.map bQ.bH)),(4,.ptr 4 0 [] 35 0 0),(8,.ptr 8 0 [] 35 0 0),(55,vI N),(56,vI ((0:Nat):Int))],w8 (wz s),1⟩:St)
    simp -implicitDefEqProofs only[go_sem,KC];try rfl
   rintro m z ⟨i,hi,rfl,rfl⟩;have hv:=dZ i;have Gj:(ko s i).up.length=N:=by have:=Kc (s:=s) i;rw[Lz]at this;exact this
   rcases bp i N with ab|bM
   ·have ah:(i:Int)<(N:Int):=by omega
    have hw:=dx ab hm;have Ss:=hv.up i true;have lT:i<(ko s i).ai.length:=by have h3:=hv.nb;have h4:=hv.nu;omega
    have dA:=UU {ko s i with up:=(ko s i).up.set i true} i Ss lT;have dH:=dZ (i+1);have e2:eQ {ko s i with up:=(ko s i).up.set i true} i=ko s (i+1):=rfl;rw[e2]at dA;have oX:=yW (ko s i).up i true;have hg:(ko s i).up[i]?=some ((ko s i).up.getD i false):=by rw[List.getD_eq_getElem?_getD,bm (by omega)];rfl
    generalize hU:ko s (i+1)=u at *;generalize ko s i=v at *;have aW:=hv.hx;have cD:=dH.hx;have lb:=Ss.hx;simp -implicitDefEqProofs only[go_sem,ah,aW,Gj,hg,dw,oX];refine aE.intro (res:=.aZ []) (σout:=eL u) (by simp -implicitDefEqProofs only[go_sem,List.length_set,Gj]at dA ⊢;exact dA) ?_;refine dP hw aW cD lb ?_;refine fh.intro (N - (i+1)) (by omega) (aB.b9 [] [1,4,8,55,56] _) ?_;refine aA cD ?_;refine⟨i+1,ab,rfl,?_⟩;rw[hU];try rfl
   have hi:i=N:=by omega
   cases hi;have ah:¬((N:Int)<(N:Int)):=by omega
   have gE:=abM h1;rw[Lz]at gE;rw[gE]at hv Gj ⊢;have aW:=hv.hx;have fR:=zu h1;refine b8 ah aW ?_;refine kM (fun z=>z=⟨86,[(4,.ptr 4 0 [] 35 0 0),(8,.ptr 8 0 [] 35 0 0)],Ol (l.foldl eZ (gz s)),1⟩) ?_ ?_
   ·refine aA aW ?_;refine im (fun m z=>∃(i:Nat),i<=l.length/\m=l.length - i/\z=⟨86,[(4,.ptr 4 0 [] 35 0 0),(8,.ptr 8 0 [] 35 0 0),(69,.ro 4 (l.map bQ.bH)),(70,vI l.length),(71,vI i)],w8 ((l.take i).foldl eZ (gz s)),1⟩) l.length (bO.intro (aB.b9 [] [4,8,69,70,71] _) ?_) ?_
    ·refine aA aW ?_;exact⟨0,aR _,rfl,rfl⟩
    rintro m z ⟨i,hi,rfl,rfl⟩;have Ct:∀x∈l.take i,e9 x=true:=fun x hx=>h2 x (List.mem_of_mem_take hx)
    have hv:=wJ fR Ct;have fU:=(HR fR Ct).len;have iW:(gz s).book.length=0:=rfl;rw[List.length_take]at fU;rcases bp i l.length with ab|bM
    ·have ah:(i:Int)<(l.length:Int):=by omega
     have hg:l[i]?=some l[i]:=bm ab;have hw:=dx ab hl;have lU:=Ty s l ab;have aI:=h2 _ (List.getElem_mem ab);have dH:=wJ (l:=l.take (i+1)) fR (fun x hx=>h2 x (List.mem_of_mem_take hx));cases aD:((l.take i).foldl eZ (gz s)).stop with
     | true=>
      have e:eZ ((l.take i).foldl eZ (gz s)) l[i]=(l.take i).foldl eZ (gz s):=if_pos aD;rw[e]at lU;have cD:=hv.hx;refine dP ah hg cD aD ?_;refine b8 hw cD ?_;refine fh.intro (l.length - (i+1)) (by omega) (aB.b9 [] [4,8,69,70,71] _) ?_;refine aA cD ?_;refine⟨i+1,ab,rfl,?_⟩;rw[lU];simp -implicitDefEqProofs only[go_sem,aD];try rfl
     | false=>
      have Lm:=afN _ l[i] hv aI aD (by omega);rw[<-lU]at Lm;generalize hU:(l.take (i+1)).foldl eZ (gz s)=u at *;generalize (l.take i).foldl eZ (gz s)=v at *;have cD:=hv.hx;have lb:=dH.hx;refine dP ah hg cD aD ?_;refine aE.intro (res:=.aZ []) (σout:=iA u) (by simp -implicitDefEqProofs only[go_sem,aD]at Lm ⊢;exact Lm) ?_;refine eV hw cD lb ?_;refine fh.intro (l.length - (i+1)) (by omega) (aB.b9 [] [4,8,69,70,71] _) ?_;refine aA lb ?_;refine⟨i+1,ab,rfl,?_⟩;rw[hU];try rfl
    have hi:i=l.length:=by omega
    cases hi;have ah:¬((l.length:Int)<(l.length:Int)):=by omega
    rw[List.take_length]at *;generalize l.foldl eZ (gz s)=v at *;have cD:=hv.hx;have dX:=(dh v).symm;refine b8 ah cD ?_;refine bO.step (aB.Tw (B:=40008) (g:=0) (sz:=3) (bs:=v.bx) rfl) ?_;refine au ?_;refine bO.step (aB.m7 [31008] _) ?_;refine aA dX ?_;refine bO.intro (aB.b9 [] [4,8] _) ?_;refine aA dX ?_
    first|exact True.intro|rfl
   rintro z rfl;have hsm:=aas h1 h6 h2;have hwc:=afM _ hsm;generalize l.foldl eZ (gz s)=v at *;refine au ?_;refine ep hwc ?_;refine dO.intro (aB.refl _) ?_;refine au ?_
   first|exact True.intro|rfl|exact⟨rfl,rfl⟩
  have uq:(l.length:Int)>600:=by omega
  rw[decide_eq_false h6,Bool.false_and,if_neg (by decide)];refine au ?_;refine aq.intro nD ?_;refine Ej uq ?_;refine dO.intro (aB.refl _) ?_;refine au ?_
  first|exact True.intro|rfl|exact⟨rfl,rfl⟩
end
section
set_option maxHeartbeats 4000000
def afj:cc:=⟨[(32,.cm [false]),(33,.cm [false,false]),(34,.cm [false,false])],cw,cz,false⟩
theorem Ql:∀(l:List bQ) (w:ae),(l.foldl eZ w).set=w.set
 | [],_=>rfl
 | x::l,w=>(Ql l _).trans (OU w x)
def wV (w:ae):List AV:=[vI w.set.many,vI w.set.eH,vI w.set.bB,vI w.set.room,vI w.set.inbox,.ro 1 (w.log.map cF),.ro 15 (w.aj.map bz.rc),.ro 15 (w.cls.map bw.rc)]++(w.cS.rc++
 [.ro 1 (w.up.map dw),.ro 1 (w.bx.map fun b=>[AV.ro 3 b]),vI w.room,.ro 3 (w.aO.map aC.cs),.ro 16 (w.book.map dK.cs),vB w.stop])
attribute [go_sem] wV
theorem aat (s:et) (l:List bQ):((re s l).up=[]/\(re s l).ai=[])\/((re s l).wf/\(re s l).dn/\(re s l).set=s):=by
 unfold re;split
 ·rename_i h;simp only[FU,Bool.and_eq_true,List.all_eq_true]at h;exact .inr ⟨wJ (zu h.1) h.2.2,T4 l (aba s),Ql l _⟩
 exact .inl ⟨rfl,rfl⟩
theorem afK (code:List UInt8) (hl:code.length<=maxLen):ba Tryz.prog 7 [.ro 1 (code.map cE)] (vB true) []:=by
 refine aF afj false Tryz.f7 ?_;conv=>enter[1];reduce
 refine bu Tryz.f7 153 [.tmp 2] (by kernel_rfl) (by decide +kernel) rfl ?_;refine au ?_;refine bX (fun h=>?_) (fun h=>?_)
 ·exact eE h
 refine aA h ?_;obtain⟨res,σ,⟨s,l,⟨rfl,rfl⟩,dY⟩,CO⟩:=afT code hl;have hI:=afS s l (by unfold maxLen;omega);have hS:=afR s l (by unfold maxLen;omega);have hc:=aat s l;generalize re s l=w at *;have pT:=dh w;have Lt:w.ai.length=w.up.length:=by
  rcases hc with ⟨h1,h2⟩|⟨h1,-⟩
  ·rw[h1,h2];rfl
  have:=h1.nb;have:=h1.nu;omega
 refine ep CO ?_;refine ep hI ?_;refine aE.intro hS ?_;simp -implicitDefEqProofs only[go_sem,pT,Lt,bne_self_eq_false,bb];rcases hc with ⟨h1,h2⟩|⟨hw,hd,he⟩
 ·have z:((w.up.length:Int)==0)=true:=by rw[h1];rfl
  exact AU z
 have om:=hw.nu;have z:((w.up.length:Int)==0)=false:=by rw[beq_eq_false_iff_ne];omega
 have mU:=(ra hw.mn).1;have hma:=mU.a;have rB:=(gB mU.l).1;have aiR:=(gB hw.lg).1;have yd:=yA hw.oD;have S9:=Mv w.cS (by unfold maxLen;omega) (by unfold maxLen;omega);have Tb:=tp w.log (by unfold maxLen;omega);rw[hw.mn]at S9;rw[hw.lg]at Tb;unfold iL at yd;refine qd z ?_;refine aq.intro yd ?_;refine wG ?_;refine aq.intro S9 ?_;refine wG ?_;refine aq.intro Tb ?_;refine wG ?_;have oq:w.up.length<=maxLen:=by have:=hw.nw;have:=hw.nc;have:=ea hw.so;unfold maxLen;omega
 refine dq (fun m z=>∃(i:Nat),i<=w.up.length/\m=w.up.length - i/\z=⟨153,[(3,.ptr 3 0 [] 5 0 0),(5,.ptr 5 0 [] 35 0 0),(7,vI i)],[(3,0,one ⟨5,[s.cs],0,false⟩),(5,0,one ⟨35,[wV w],0,false⟩)],1⟩) w.up.length ?_ ?_
 ·refine au ?_;exact⟨0,aR _,rfl,rfl⟩
 rintro m z ⟨i,hi,rfl,rfl⟩;rcases bp i w.up.length with ab|bM
 ·have ah:(i:Int)<(w.up.length:Int):=by omega
  have lT:i<w.ai.length:=by omega
  have xV:(i:Int)<(w.ai.length:Int):=by omega
  have bY:w.up[i]?=some w.up[i]:=bm ab;have ga:w.bx[i]?=some ((w.ai[i]).map aC.cs):=by unfold ae.bx;rw[List.getElem?_map,bm lT];rfl
  have yd:=(hw.bx _ (List.getElem_mem lT)).1;rw[he]at yd;have jW:¬((w.ai[i].length:Int)>s.inbox):=by omega
  have hdn:w.up[i]=false->w.ai[i]=[]:=fun hu=>by
   have:=hd i (by rw[bY,hu]);rw[List.getD_eq_getElem?_getD,bm lT]at this;exact this
  have oW:=dx ab oq;generalize w.ai[i]=B at *;generalize w.up[i]=u at *;cases u with
  | true=>
   simp -implicitDefEqProofs only[go_sem,ah,ab,pT,Lt,bY,ga,jW,dw,Bool.not_true,oW,bb];exact⟨_,by omega,i+1,ab,rfl,rfl⟩
  | false=>
   have z0:¬(((0:Nat):Int)>0):=by decide
   have hB:=hdn rfl;subst hB;have hn0:¬(((0:Nat):Int)>s.inbox):=jW;simp -implicitDefEqProofs only[go_sem,ah,ab,pT,Lt,bY,ga,jW,dw,Bool.not_false,oW,List.map_nil,List.length_nil,z0,hn0,bb];exact⟨_,by omega,i+1,ab,rfl,rfl⟩
 have hi:i=w.up.length:=by omega
 subst hi;have ah:¬((w.up.length:Int)<(w.up.length:Int)):=by omega
 refine qd ah ?_;have zQ:w.aj.length<=maxLen:=by have:=hw.nw;have:=ea hw.so;unfold maxLen;omega
 refine dq (fun m z=>∃(i:Nat),i<=w.aj.length/\m=w.aj.length - i/\z=⟨153,[(5,.ptr 5 0 [] 35 0 0),(8,vI i)],[(5,0,one ⟨35,[wV w],0,false⟩)],1⟩) w.aj.length ?_ ?_
 ·refine au ?_;exact⟨0,aR _,rfl,rfl⟩
 rintro m z ⟨i,hi,rfl,rfl⟩;rcases bp i w.aj.length with ab|bM
 ·have ah:(i:Int)<(w.aj.length:Int):=by omega
  have hg:w.aj[i]?=some w.aj[i]:=bm ab;have KA:=hw.wt _ (List.getElem_mem ab);have oW:=dx ab zQ;generalize w.aj[i]=x at *;have ml:=UY x KA.1 (by have:=tH KA.2.1;unfold maxLen;omega);rw[KA.2.1]at ml;simp -implicitDefEqProofs only[go_sem,ah,ab,hg,bz.rc,bb];refine aq.intro ml ?_;refine sd oW ?_;exact⟨_,by omega,i+1,ab,rfl,rfl⟩
 have hi:i=w.aj.length:=by omega
 subst hi;have ah:¬((w.aj.length:Int)<(w.aj.length:Int)):=by omega
 refine qd ah ?_;have hm3:w.cls.length<=maxLen:=by have:=hw.nc;have:=ea hw.so;unfold maxLen;omega
 refine dq (fun m z=>∃(i:Nat),i<=w.cls.length/\m=w.cls.length - i/\z=⟨153,[(5,.ptr 5 0 [] 35 0 0),(9,vI i)],[(5,0,one ⟨35,[wV w],0,false⟩)],1⟩) w.cls.length ?_ ?_
 ·refine au ?_;exact⟨0,aR _,rfl,rfl⟩
 rintro m z ⟨i,hi,rfl,rfl⟩;rcases bp i w.cls.length with ab|bM
 ·have ah:(i:Int)<(w.cls.length:Int):=by omega
  have hg:w.cls[i]?=some w.cls[i]:=bm ab;have yb:=hw.cl _ (List.getElem_mem ab);have oW:=dx ab hm3;generalize w.cls[i]=x at *;have SX:=we x (by have:=(rT yb).2;unfold maxLen;omega);rw[yb]at SX;simp -implicitDefEqProofs only[go_sem,ah,ab,hg,bw.rc,bb];refine aq.intro SX ?_;refine sd oW ?_;exact⟨_,by omega,i+1,ab,rfl,rfl⟩
 have hi:i=w.cls.length:=by omega
 subst hi;have ah:¬((w.cls.length:Int)<(w.cls.length:Int)):=by omega
 exact AU ah
end
end Go.Proofs.YtobpfkgabdeefaaGreat.E
