/- Contracts: the program plays. -/
import Derived.Test.YtobpfkgabdeefaaGreatP43
namespace Go.Proofs.YtobpfkgabdeefaaGreat.E
open Go Go.RowKit
set_option maxHeartbeats 8000000
set_option maxRecDepth 10000
set_option linter.unusedSimpArgs false
set_option linter.unusedVariables false
set_option linter.unusedSectionVars false
def aeA:bX:=⟨[(75,.cm [true,false]),(76,.cm [true,false]),(77,.cm [true])],[9,10,11],[24,26,30,44,47,50,51,52,57,58,59,62,76,88,138,185,186,187,253,254,297,311],false⟩
attribute [-go_sem] ei Sf
theorem aca {P:Program}{l:List J}{a b:DT}{s:St}{K:St→Prop}(h1:jT P l a s K) (h2:jT P l b s K):jT P l (.or a b) s K:=⟨h1,h2⟩
def w8 (v:ai):aj:=(4,0,one ⟨35,[jL],0,false⟩)::(8,0,one ⟨35,[v.cells 10008 10000],0,false⟩)::v.rows 10008 10000
def OC (v:ai):aj:=(4,0,one ⟨35,[jL],0,false⟩)::(8,0,one ⟨35,[sU v (.au 10008 0 [] 15 0 v.ah.length) (.au 20008 0 [] 15 0 v.cls.length) (.au 30008 0 [] 1 0 v.up.length) (.ro 1 (mO v)) (.au 40008 0 [] 16 0 v.book.length)],0,false⟩)::(10008,0,one ⟨15,v.ah.map bE.rc,1,false⟩)::(20008,0,one ⟨15,v.cls.map bu.rc,1,false⟩)::(30008,0,one ⟨1,v.up.map dq,2,false⟩)::(40008,0,one ⟨16,v.book.map dy.cs,1,false⟩)::[]
attribute [go_sem] w8 OC
def JU (s:cK) (i j N:Nat):List AV:=[vI s.many,vI s.eK,vI s.bB,vI s.room,vI s.inbox,.ro 1 [],.au 10008 0 [] 15 0 i,.au 20008 0 [] 15 0 j]++(bu.zero.cs (.ro 1 [])++([.ro 1 []]++bh.zero.cs++[.au 30008 0 [] 1 0 N,.au 40008 0 [] 1 0 N,vI s.room,.ro 3 [],.au 50008 0 [] 16 0 0,vB false]))
theorem Hy (s:cK) (l:List aJ) (hl:l.length≤maxLen):bb Tryz.prog 33 [] [.agg s.cs,.ro 4 (l.map aJ.aO)] (gn s l).rv []:=by
 refine IM [[0,0,0,0],[0,0,0,0,0,0]] aeA false Tryz.f33 ?_;conv=>enter[1];reduce
 refine qV Tryz.f33 86 [.cell 4 64] (by kernel_rfl) (by decide +kernel) rfl rfl ?_;have m8:=As s;unfold gn FV;cases h1:fv s with
 | false=>
  rw[h1]at m8;rw[Bool.false_and,if_neg (by decide)];refine aw ?_;refine aq.intro m8 ?_;refine od ?_;refine dK.intro (aI.refl _) ?_;refine aw ?_
  first|exact True.intro|rfl|exact⟨rfl,rfl⟩
 | true=>
  rw[h1]at m8;rw[Bool.true_and];by_cases h6:l.length≤600
  ·have uf:¬((l.length:Int)>600):=by omega
   rw[decide_eq_true h6,Bool.true_and];have hs:=d7 h1;refine aw ?_;refine aq.intro m8 ?_;refine Ek uf ?_;refine cR (fun m z=>∃(i:Nat),(i≤l.length∧(l.take i).all fW=true)∧m=l.length - i∧z=⟨86,[(1,.ro 4 (l.map aJ.aO)),(2,.ptr 2 0 [] 5 0 0),(4,.ptr 4 0 [] 35 0 0),(21,.ro 4 (l.map aJ.aO)),(22,vI l.length),(23,vI i)],[(2,0,one ⟨5,[s.cs],0,false⟩),(4,0,one ⟨35,[jL],0,false⟩)],1⟩) l.length ?_ ?_
   ·refine aw ?_;exact⟨0,⟨aQ _,rfl⟩,rfl,rfl⟩
   rintro m z ⟨i,⟨hi,ha⟩,rfl,rfl⟩;rcases bm i l.length with ab|bH
   ·have ae:(i:Int)<(l.length:Int):=by omega
    have hg:l[i]?=some l[i]:=bz ab;have hw:=df ab hl;have aE:=afu l[i];have cj:=Wn fW l ab;cases aF:fW l[i] with
    | true=>
     rw[aF]at aE;rw[ha,aF]at cj;refine cg ae hg ?_;refine jm aE hw ?_;exact⟨_,by omega,i+1,⟨ab,cj⟩,rfl,rfl⟩
    | false=>
     rw[aF]at aE;rw[Wo ab aF,if_neg (by decide)];refine cg ae hg ?_;refine jm aE hw ?_;refine dK.intro (aI.refl _) ?_;refine aw ?_
     first|exact True.intro|rfl|exact⟨rfl,rfl⟩
   have hi:i=l.length:=by omega
   cases hi;have ae:¬((l.length:Int)<(l.length:Int)):=by omega
   rw[List.take_length]at ha;rw[if_pos ha];have h2:∀x∈l,fW x=true:=List.all_eq_true.1 ha;obtain⟨W,hW⟩:∃W:Nat,s.many=(W:Int):=⟨s.many.toNat,by omega⟩;obtain⟨C,hC⟩:∃C:Nat,s.bB=(C:Int):=⟨s.bB.toNat,by omega⟩;obtain⟨N,hN⟩:∃N:Nat,N=W+C+2:=⟨_,rfl⟩;have gK:=UQ s h1;have z1:IntKind.i64.wrap (s.many+s.bB+1+1)=(N:Int):=by rw[aV (by omega)];omega
   have q1:((136:Nat):Int) * (W:Int)≤281474976710656∧(W:Int)≤9223372036854775807:=by omega
   have q2:((136:Nat):Int) * (C:Int)≤281474976710656∧(C:Int)≤9223372036854775807:=by omega
   have q3:((1:Nat):Int) * (N:Int)≤281474976710656∧(N:Int)≤9223372036854775807:=by omega
   have q4:((24:Nat):Int) * (N:Int)≤281474976710656∧(N:Int)≤9223372036854775807:=by omega
   refine aC ae ?_;refine jm gK z1 ?_;refine vH (fun z=>z=⟨86,[(1,.ro 4 (l.map aJ.aO)),(4,.ptr 4 0 [] 35 0 0),(8,.ptr 8 0 [] 35 0 0)],w8 (wz s),1⟩) ?_ ?_
   ·have vr:cO (fun z=>z=⟨86,[(1,.ro 4 (l.map aJ.aO)),(4,.ptr 4 0 [] 35 0 0),(8,.ptr 8 0 [] 35 0 0)],w8 (wz s),1⟩) ⟨86,[(1,.ro 4 (l.map aJ.aO)),(4,.ptr 4 0 [] 35 0 0),(8,.ptr 8 0 [] 35 0 0)],[(4,0,one ⟨35,[jL],0,false⟩),(8,0,one ⟨35,[BU s (.au 10008 0 [] 15 0 W) (.au 20008 0 [] 15 0 C) (mZ wh) (.au 30008 0 [] 1 0 N) (.au 40008 0 [] 1 0 N)],0,false⟩),(10008,0,one ⟨15,List.replicate W AT,2,false⟩),(20008,0,one ⟨15,List.replicate C wh,2,false⟩),(30008,0,one ⟨1,List.replicate N [vB false],2,false⟩),(40008,0,one ⟨1,List.replicate N [.aG],2,false⟩)],1⟩:=by
     refine aw ?_;refine cO.step (aI.gQ [(34008,16)] _) ?_;refine aw ?_;refine cO.step (aI.dm [] [1,4,8] _) ?_;refine aw ?_;refine cO.step (aI.pO (r:=10008) (List.replicate W (cF.aH.cs++[.ro 7 []])) 1 (by decide) (by decide) rfl (gM.rep (by
     unfold cF pN;simp -implicitDefEqProofs only[go_sem]
     repeat' first
      | exact .nil
      | refine .cons mU ?_
      | refine .cons mV ?_) _)) ?_
     refine cO.step (aI.pO (r:=20008) (List.replicate C (bu.zero.cs (.ro 1 []))) 1 (by decide) (by decide) rfl (gM.rep (by
     unfold bu.zero;simp -implicitDefEqProofs only[go_sem]
     repeat' first
      | exact .nil
      | refine .cons mU ?_
      | refine .cons mV ?_) _)) ?_
     refine cO.step (aI.pO (r:=50008) [] 1 (by decide) (by decide) rfl .nil) ?_;refine aw ?_;refine cO.step (aI.V2 (B:=40008) (sz:=3) (by decide) rfl rfl (by repeat' first|exact trivial|refine And.intro (.inl rfl) ?_|refine And.intro (.inr ⟨_,rfl,rfl⟩) ?_)) ?_;refine aw ?_;refine cO.step (aI.pO (r:=8) [JU s W C N] 0 (by decide) (by decide) rfl (.cons (by
     unfold JU bu.zero;simp -implicitDefEqProofs only[go_sem]
     repeat' first
      | exact .nil
      | refine .cons mU ?_
      | refine .cons mV ?_) .nil)) ?_
     refine cO.intro (aI.refl _) ?_;have gb:wz s=⟨s,[],List.replicate W cF,List.replicate C bu.zero,cQ.zero,List.replicate N false,List.replicate N [],s.room,[],[],false⟩:=by
      unfold wz;rw[show s.many.toNat=W by omega,show s.bB.toNat=C by omega,show(s.many+s.bB+2).toNat=N by omega]
     have ub:ai.bx ⟨s,[],List.replicate W cF,List.replicate C bu.zero,cQ.zero,List.replicate N false,List.replicate N [],s.room,[],[],false⟩=List.replicate N []:=EU _ _ _;rw[gb];simp -implicitDefEqProofs only[go_sem,JU,ub,EU,List.length_replicate]
     first|done|rfl|exact⟨rfl,rfl⟩|trace_state
    simp -implicitDefEqProofs only[go_sem,hW,hC]at vr;simp -implicitDefEqProofs only[go_sem,hW,hC,q1,q2,q3,q4,List.length_replicate]
    repeat' (refine aca ?_ ?_<;>try simp -implicitDefEqProofs only[go_sem,hW,hC,q1,q2,q3,q4,List.length_replicate])
    all_goals
     refine cO.step (aI.dm [] [1,4,8] _) ?_;refine cg hW hC ?_;exact vr
   rintro z rfl;have dS:=Ry h1;have gW:=(dS 0).hx;have gW:∀r g sz,ei (fS r g sz (wz s).bx)=[(r,g)]:=gW;have LM:(s.many+s.bB+2).toNat=N:=by omega
   have KL:(wz s).up.length=N:=by have:=Ki (s:=s) 0;rw[LM]at this;exact this
   have hm:N≤maxLen:=by unfold maxLen;omega
   refine cg gW KL ?_;refine iN (fun m z=>∃(i:Nat),i≤N∧m=N - i∧z=⟨86,[(1,.ro 4 (l.map aJ.aO)),(4,.ptr 4 0 [] 35 0 0),(8,.ptr 8 0 [] 35 0 0),(55,vI N),(56,vI i)],w8 (jV s i),1⟩) N (cO.intro (aI.dm [] [1,4,8,55,56] _) ?_) ?_
   ·refine cg gW KL ?_;refine⟨0,aQ _,rfl,?_⟩;show _=(⟨86,[(1,.ro 4 (l.map aJ.aO)),(4,.ptr 4 0 [] 35 0 0),(8,.ptr 8 0 [] 35 0 0),(55,vI N),(56,vI ((0:Nat):Int))],w8 (wz s),1⟩:St)
    simp -implicitDefEqProofs only[go_sem,KL];try rfl
   rintro m z ⟨i,hi,rfl,rfl⟩;have hv:=dS i;have Gj:(jV s i).up.length=N:=by have:=Ki (s:=s) i;rw[LM]at this;exact this
   rcases bm i N with ab|bH
   ·have ae:(i:Int)<(N:Int):=by omega
    have hw:=df ab hm;have Sp:=hv.up i true;have nT:i<(jV s i).ak.length:=by have h3:=hv.nb;have h4:=hv.nu;omega
    have dJ:=UP {jV s i with up:=(jV s i).up.set i true} i Sp nT;have dQ:=dS (i+1);have e2:eW {jV s i with up:=(jV s i).up.set i true} i=jV s (i+1):=rfl;rw[e2]at dJ;have oC:=yX (jV s i).up i true;have hg:(jV s i).up[i]?=some ((jV s i).up.getD i false):=by rw[List.getD_eq_getElem?_getD,bz (by omega)];rfl
    generalize hU:jV s (i+1)=u at *;generalize jV s i=v at *;have aX:=hv.hx;have cr:=dQ.hx;have kS:=Sp.hx;simp -implicitDefEqProofs only[go_sem,ae,aX,Gj,hg,dq,oC];refine aD.intro (res:=.ba []) (σout:=eB u) (by simp -implicitDefEqProofs only[go_sem,List.length_set,Gj]at dJ ⊢;exact dJ) ?_;refine eI hw aX cr kS ?_;refine fh.intro (N - (i+1)) (by omega) (aI.dm [] [1,4,8,55,56] _) ?_;refine aC cr ?_;refine⟨i+1,ab,rfl,?_⟩;rw[hU];try rfl
   have hi:i=N:=by omega
   cases hi;have ae:¬((N:Int)<(N:Int)):=by omega
   have gh:=abx h1;rw[LM]at gh;rw[gh]at hv Gj ⊢;have aX:=hv.hx;have ga:=BT h1;refine cg ae aX ?_;refine vH (fun z=>z=⟨86,[(4,.ptr 4 0 [] 35 0 0),(8,.ptr 8 0 [] 35 0 0)],OC (l.foldl fF (gU s)),1⟩) ?_ ?_
   ·refine aC aX ?_;refine iN (fun m z=>∃(i:Nat),i≤l.length∧m=l.length - i∧z=⟨86,[(4,.ptr 4 0 [] 35 0 0),(8,.ptr 8 0 [] 35 0 0),(69,.ro 4 (l.map aJ.aO)),(70,vI l.length),(71,vI i)],w8 ((l.take i).foldl fF (gU s)),1⟩) l.length (cO.intro (aI.dm [] [4,8,69,70,71] _) ?_) ?_
    ·refine aC aX ?_;exact⟨0,aQ _,rfl,rfl⟩
    rintro m z ⟨i,hi,rfl,rfl⟩;have Cs:∀x∈l.take i,fW x=true:=fun x hx=>h2 x (List.mem_of_mem_take hx)
    have hv:=wu ga Cs;have gq:=(HR ga Cs).len;have iI:(gU s).book.length=0:=rfl;rw[List.length_take]at gq;rcases bm i l.length with ab|bH
    ·have ae:(i:Int)<(l.length:Int):=by omega
     have hg:l[i]?=some l[i]:=bz ab;have hw:=df ab hl;have lJ:=Tt s l ab;have aF:=h2 _ (List.getElem_mem ab);have dQ:=wu (l:=l.take (i+1)) ga (fun x hx=>h2 x (List.mem_of_mem_take hx));cases aE:((l.take i).foldl fF (gU s)).stop with
     | true=>
      have e:fF ((l.take i).foldl fF (gU s)) l[i]=(l.take i).foldl fF (gU s):=if_pos aE;rw[e]at lJ;have cr:=hv.hx;refine eI ae hg cr aE ?_;refine cg hw cr ?_;refine fh.intro (l.length - (i+1)) (by omega) (aI.dm [] [4,8,69,70,71] _) ?_;refine aC cr ?_;refine⟨i+1,ab,rfl,?_⟩;rw[lJ];simp -implicitDefEqProofs only[go_sem,aE];try rfl
     | false=>
      have Lv:=aft _ l[i] hv aF aE (by omega);rw[←lJ]at Lv;generalize hU:(l.take (i+1)).foldl fF (gU s)=u at *;generalize (l.take i).foldl fF (gU s)=v at *;have cr:=hv.hx;have kS:=dQ.hx;refine eI ae hg cr aE ?_;refine aD.intro (res:=.ba []) (σout:=im u) (by simp -implicitDefEqProofs only[go_sem,aE]at Lv ⊢;exact Lv) ?_;refine ez hw cr kS ?_;refine fh.intro (l.length - (i+1)) (by omega) (aI.dm [] [4,8,69,70,71] _) ?_;refine aC kS ?_;refine⟨i+1,ab,rfl,?_⟩;rw[hU];try rfl
    have hi:i=l.length:=by omega
    cases hi;have ae:¬((l.length:Int)<(l.length:Int)):=by omega
    rw[List.take_length]at *;generalize l.foldl fF (gU s)=v at *;have cr:=hv.hx;have dR:=(de v).symm;refine cg ae cr ?_;refine cO.step (aI.Tr (B:=40008) (g:=0) (sz:=3) (bs:=v.bx) rfl) ?_;refine aw ?_;refine cO.step (aI.pG [31008] _) ?_;refine aC dR ?_;refine cO.intro (aI.dm [] [4,8] _) ?_;refine aC dR ?_
    first|exact True.intro|rfl|trace_state
   rintro z rfl;have hsm:=aaj h1 h6 h2;have hwc:=afs _ hsm;generalize l.foldl fF (gU s)=v at *;refine aw ?_;refine eP hwc ?_;refine dK.intro (aI.refl _) ?_;refine aw ?_
   first|exact True.intro|rfl|exact⟨rfl,rfl⟩|trace_state
  have uf:(l.length:Int)>600:=by omega
  rw[decide_eq_false h6,Bool.false_and,if_neg (by decide)];refine aw ?_;refine aq.intro m8 ?_;refine Ek uf ?_;refine dK.intro (aI.refl _) ?_;refine aw ?_
  first|exact True.intro|rfl|exact⟨rfl,rfl⟩
end Go.Proofs.YtobpfkgabdeefaaGreat.E
