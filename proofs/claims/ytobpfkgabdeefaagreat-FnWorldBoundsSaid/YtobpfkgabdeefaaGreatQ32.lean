/- Contracts: what comes of a growth, in the reference; Contracts: what comes of a letter to a witness -/
import Derived.Test.YtobpfkgabdeefaaGreatQ27
namespace Go.Proofs.YtobpfkgabdeefaaGreat.E
open Go Go.RowKit
set_option maxHeartbeats 4000000
set_option maxRecDepth 10000
set_option linter.unusedSimpArgs false
set_option linter.unusedVariables false
set_option linter.unusedSectionVars false
def aeJ:cc:=⟨[(238,.cm [false])],cw,cz,false⟩
theorem abE (d:cX) (size:Int) (root:aX):(jQ d size root).length<=8:=by
 rw[vd];split
 ·exact Nat.le_refl 8
 exact aR _
theorem TU {a b:cg}(h:eu a b=true):a=b:=by
 obtain⟨s,⟨a1,a2,a3,a4⟩⟩:=a;obtain⟨t,⟨b1,b2,b3,b4⟩⟩:=b;simp only[eu,Bool.and_eq_true,beq_iff_eq]at h;obtain⟨h1,h2,h3,h4,h5⟩:=h;have:a1=b1:=by omega
 have:a2=b2:=by omega
 have:a3=b3:=by omega
 have:a4=b4:=by omega
 subst_vars
 rfl
theorem adT (held:cg) (size:Int) (P:List aX) (l:List bD):∀s:tA,(∀x∈l,x.pt.root.ok)->((∀x∈s.left,x.pt.root.ok)/\s.p.root.ok)->(∀x∈(l.foldl (iv held size P) s).left,x.pt.root.ok)/\(l.foldl (iv held size P) s).p.root.ok:=by
 induction l with
 | nil=>intro s _ h;exact h
 | cons a l ih=>
  intro s hl h;rw[List.foldl_cons];have ha:=hl a (List.mem_cons_self ..);refine ih _ (fun x hx=>hl x (List.mem_cons_of_mem _ hx)) ?_;have gv:∀x∈s.left++[a],x.pt.root.ok:=fun x hx=>by
   rcases List.mem_append.1 hx with hx|hx
   ·exact h.1 x hx
   rw[List.mem_singleton.1 hx];exact ha
  unfold iv;split
  ·exact⟨gv,h.2⟩
  split
  ·exact h
  exact⟨gv,ha⟩
theorem agn (w:bz) (me:Int) (m:aJ) (hl:w.aQ.length<=8) (hd:w.aH.ok) (hp:∀d∈m.proof,d.ok) (gU:m.proof.length<=1000) (ml:∀x∈w.aQ,x.pt.root.ok):aY Tryz.prog 237 [] [w.ro,vI me,m.ro] (k9 w (cO w.aH) me m).av (k9 w (cO w.aH) me m).out:=by
 refine aF aeJ false Tryz.f237 ?_;conv=>enter[1];reduce
 refine bI Tryz.f237 175 [.cell 6 189] (by kernel_rfl) (by decide +kernel) rfl ?_;have my:=MP w (by omega);have xY:=Hz w.aH hd;generalize cO w.aH=held at *;obtain⟨aH,l⟩:=w;simp only at hl hd ml;have pK:l.length<=maxLen:=by unfold maxLen;omega
 unfold k9;simp only;refine au ?_;refine ep my ?_;refine aq.intro xY ?_;by_cases c1:m.from_=held.size
 ·have d6:(m.from_ != held.size)=false:=by rw[bne_eq_false_iff_eq];exact c1
  rw[if_neg (fun h=>h c1)];refine pn d6 ?_;refine mj [(19007,13)] (fun n z=>∃(i:Nat) (S:tA),(i<=l.length/\S=gF held m.size m.proof (l.take i))/\n=l.length - i/\z=⟨175,[(1,vI me),(3,.ptr 3 0 [] 15 0 0),(5,.ptr 5 0 [] 11 0 0),(6,.ptr 6 0 [] 19 0 0),(7,.ptr 7 0 [] 19 0 0),(8,.ptr 8 0 [] 5 0 0),(9,.aw 9 0 [] 7 0 S.left.length),(10,vB S.taken),(11,.ptr 11 0 [] 5 0 0),(12,vI i)],[(3,0,one ⟨15,[bz.cs ⟨aH,l⟩ (.ro 7 (l.map bD.cs))],0,false⟩),(5,0,one ⟨11,[m.qj],0,false⟩),(6,0,one ⟨19,[jA qb .aG .aG .aG .aG .aG],0,false⟩),(7,0,one ⟨19,[jA aH (.aw 10007 0 [] 7 0 l.length) .aG .aG .aG (.aw 20007 0 [] 13 0 S.al.length)],0,false⟩),(10007,0,one ⟨7,l.map bD.cs,2,false⟩),(20007,0,one ⟨13,S.al.map ez.cs,2,false⟩),(8,0,one ⟨5,[held.cs],0,false⟩),(9,0,one ⟨7,S.left.map bD.cs,2,false⟩),(11,0,one ⟨5,[S.p.cs],0,false⟩)],1⟩) l.length ?_ ?_
  ·simp -implicitDefEqProofs only[go_sem,aJ.qj];exact⟨0,_,⟨aR _,rfl⟩,rfl,rfl⟩
  rintro n z ⟨i,S,⟨hi,hS⟩,rfl,rfl⟩;rcases bp i l.length with ab|bM
  ·have ah:(i:Int)<(l.length:Int):=by omega
   have hg:l[i]?=some l[i]:=bm ab;have hw:=dx ab pK;have aD:=Tm (held:=held) (size:=m.size) (P:=m.proof) ab;have hle:=zZ held m.size m.proof (l.take i);rw[List.length_take]at hle;rw[<-hS]at aD hle;generalize l[i]=x at *;have K6:=af8 held x.pt m.proof hp;obtain⟨left,tk,p,al⟩:=S;unfold iv at aD;simp only at aD hle;generalize lO held x.pt (m.proof.map aX.bd)=cd at *;have cQ:∀v,_:=fun v=>nh (L:=left.map bD.cs) (b:=56) (by rw[List.length_map];omega) (by omega) v
   have cN:∀v,_:=fun v=>nh (L:=al.map ez.cs) (b:=104) (by rw[List.length_map];omega) (by omega) v
   cases tk with
   | true=>
    rw[if_pos (.inl rfl)]at aD;simp -implicitDefEqProofs only[go_sem,ah,hg,hw,cQ,d7];refine⟨_,by omega,i+1,_,⟨ab,aD.symm⟩,rfl,?_⟩;try simp only[nO]
    try rfl
   | false=>
    by_cases c2:x.pt.size=m.size
    ·have iK:(x.pt.size != m.size)=false:=by rw[bne_eq_false_iff_eq];exact c2
     rw[if_neg (fun h=>h.elim (by simp) (fun h=>h c2))]at aD;simp -implicitDefEqProofs only[go_sem,ah,hg,hw,iK,d7];refine aq.intro K6 ?_;by_cases c3:cd=0
     ·have iX:(cd != 0)=false:=by rw[bne_eq_false_iff_eq];exact c3
      rw[if_neg (fun h=>h c3)]at aD;simp -implicitDefEqProofs only[go_sem,hw,cQ,iX,d7];refine⟨_,by omega,i+1,_,⟨ab,aD.symm⟩,rfl,?_⟩;try simp only[nO]
      try rfl
     have iX:(cd != 0)=true:=by rw[bne_iff_ne];exact c3
     rw[if_pos c3]at aD;simp -implicitDefEqProofs only[go_sem,hw,cN,iX,d7];refine⟨_,by omega,i+1,_,⟨ab,aD.symm⟩,rfl,?_⟩;try simp only[nO]
     try rfl
    have iK:(x.pt.size != m.size)=true:=by rw[bne_iff_ne];exact c2
    rw[if_pos (.inr c2)]at aD;simp -implicitDefEqProofs only[go_sem,ah,hg,hw,cQ,iK,d7];refine⟨_,by omega,i+1,_,⟨ab,aD.symm⟩,rfl,?_⟩;try simp only[nO]
    try rfl
  have hi:i=l.length:=by omega
  subst hi;have ah:¬((l.length:Int)<(l.length:Int)):=by omega
  have hle:=zZ held m.size m.proof l;have iU:=adT held m.size m.proof l ⟨[],false,.zero,[]⟩ ml ⟨by simp,pX⟩;rw[List.take_length]at hS;have iU:(∀x∈(gF held m.size m.proof l).left,x.pt.root.ok)/\(gF held m.size m.proof l).p.root.ok:=iU;rw[<-hS]at hle iU ⊢;obtain⟨left,tk,p,al⟩:=S;simp only at hle iU ⊢;obtain⟨iU,hpo⟩:=iU;cases tk with
  | false=>
   rw[if_pos rfl];exact wH ah
  | true=>
   rw[if_neg (by simp)];have lh:=af7 aH p.size p.root hd hpo;have hRl:=abE aH p.size p.root;generalize jQ aH p.size p.root=R at *;by_cases hR:R=[]
   ·rw[if_pos hR];subst hR;have s8:(((0:Nat):Int)==0)=true:=rfl;refine pn ah ?_;refine aq.intro lh ?_;refine pn s8 ?_;refine aE.intro my ?_;exact dy
   rw[if_neg hR];have s8:((R.length:Int)==0)=false:=by
    rw[beq_eq_false_iff_ne];intro h;exact hR (List.eq_nil_of_length_eq_zero (by omega))
   have Ll:=MN aH R (by unfold maxLen;omega);have Ln:=MI m.proof [] gU (aR _);rw[List.append_nil,List.map_nil]at Ln;unfold nM at Ln;generalize eB aH R=D at *;refine pn ah ?_;refine aq.intro lh ?_;refine pn s8 ?_;refine cT Ll ?_;refine cT Ln ?_;refine mj [(18007,3)] (fun n z=>∃(i:Nat) (H:wA),(i<=left.length/\H=mm me p al (left.take i))/\n=left.length - i/\z=⟨175,[(1,vI me),(6,.ptr 6 0 [] 19 0 0),(7,.ptr 7 0 [] 19 0 0),(9,.aw 9 0 [] 7 0 left.length),(11,.ptr 11 0 [] 5 0 0),(16,.aw 16 0 [] 7 0 H.rest.length),(17,vI i)],[(6,0,one ⟨19,[jA qb .aG .aG .aG .aG .aG],0,false⟩),(7,0,one ⟨19,[jA D (.aw 10007 0 [] 7 0 l.length) (.aw 20007 0 [] 3 0 R.length) (.aw 30007 0 [] 11 0 1) (.aw 40007 0 [] 3 0 H.le.length) (.aw 50007 0 [] 13 0 H.al.length)],0,false⟩),(10007,0,one ⟨7,l.map bD.cs,2,false⟩),(20007,0,one ⟨3,R.map cR.cs,2,false⟩),(30007,0,one ⟨11,[iZ.cs ⟨held,p,m.proof⟩ (.aw 60007 0 [] 4 0 m.proof.length)],0,false⟩),(40007,0,one ⟨3,H.le.map aC.cs,2,false⟩),(50007,0,one ⟨13,H.al.map ez.cs,2,false⟩),(60007,0,one ⟨4,m.proof.map aX.cs,2,false⟩),(9,0,one ⟨7,left.map bD.cs,2,false⟩),(11,0,one ⟨5,[p.cs],0,false⟩),(16,0,one ⟨7,H.rest.map bD.cs,2,false⟩)],1⟩) left.length ?_ ?_
   ·refine au ?_;exact⟨0,_,⟨aR _,rfl⟩,rfl,rfl⟩
   rintro n z ⟨i,H,⟨hi,hS⟩,rfl,rfl⟩;have rz:=Gk me p al (left.take i);rw[List.length_take,<-hS]at rz;rcases bp i left.length with ab|bM
   ·have ah:(i:Int)<(left.length:Int):=by omega
    have hg:left[i]?=some left[i]:=bm ab;have hw:=dx ab (show left.length<=maxLen by unfold maxLen;omega);have aD:=Sq (me:=me) (p:=p) (al:=al) ab;rw[<-hS]at aD;have gT:=iU _ (List.getElem_mem ab);generalize left[i]=x at *;have sZ:x.pt=p->ba Tryz.prog 273 [vI me,.agg x.cs] (.agg (rk me x.bh x.bU p).cs) []:=fun e=>e▸U9 me x gT
    obtain⟨le,DP,rest⟩:=H;unfold lW at aD;simp only at aD rz;have cQ:∀v,_:=fun v=>nh (L:=le.map aC.cs) (b:=32) (by rw[List.length_map];omega) (by omega) v
    have cN:∀v,_:=fun v=>nh (L:=DP.map ez.cs) (b:=104) (by rw[List.length_map];omega) (by omega) v
    have gw:∀v,_:=fun v=>nh (L:=rest.map bD.cs) (b:=56) (by rw[List.length_map];omega) (by omega) v
    cases e1:eu x.pt p with
    | true=>
     rw[if_pos e1]at aD;have gH:=e1;unfold eu at gH;have e3:¬(x.pt.size>p.size):=by rw[TU e1];omega
     have sZ:=sZ (TU e1);simp -implicitDefEqProofs only[go_sem,ah,hg,hw,gH,e3,d7];refine aq.intro sZ ?_;refine AR cQ hw ?_;refine⟨_,by omega,i+1,_,⟨ab,aD.symm⟩,rfl,?_⟩;try simp only[nO]
     try rfl
    | false=>
     rw[if_neg (by rw[e1];simp)]at aD;have gH:=e1;unfold eu at gH;by_cases e2:x.pt.size=p.size
     ·have gb:(x.pt.size==p.size)=true:=by rw[e2];simp
      rw[if_pos e2]at aD;rw[gb,Bool.true_and]at gH;have e3:¬(x.pt.size>p.size):=by omega
      simp -implicitDefEqProofs only[go_sem,ah,hg,hw,gH,gb,e3,cN,d7];refine⟨_,by omega,i+1,_,⟨ab,aD.symm⟩,rfl,?_⟩;try simp only[nO]
      try rfl
     have gb:(x.pt.size==p.size)=false:=beq_eq_false_iff_ne.2 e2;rw[if_neg e2]at aD;by_cases e3:x.pt.size>p.size
     ·rw[if_pos e3]at aD;simp -implicitDefEqProofs only[go_sem,ah,hg,hw,gH,gb,e3,gw,d7];refine⟨_,by omega,i+1,_,⟨ab,aD.symm⟩,rfl,?_⟩;try simp only[nO]
      try rfl
     rw[if_neg e3]at aD;simp -implicitDefEqProofs only[go_sem,ah,hg,hw,gH,gb,e3,d7];refine⟨_,by omega,i+1,_,⟨ab,aD.symm⟩,rfl,?_⟩;try simp only[nO]
     try rfl
   have hi:i=left.length:=by omega
   subst hi;have ah:¬((left.length:Int)<(left.length:Int)):=by omega
   rw[List.take_length]at hS;rw[<-hS];obtain⟨le,DP,rest⟩:=H;simp only at rz;exact AX ah
 have d6:(m.from_ != held.size)=true:=by rw[bne_iff_ne];exact c1
 rw[if_pos c1];exact AX d6
def aeI:cc:=⟨[(236,.cm [false,false,false,false]),(237,.cm [false,false,false]),(238,.cm [false])],cw,cz,false⟩
theorem agH (w:bz) (me:Int) (l:aC) (hd:w.aH.ok) (hl:w.aQ.length<=maxLen) (ml:∀x∈w.aQ,x.pt.root.ok):aY Tryz.prog 184 [] [w.ro,vI me,.agg l.cs] (fX w me l).av (fX w me l).out:=by
 refine aF aeI false Tryz.f184 ?_;conv=>enter[1];reduce
 refine bI Tryz.f184 68 [.cell 6 189] (by kernel_rfl) (by decide +kernel) rfl ?_;unfold fX;refine au ?_;refine aq.intro (UY w hd hl) ?_;cases a1:iQ w with
 | false=>
  simp -implicitDefEqProofs only[go_sem,a1,Bool.not_false,Bool.false_and,Bool.false_eq_true,bb]
  first|done|rfl|exact⟨rfl,rfl⟩
 | true=>
  have zI:=tH a1;refine sd a1 ?_;refine aq.intro (wc l) ?_;cases a2:df l with
  | false=>
   refine Il ?_
   first|exact True.intro|rfl|exact⟨rfl,rfl⟩
  | true=>
   have dv:l.text.size<=600:=by
    simp only[df,Bool.and_eq_true,decide_eq_true_eq]at a2;omega
   refine wG ?_;refine aq.intro (fG me 1 20) ?_;cases a3:aS me 1 20 with
   | false=>
    refine Il ?_
    first|exact True.intro|rfl|exact⟨rfl,rfl⟩
   | true=>
    have Lo:=MP w (by omega);have xG:=Dw l.text (by omega);have ir:=xv l.text;have iT:=wI l.text;have pH:=J7 (s:=l.text);generalize hW:cf l.text=W at *;obtain⟨x,code,at_⟩:=W;simp only at ir iT pH;have xJ:=ago w me l.from_ x zI hd pH;have zR:=fun(hc:code=0)=>agn w me x zI hd (iT hc).2.2.1 ir.1 ml
    simp -implicitDefEqProofs only[go_sem,Bool.not_true,Bool.and_self,if_true,bb];refine aq.intro xG ?_;cases b1:(code==0)<;>cases b2:(x.kind==3)<;>cases b4:(x.kind==5)<;>cases b3:(l.from_==0)<;>by_cases b5:l.from_>0;all_goals first
     | (exfalso;simp only[beq_iff_eq]at b3;omega)
     | (exfalso;simp only[beq_iff_eq]at b2 b4;omega)
     | skip
    all_goals simp -implicitDefEqProofs only[go_sem,b1,b2,b3,b4,b5,bne,Bool.not_true,Bool.not_false,Bool.and_true,Bool.and_false,Bool.true_and,Bool.false_and,Bool.false_eq_true,if_false,if_true,bb]
    all_goals first
     | (refine aE.intro xJ ?_
        generalize jR w (cO w.aH) me l.from_ x.bU ⟨x.size,x.root⟩=T at *;obtain⟨dd,ww,rr,kk,ll,aa⟩:=T;cases kk with
        | none=>simp -implicitDefEqProofs only[go_sem]
        | some k=>simp -implicitDefEqProofs only[go_sem])
     | (have o4:code=0:=by simpa using b1
        refine aE.intro (zR o4) ?_;generalize k9 w (cO w.aH) me x=T at *;obtain⟨dd,ww,rr,kk,ll,aa⟩:=T;cases kk with
        | none=>simp -implicitDefEqProofs only[go_sem]
        | some k=>simp -implicitDefEqProofs only[go_sem])
     | (refine aE.intro Lo ?_
        simp -implicitDefEqProofs only[go_sem])
end Go.Proofs.YtobpfkgabdeefaaGreat.E
