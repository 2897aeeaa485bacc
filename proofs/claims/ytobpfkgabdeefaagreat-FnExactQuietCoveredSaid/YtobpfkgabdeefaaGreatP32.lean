/- Contracts: what comes of a growth, in the reference; Contracts: what comes of a letter to a witness -/
import Derived.Test.YtobpfkgabdeefaaGreatP27
namespace Go.Proofs.YtobpfkgabdeefaaGreat.E
open Go Go.RowKit
set_option maxHeartbeats 4000000
set_option maxRecDepth 10000
set_option linter.unusedSimpArgs false
set_option linter.unusedVariables false
set_option linter.unusedSectionVars false
def aeu:bX:=⟨[(238,.cm [false])],[9,10,11],[24,26,30,44,47,50,51,52,57,58,59,62,76,88,138,185,186,187,253,254,297,311],false⟩
theorem abn (d:cS) (size:Int) (root:aW):(jA d size root).length≤8:=by
 rw[uZ];split
 ·exact Nat.le_refl 8
 exact aQ _
theorem TN {a b:bh}(h:ed a b=true):a=b:=by
 obtain⟨s,⟨a1,a2,a3,a4⟩⟩:=a;obtain⟨t,⟨b1,b2,b3,b4⟩⟩:=b;simp only[ed,Bool.and_eq_true,beq_iff_eq]at h;obtain⟨h1,h2,h3,h4,h5⟩:=h;have:a1=b1:=by omega
 have:a2=b2:=by omega
 have:a3=b3:=by omega
 have:a4=b4:=by omega
 subst_vars
 rfl
theorem adD (held:bh) (size:Int) (P:List aW) (l:List bG):∀s:tg,(∀x∈l,x.pt.root.ok)→((∀x∈s.left,x.pt.root.ok)∧s.p.root.ok)→(∀x∈(l.foldl (hY held size P) s).left,x.pt.root.ok)∧(l.foldl (hY held size P) s).p.root.ok:=by
 induction l with
 | nil=>intro s _ h;exact h
 | cons a l ih=>
  intro s hl h;rw[List.foldl_cons];have ha:=hl a (List.mem_cons_self ..);refine ih _ (fun x hx=>hl x (List.mem_cons_of_mem _ hx)) ?_;have ej:∀x∈s.left++[a],x.pt.root.ok:=fun x hx=>by
   rcases List.mem_append.1 hx with hx|hx
   ·exact h.1 x hx
   rw[List.mem_singleton.1 hx];exact ha
  unfold hY;split
  ·exact⟨ej,h.2⟩
  split
  ·exact h
  exact⟨ej,ha⟩
theorem agc (w:bE) (me:Int) (m:aM) (hl:w.aS.length≤8) (hd:w.aH.ok) (hp:∀d∈m.proof,d.ok) (g9:m.proof.length≤1000) (nL:∀x∈w.aS,x.pt.root.ok):bb Tryz.prog 237 [] [w.ro,vI me,m.ro] (kO w (cH w.aH) me m).av (kO w (cH w.aH) me m).out:=by
 refine aA aeu false Tryz.f237 ?_;conv=>enter[1];reduce
 refine bT Tryz.f237 175 [.cell 6 189] (by kernel_rfl) (by decide +kernel) rfl ?_;have l4:=M4 w (by omega);have x8:=Dw w.aH hd;generalize cH w.aH=held at *;obtain⟨aH,l⟩:=w;simp only at hl hd nL;have lI:l.length≤maxLen:=by unfold maxLen;omega
 unfold kO;simp only;refine aw ?_;refine eP l4 ?_;refine aq.intro x8 ?_;by_cases c1:m.from_=held.size
 ·have dU:(m.from_ != held.size)=false:=by rw[bne_eq_false_iff_eq];exact c1
  rw[if_neg (fun h=>h c1)];refine o4 dU ?_;refine jX [(19007,13)] (fun n z=>∃(i:Nat) (S:tg),(i≤l.length∧S=gF held m.size m.proof (l.take i))∧n=l.length - i∧z=⟨175,[(1,vI me),(3,.ptr 3 0 [] 15 0 0),(5,.ptr 5 0 [] 11 0 0),(6,.ptr 6 0 [] 19 0 0),(7,.ptr 7 0 [] 19 0 0),(8,.ptr 8 0 [] 5 0 0),(9,.au 9 0 [] 7 0 S.left.length),(10,vB S.taken),(11,.ptr 11 0 [] 5 0 0),(12,vI i)],[(3,0,one ⟨15,[bE.cs ⟨aH,l⟩ (.ro 7 (l.map bG.cs))],0,false⟩),(5,0,one ⟨11,[m.pW],0,false⟩),(6,0,one ⟨19,[jf pN .aG .aG .aG .aG .aG],0,false⟩),(7,0,one ⟨19,[jf aH (.au 10007 0 [] 7 0 l.length) .aG .aG .aG (.au 20007 0 [] 13 0 S.al.length)],0,false⟩),(10007,0,one ⟨7,l.map bG.cs,2,false⟩),(20007,0,one ⟨13,S.al.map ec.cs,2,false⟩),(8,0,one ⟨5,[held.cs],0,false⟩),(9,0,one ⟨7,S.left.map bG.cs,2,false⟩),(11,0,one ⟨5,[S.p.cs],0,false⟩)],1⟩) l.length ?_ ?_
  ·simp -implicitDefEqProofs only[go_sem,aM.pW];exact⟨0,_,⟨aQ _,rfl⟩,rfl,rfl⟩
  rintro n z ⟨i,S,⟨hi,hS⟩,rfl,rfl⟩;rcases bm i l.length with ab|bH
  ·have ae:(i:Int)<(l.length:Int):=by omega
   have hg:l[i]?=some l[i]:=bz ab;have hw:=df ab lI;have aE:=Th (held:=held) (size:=m.size) (P:=m.proof) ab;have hle:=Ad held m.size m.proof (l.take i);rw[List.length_take]at hle;rw[←hS]at aE hle;generalize l[i]=x at *;have Lf:=afZ held x.pt m.proof hp;obtain⟨left,tk,p,al⟩:=S;unfold hY at aE;simp only at aE hle;generalize lC held x.pt (m.proof.map aW.bd)=cd at *;have cN:∀v,_:=fun v=>mQ (L:=left.map bG.cs) (b:=56) (by rw[List.length_map];omega) (by omega) v
   have cA:∀v,_:=fun v=>mQ (L:=al.map ec.cs) (b:=104) (by rw[List.length_map];omega) (by omega) v
   cases tk with
   | true=>
    rw[if_pos (.inl rfl)]at aE;refine wi ae hg hw cN ?_;refine⟨_,by omega,i+1,_,⟨ab,aE.symm⟩,rfl,?_⟩;try simp only[nn]
    try rfl
   | false=>
    by_cases c2:x.pt.size=m.size
    ·have iA:(x.pt.size != m.size)=false:=by rw[bne_eq_false_iff_eq];exact c2
     rw[if_neg (fun h=>h.elim (by simp) (fun h=>h c2))]at aE;refine wi ae hg hw iA ?_;refine aq.intro Lf ?_;by_cases c3:cd=0
     ·have iJ:(cd != 0)=false:=by rw[bne_eq_false_iff_eq];exact c3
      rw[if_neg (fun h=>h c3)]at aE;refine yO hw cN iJ ?_;refine⟨_,by omega,i+1,_,⟨ab,aE.symm⟩,rfl,?_⟩;try simp only[nn]
      try rfl
     have iJ:(cd != 0)=true:=by rw[bne_iff_ne];exact c3
     rw[if_pos c3]at aE;refine yO hw cA iJ ?_;refine⟨_,by omega,i+1,_,⟨ab,aE.symm⟩,rfl,?_⟩;try simp only[nn]
     try rfl
    have iA:(x.pt.size != m.size)=true:=by rw[bne_iff_ne];exact c2
    rw[if_pos (.inr c2)]at aE;refine wj ae hg hw cN iA ?_;refine⟨_,by omega,i+1,_,⟨ab,aE.symm⟩,rfl,?_⟩;try simp only[nn]
    try rfl
  have hi:i=l.length:=by omega
  subst hi;have ae:¬((l.length:Int)<(l.length:Int)):=by omega
  have hle:=Ad held m.size m.proof l;have jt:=adD held m.size m.proof l ⟨[],false,.zero,[]⟩ nL ⟨by simp,sO⟩;rw[List.take_length]at hS;have jt:(∀x∈(gF held m.size m.proof l).left,x.pt.root.ok)∧(gF held m.size m.proof l).p.root.ok:=jt;rw[←hS]at hle jt ⊢;obtain⟨left,tk,p,al⟩:=S;simp only at hle jt ⊢;obtain⟨jt,hpo⟩:=jt;cases tk with
  | false=>
   rw[if_pos rfl];exact wm ae
  | true=>
   rw[if_neg (by simp)];have kT:=afY aH p.size p.root hd hpo;have hRl:=abn aH p.size p.root;generalize jA aH p.size p.root=R at *;by_cases hR:R=[]
   ·rw[if_pos hR];subst hR;have sJ:(((0:Nat):Int)==0)=true:=rfl;refine o4 ae ?_;refine aq.intro kT ?_;refine o4 sJ ?_;refine aD.intro l4 ?_;exact dt
   rw[if_neg hR];have sJ:((R.length:Int)==0)=false:=by
    rw[beq_eq_false_iff_ne];intro h;exact hR (List.eq_nil_of_length_eq_zero (by omega))
   have Lu:=M0 aH R (by unfold maxLen;omega);have Lw:=MW m.proof [] g9 (aQ _);rw[List.append_nil,List.map_nil]at Lw;unfold nY at Lw;generalize ep aH R=D at *;refine o4 ae ?_;refine aq.intro kT ?_;refine o4 sJ ?_;refine cz Lu ?_;refine cz Lw ?_;refine jX [(18007,3)] (fun n z=>∃(i:Nat) (H:uA),(i≤left.length∧H=lZ me p al (left.take i))∧n=left.length - i∧z=⟨175,[(1,vI me),(6,.ptr 6 0 [] 19 0 0),(7,.ptr 7 0 [] 19 0 0),(9,.au 9 0 [] 7 0 left.length),(11,.ptr 11 0 [] 5 0 0),(16,.au 16 0 [] 7 0 H.rest.length),(17,vI i)],[(6,0,one ⟨19,[jf pN .aG .aG .aG .aG .aG],0,false⟩),(7,0,one ⟨19,[jf D (.au 10007 0 [] 7 0 l.length) (.au 20007 0 [] 3 0 R.length) (.au 30007 0 [] 11 0 1) (.au 40007 0 [] 3 0 H.le.length) (.au 50007 0 [] 13 0 H.al.length)],0,false⟩),(10007,0,one ⟨7,l.map bG.cs,2,false⟩),(20007,0,one ⟨3,R.map cL.cs,2,false⟩),(30007,0,one ⟨11,[iK.cs ⟨held,p,m.proof⟩ (.au 60007 0 [] 4 0 m.proof.length)],0,false⟩),(40007,0,one ⟨3,H.le.map aB.cs,2,false⟩),(50007,0,one ⟨13,H.al.map ec.cs,2,false⟩),(60007,0,one ⟨4,m.proof.map aW.cs,2,false⟩),(9,0,one ⟨7,left.map bG.cs,2,false⟩),(11,0,one ⟨5,[p.cs],0,false⟩),(16,0,one ⟨7,H.rest.map bG.cs,2,false⟩)],1⟩) left.length ?_ ?_
   ·refine aw ?_;exact⟨0,_,⟨aQ _,rfl⟩,rfl,rfl⟩
   rintro n z ⟨i,H,⟨hi,hS⟩,rfl,rfl⟩;have q5:=Gk me p al (left.take i);rw[List.length_take,←hS]at q5;rcases bm i left.length with ab|bH
   ·have ae:(i:Int)<(left.length:Int):=by omega
    have hg:left[i]?=some left[i]:=bz ab;have hw:=df ab (show left.length≤maxLen by unfold maxLen;omega);have aE:=Sn (me:=me) (p:=p) (al:=al) ab;rw[←hS]at aE;have iF:=jt _ (List.getElem_mem ab);generalize left[i]=x at *;have sH:x.pt=p→aR Tryz.prog 273 [vI me,.agg x.cs] (.agg (qU me x.br x.bR p).cs) []:=fun e=>e▸U7 me x iF
    obtain⟨le,DU,rest⟩:=H;unfold lM at aE;simp only at aE q5;have cN:∀v,_:=fun v=>mQ (L:=le.map aB.cs) (b:=32) (by rw[List.length_map];omega) (by omega) v
    have cA:∀v,_:=fun v=>mQ (L:=DU.map ec.cs) (b:=104) (by rw[List.length_map];omega) (by omega) v
    have fZ:∀v,_:=fun v=>mQ (L:=rest.map bG.cs) (b:=56) (by rw[List.length_map];omega) (by omega) v
    cases e1:ed x.pt p with
    | true=>
     rw[if_pos e1]at aE;have gi:=e1;unfold ed at gi;have e3:¬(x.pt.size>p.size):=by rw[TN e1];omega
     have sH:=sH (TN e1);refine wj ae hg hw gi e3 ?_;refine aq.intro sH ?_;refine o0 cN hw ?_;refine⟨_,by omega,i+1,_,⟨ab,aE.symm⟩,rfl,?_⟩;try simp only[nn]
     try rfl
    | false=>
     rw[if_neg (by rw[e1];simp)]at aE;have gi:=e1;unfold ed at gi;by_cases e2:x.pt.size=p.size
     ·have fR:(x.pt.size==p.size)=true:=by rw[e2];simp
      rw[if_pos e2]at aE;rw[fR,Bool.true_and]at gi;have e3:¬(x.pt.size>p.size):=by omega
      simp -implicitDefEqProofs only[go_sem,ae,hg,hw,gi,fR,e3,cA,eZ];refine⟨_,by omega,i+1,_,⟨ab,aE.symm⟩,rfl,?_⟩;try simp only[nn]
      try rfl
     have fR:(x.pt.size==p.size)=false:=beq_eq_false_iff_ne.2 e2;rw[if_neg e2]at aE;by_cases e3:x.pt.size>p.size
     ·rw[if_pos e3]at aE;simp -implicitDefEqProofs only[go_sem,ae,hg,hw,gi,fR,e3,fZ,eZ];refine⟨_,by omega,i+1,_,⟨ab,aE.symm⟩,rfl,?_⟩;try simp only[nn]
      try rfl
     rw[if_neg e3]at aE;simp -implicitDefEqProofs only[go_sem,ae,hg,hw,gi,fR,e3,eZ];refine⟨_,by omega,i+1,_,⟨ab,aE.symm⟩,rfl,?_⟩;try simp only[nn]
     try rfl
   have hi:i=left.length:=by omega
   subst hi;have ae:¬((left.length:Int)<(left.length:Int)):=by omega
   rw[List.take_length]at hS;rw[←hS];obtain⟨le,DU,rest⟩:=H;simp only at q5;exact A2 ae
 have dU:(m.from_ != held.size)=true:=by rw[bne_iff_ne];exact c1
 rw[if_pos c1];exact A2 dU
def aet:bX:=⟨[(236,.cm [false,false,false,false]),(237,.cm [false,false,false]),(238,.cm [false])],[9,10,11],[24,26,30,44,47,50,51,52,57,58,59,62,76,88,138,185,186,187,253,254,297,311],false⟩
theorem agw (w:bE) (me:Int) (l:aB) (hd:w.aH.ok) (hl:w.aS.length≤maxLen) (nL:∀x∈w.aS,x.pt.root.ok):bb Tryz.prog 184 [] [w.ro,vI me,.agg l.cs] (fO w me l).av (fO w me l).out:=by
 refine aA aet false Tryz.f184 ?_;conv=>enter[1];reduce
 refine bT Tryz.f184 68 [.cell 6 189] (by kernel_rfl) (by decide +kernel) rfl ?_;unfold fO;refine aw ?_;refine aq.intro (afG w hd hl) ?_;cases a1:iE w with
 | false=>
  simp -implicitDefEqProofs only[go_sem,a1,Bool.not_false,Bool.false_and,Bool.false_eq_true,bc]
  first|done|rfl|exact⟨rfl,rfl⟩
 | true=>
  have zR:=uI a1;refine uF a1 ?_;refine aq.intro (vQ l) ?_;cases a2:c8 l with
  | false=>
   refine Ip ?_
   first|exact True.intro|rfl|exact⟨rfl,rfl⟩
  | true=>
   have dg:l.text.size≤600:=by
    simp only[c8,Bool.and_eq_true,decide_eq_true_eq]at a2;omega
   refine Et ?_;refine aq.intro (e9 me 1 20) ?_;cases a3:aT me 1 20 with
   | false=>
    refine Ip ?_
    first|exact True.intro|rfl|exact⟨rfl,rfl⟩
   | true=>
    have Lx:=M4 w (by omega);have tS:=DA l.text (by omega);have gX:=xi l.text;have iG:=wq l.text;have pv:=Kc (s:=l.text);generalize hW:bV l.text=W at *;obtain⟨x,code,at_⟩:=W;simp only at gX iG pv;have xM:=agd w me l.from_ x zR hd pv;have Ld:=fun(hc:code=0)=>agc w me x zR hd (iG hc).2.2.1 gX.1 nL
    simp -implicitDefEqProofs only[go_sem,Bool.not_true,Bool.and_self,if_true,bc];refine aq.intro tS ?_;cases b1:(code==0)<;>cases b2:(x.kind==3)<;>cases b4:(x.kind==5)<;>cases b3:(l.from_==0)<;>by_cases b5:l.from_>0;all_goals first
     | (exfalso;simp only[beq_iff_eq]at b3;omega)
     | (exfalso;simp only[beq_iff_eq]at b2 b4;omega)
     | skip
    all_goals simp -implicitDefEqProofs only[go_sem,b1,b2,b3,b4,b5,bne,Bool.not_true,Bool.not_false,Bool.and_true,Bool.and_false,Bool.true_and,Bool.false_and,Bool.false_eq_true,if_false,if_true,bc]
    all_goals first
     | (refine aD.intro xM ?_
        generalize jB w (cH w.aH) me l.from_ x.bR ⟨x.size,x.root⟩=T at *;obtain⟨dd,ww,rr,kk,ll,aa⟩:=T;cases kk with
        | none=>simp -implicitDefEqProofs only[go_sem]
        | some k=>simp -implicitDefEqProofs only[go_sem])
     | (have oJ:code=0:=by simpa using b1
        refine aD.intro (Ld oJ) ?_;generalize kO w (cH w.aH) me x=T at *;obtain⟨dd,ww,rr,kk,ll,aa⟩:=T;cases kk with
        | none=>simp -implicitDefEqProofs only[go_sem]
        | some k=>simp -implicitDefEqProofs only[go_sem])
     | (refine aD.intro Lx ?_
        simp -implicitDefEqProofs only[go_sem])
     | trace_state
end Go.Proofs.YtobpfkgabdeefaaGreat.E
