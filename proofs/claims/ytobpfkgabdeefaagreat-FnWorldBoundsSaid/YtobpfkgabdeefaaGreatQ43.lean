/- Contracts: a forged letter. -/
import Derived.Test.YtobpfkgabdeefaaGreatQ42
namespace Go.Proofs.YtobpfkgabdeefaaGreat.E
open Go Go.RowKit
set_option maxHeartbeats 4000000
set_option maxRecDepth 10000
set_option linter.unusedSimpArgs false
set_option linter.unusedVariables false
set_option linter.unusedSectionVars false
def aeG:cc:=⟨[(92,.cm [true,false]),(179,.cn [false]),(253,.cm [false,false])],cw,cz,false⟩
attribute [-go_sem] ei
def PH (a b:Int) (x:List aX):AV:=.agg [.sc (.int .i64 5),.sc (.int .i64 0),vI a,vI b,.sc (.int .u64 0),.sc (.int .u64 0),.sc (.int .u64 0),.sc (.int .u64 0),.sc (.int .i64 0),.ro 4 (x.map aX.cs),.aG]
def FX (a b:Int) (x:List aX):aJ:=⟨5,0,a,b,gh,0,x,[]⟩
theorem XB (a b:Int) (x:List aX) (hl:x.length<=maxLen) (hd:∀d∈x,d.ok):ba Tryz.prog 234 [PH a b x] (vS (gy (FX a b x))) []:=by
 refine(HF (FX a b x) hl (aR _) pX hd).arg (fun rd vs h=>Fe ?_ h);exact .cons (.inl rfl) (.cons (.inl rfl) (.cons (.inl rfl) (.cons (.inl rfl) (.cons (.inl rfl) (.cons (.inl rfl) (.cons (.inl rfl) (.cons (.inl rfl) (.cons (.inl rfl) (.cons (.inl rfl) (.cons (.inr ⟨rfl,_,rfl⟩) .nil))))))))))
def PF (a:Int) (x:List ByteArray):AV:=.agg [.sc (.int .i64 8),.sc (.int .i64 0),vI a,.sc (.int .i64 0),.sc (.int .u64 0),.sc (.int .u64 0),.sc (.int .u64 0),.sc (.int .u64 0),.sc (.int .i64 0),.aG,.ro 1 (x.map cF)]
def FQ (a:Int) (x:List ByteArray):aJ:=⟨8,0,a,0,gh,0,[],x⟩
theorem Xy (a:Int) (x:List ByteArray) (hl:x.length<=maxLen):ba Tryz.prog 234 [PF a x] (vS (gy (FQ a x))) []:=by
 refine(HF (FQ a x) (aR _) hl pX (fun d hd=>by cases hd)).arg (fun rd vs h=>Fe ?_ h);exact .cons (.inl rfl) (.cons (.inl rfl) (.cons (.inl rfl) (.cons (.inl rfl) (.cons (.inl rfl) (.cons (.inl rfl) (.cons (.inl rfl) (.cons (.inl rfl) (.cons (.inl rfl) (.cons (.inr ⟨rfl,_,rfl⟩) (.cons (.inl rfl) .nil))))))))))
attribute [go_sem] PH PF
theorem abO (l:List ByteArray) (m:Int):∀d∈lM l m,d.ok:=by
 intro d hd;unfold lM at hd;split at hd
 ·unfold ri at hd;split at hd
  ·cases hd
  obtain⟨x,-,rfl⟩:=List.mem_map.1 hd;exact(fp _).Dk
 cases hd
theorem abP (l:List ByteArray) (m:Int) (hl:l.length<=256):(lM l m).length<=512:=by
 unfold lM;split
 ·rename_i h1;unfold ri;split
  ·simp
  rename_i h2;simp only[vh,Bool.and_eq_true]at h1;obtain⟨hn,hm⟩:=vg h1.2;have:=o7 (m:=m.toNat) l.length 0 l.length (by omega) (by omega);simp only[List.length_map,List.length_append];omega
 simp
def m8 (r:Dr) (l:List ByteArray):List ByteArray × Dr:=
 if l.length=0 then(l,r) else if pk r 8=0 then(l.set (pk (r.bf 1) l.length).toNat ⟨#[111,116,104,101,114]⟩,r.bf 2) else(l,r.bf 1)
def Ad (w:ae) (k:Nat):aC:=w.aO.getD ((i9 w.aO 0 (List.range w.aO.length)).getD k 0) ⟨0,0,⟨#[]⟩⟩
def oB (w:ae) (l:List ByteArray) (r:Dr):Option aC × Dr:=
 if (i9 w.aO 0 (List.range w.aO.length)).length=0 then(none,r)
 else if pk r 6>0 then(if (i7 l (Ad w (pk (r.bf 1) (i9 w.aO 0 (List.range w.aO.length)).length).toNat)).2=true then some (i7 l (Ad w (pk (r.bf 1) (i9 w.aO 0 (List.range w.aO.length)).length).toNat)).1 else none,r.bf 2)
 else(none,r.bf 1)
def BW (to:Int) (t:ByteArray):bQ:=⟨11,to,0,t⟩
def Ae (w:ae) (l:List ByteArray) (r:Dr):bQ × Dr:=
 if pk (r.bf 2) 3=0 then(BW (1+pk (r.bf 1) (w.set.many+w.set.bB+1)) (gy ⟨2,1+pk (r.bf 3) 3,0,(tJ l).size,(tJ l).root,0,[],[]⟩),r.bf 4)
 else if pk (r.bf 2) 3=1 then(BW (1+pk (r.bf 1) (w.set.many+w.set.bB+1)) (gy (FX (pk r (l.length+1)) l.length (lM l (pk r (l.length+1))))),r.bf 3)
 else(BW (1+pk (r.bf 1) (w.set.many+w.set.bB+1)) (gy (FQ (pk (r.bf 3) 3) (l.take 8))),r.bf 4)
def TJ (w:ae) (l:List ByteArray):Option aC × Dr->bQ × Dr
 | (some a,r)=>(BW a.iB a.text,r)
 | (none,r)=>Ae w l r
def sF (d:DW):bQ × Dr:=TJ d.w (m8 d.r d.alt).1 (oB d.w (m8 d.r d.alt).1 (m8 d.r d.alt).2)
def sn:List Nat:=[1000000,1000001,1000002,1000003,1000004,1000005,1000006,1000007]
def Ee:List AV:=[vI 0,vI 0,vI 0,vS ⟨#[]⟩]
attribute [go_sem] Ee sn E.m7
theorem ab4 (l:List ByteArray) (i:Nat) (b:ByteArray):(l.map cF).set i [vS b]=(l.set i b).map cF:=by rw[List.map_set];rfl
theorem Vv (d:DW) (h:d.ok 900000000):aY Tryz.prog 201 (d.sig 1000002) [uU] (.agg (sF d).1.bH) ({d with r:=(sF d).2}.sig 1000002):=by
 refine yV [[0,0],[0,0,0,0]] aeG false Tryz.f201 ?_;conv=>enter[1];reduce
 refine bI Tryz.f201 159 [.cell 2 83] (by kernel_rfl) (by decide +kernel) rfl ?_;have hx:=h.w.hx;have hs:=ea h.w.so;have CR:=h.a;have hp:=h.r.2;have ok:∀i,i<=1000->(d.r.bf i).ok 1000000000:=fun i hi=>(h.r.bf i).le (by omega)
 have mo:=agI d.alt (by omega);have qE:=Vw h.w.oD 0;unfold sF;refine aA hx ?_;refine eW mo hx ?_;refine kM (fun s=>s=⟨159,[(0,uU),(2,.ptr 2 0 [] 4 0 0),(3,.ro 1 ((m8 d.r d.alt).1.map cF))],{d with r:=(m8 d.r d.alt).2}.sig 1000002++[(2,0,one ⟨4,[Ee],0,false⟩)],1⟩) ?_ ?_
 ·by_cases h0:d.alt.length=0
  ·have pV:¬((d.alt.length:Int)>0):=by omega
   have e1:m8 d.r d.alt=(d.alt,d.r):=if_pos h0;rw[e1];refine gI pV hx ?_;refine bO.intro ((aB.m7 [3] _).trans (aB.b9 sn [0,2,3] _)) ?_;exact eE hx
  have pV:((d.alt.length:Int)>0):=by omega
  refine gI pV hx ?_;refine aE.intro (er 8 (ok 0 (by omega))) ?_;by_cases h8:pk d.r 8=0
  ·have uo:(pk d.r 8==0)=true:=by rw[h8];rfl
   have q:=fO (n:=(d.alt.length:Int)) (ok 1 (by omega)) (by omega);obtain⟨u,hu⟩:∃u:Nat,pk (d.r.bf 1) d.alt.length=u:=⟨(pk (d.r.bf 1) d.alt.length).toNat,by omega⟩;have hk:u<d.alt.length:=by omega
   have bV:(u:Int)<(d.alt.length:Int):=by omega
   have e1:m8 d.r d.alt=(d.alt.set u ⟨#[111,116,104,101,114]⟩,d.r.bf 2):=by
    unfold m8;rw[if_neg h0,if_pos h8,hu];rfl
   rw[e1];have hT:(d.alt.set u ⟨#[111,116,104,101,114]⟩).take d.alt.length=d.alt.set u ⟨#[111,116,104,101,114]⟩:=List.take_of_length_le (by rw[List.length_set];exact Nat.le_refl _);have KX:=ab4 d.alt u ⟨#[111,116,104,101,114]⟩;have bY:d.alt[u]?=some d.alt[u]:=bm hk;refine gI uo hx ?_;refine aE.intro (er _ (ok 1 (by omega))) ?_;rw[hu];refine qc hk bV bY KX hx ?_;refine bO.intro ((aB.m7 [3] _).trans (aB.b9 sn [0,2,3] _)) ?_;exact dp hx hT
  have uo:(pk d.r 8==0)=false:=beq_eq_false_iff_ne.2 h8;have e1:m8 d.r d.alt=(d.alt,d.r.bf 1):=by
   unfold m8;rw[if_neg h0,if_neg h8]
  rw[e1];refine gI uo hx ?_;refine bO.intro ((aB.m7 [3] _).trans (aB.b9 sn [0,2,3] _)) ?_;exact eE hx
 rintro s rfl;have hF:(m8 d.r d.alt).1.length=d.alt.length/\(m8 d.r d.alt).2.ok (d.r.p+2):=by
  unfold m8;split
  ·exact⟨rfl,h.r.1,by show d.r.p<=_;omega⟩
  split
  ·exact⟨List.length_set,h.r.1,Nat.le_refl _⟩
  exact⟨rfl,h.r.1,by show d.r.p+1<=_;omega⟩
 generalize m8 d.r d.alt=F at *;obtain⟨l,R⟩:=F;simp only at hF ⊢;obtain⟨hl,hR⟩:=hF;have lX:=hR.2;have gK:=hR.1;have di:∀i,i<=1000->(R.bf i).ok 1000000000:=fun i hi=>(hR.bf i).le (by omega)
 refine aA hx ?_;refine jj qE hx ?_;refine kM (fun s=>(oB d.w l R).1=none/\s=⟨159,[(0,uU),(2,.ptr 2 0 [] 4 0 0),(3,.ro 1 (l.map cF))],{d with r:=(oB d.w l R).2}.sig 1000002++[(2,0,one ⟨4,[Ee],0,false⟩)],1⟩) ?_ ?_
 ·by_cases g0:(i9 d.w.aO 0 (List.range d.w.aO.length)).length=0
  ·have LK:¬(((i9 d.w.aO 0 (List.range d.w.aO.length)).length:Int)>0):=by omega
   have hA:oB d.w l R=(none,R):=if_pos g0;rw[hA];refine gI LK hx ?_;refine bO.intro (aB.b9 sn [0,2,3] _) ?_;exact eE hx
  have LK:(((i9 d.w.aO 0 (List.range d.w.aO.length)).length:Int)>0):=by omega
  refine gI LK hx ?_;refine aE.intro (er 6 (di 0 (by omega))) ?_;by_cases g6:pk R 6>0
  ·have q:=fO (n:=((i9 d.w.aO 0 (List.range d.w.aO.length)).length:Int)) (di 1 (by omega)) (by omega);obtain⟨u,hu⟩:∃u:Nat,pk (R.bf 1) (i9 d.w.aO 0 (List.range d.w.aO.length)).length=u:=⟨(pk (R.bf 1) (i9 d.w.aO 0 (List.range d.w.aO.length)).length).toNat,by omega⟩;have hk:u<(i9 d.w.aO 0 (List.range d.w.aO.length)).length:=by omega
   have bV:(u:Int)<((i9 d.w.aO 0 (List.range d.w.aO.length)).length:Int):=by omega
   have hA:oB d.w l R=(if (i7 l (Ad d.w u)).2=true then some (i7 l (Ad d.w u)).1 else none,R.bf 2):=by
    unfold oB;rw[if_neg g0,if_pos g6,hu];rfl
   rw[hA];have hy:=abS d.w.aO 0 _ (List.getElem_mem hk);have hX:Ad d.w u=d.w.aO[(i9 d.w.aO 0 (List.range d.w.aO.length))[u]]:=by
    unfold Ad;rw[List.getD_eq_getElem?_getD,List.getD_eq_getElem?_getD,bm hk,Option.getD_some,bm hy,Option.getD_some]
   rw[hX];have bY:(i9 d.w.aO 0 (List.range d.w.aO.length))[u]?=some (i9 d.w.aO 0 (List.range d.w.aO.length))[u]:=bm hk;generalize (i9 d.w.aO 0 (List.range d.w.aO.length))[u]=y at *;have zH:(y:Int)<(d.w.aO.length:Int):=by omega
   have GF:d.w.aO[y]?=some d.w.aO[y]:=bm hy;generalize d.w.aO[y]=x at *;have vz:=VD l x (by unfold maxLen;omega);clear hX hA;have hP:=er ((i9 d.w.aO 0 (List.range d.w.aO.length)).length:Int) (di 1 (by omega));rw[hu]at hP;generalize i7 l x=A at *;obtain⟨a,ob⟩:=A;unfold F6 at vz;cases ob with
   | false=>
    rw[if_neg (by simp)];simp -implicitDefEqProofs only[go_sem,g6,hx,jN,bb]
    repeat' first|(with_reducible refine And.intro ?_ ?_)|(refine aE.intro hP ?_;try simp -implicitDefEqProofs only[go_sem,hk,bV,bY,zH,GF,hx,jN,bb])|(refine aq.intro vz ?_;try simp -implicitDefEqProofs only[go_sem,hk,bV,bY,zH,GF,hx,jN,bb])
    all_goals
     refine bO.intro (aB.b9 sn [0,2,3] _) ?_;exact eE hx
   | true=>
    rw[if_pos rfl];simp -implicitDefEqProofs only[go_sem,g6,hx,jN,bb]
    repeat' first|(with_reducible refine And.intro ?_ ?_)|(refine aE.intro hP ?_;try simp -implicitDefEqProofs only[go_sem,hk,bV,bY,zH,GF,hx,jN,bb])|(refine aq.intro vz ?_;try simp -implicitDefEqProofs only[go_sem,hk,bV,bY,zH,GF,hx,jN,bb])
    all_goals rfl
  have g6':¬pk R 6>0:=g6;have hA:oB d.w l R=(none,R.bf 1):=by
   unfold oB;rw[if_neg g0,if_neg g6]
  rw[hA];refine gI g6' hx ?_;refine bO.intro (aB.b9 sn [0,2,3] _) ?_;exact eE hx
 rintro s ⟨hA,rfl⟩;have GW:(oB d.w l R).2.ok (d.r.p+4):=by
  unfold oB;split
  ·exact hR.le (by omega)
  split
  ·exact⟨gK,by show R.p+2<=_;omega⟩
  exact⟨gK,by show R.p+1<=_;omega⟩
 generalize oB d.w l R=A at *;obtain⟨o,Q⟩:=A;simp only at hA GW ⊢;subst hA;rw[show TJ d.w l (none,Q)=Ae d.w l Q from rfl];unfold Ae;have hQp:=GW.2;have GX:=GW.1;have xk:∀i,i<=1000->(Q.bf i).ok 1000000000:=fun i hi=>(GW.bf i).le (by omega)
 have hTo:=(Yo l).1;have hTP:=Yp l (by unfold maxLen;omega);generalize tJ l=T at *;have w1:IntKind.i64.wrap ((l.length:Int)+1)=(l.length:Int)+1:=aN (by omega);have w2:IntKind.i64.wrap (d.w.set.many+d.w.set.bB)=d.w.set.many+d.w.set.bB:=aN (by omega);have w3:IntKind.i64.wrap (d.w.set.many+d.w.set.bB+1)=d.w.set.many+d.w.set.bB+1:=aN (by omega);have q1:=fO (n:=(l.length:Int)+1) (xk 0 (by omega)) (by omega);have q2:=fO (n:=d.w.set.many+d.w.set.bB+1) (xk 1 (by omega)) (by omega);have q3:=fO (n:=3) (xk 3 (by omega)) (by omega);have p1:=er ((l.length:Int)+1) (xk 0 (by omega));have p2:=er (d.w.set.many+d.w.set.bB+1) (xk 1 (by omega));have p3:=er 3 (xk 2 (by omega));have p4:=er 3 (xk 3 (by omega));have e0:Q.bf 0=Q:=rfl;rw[e0]at q1 p1;generalize pk Q ((l.length:Int)+1)=m at *;generalize pk (Q.bf 1) (d.w.set.many+d.w.set.bB+1)=t at *;generalize pk (Q.bf 2) 3=k at *;generalize pk (Q.bf 3) 3=j at *;have w4:IntKind.i64.wrap (1+t)=1+t:=aN (by omega);have w5:IntKind.i64.wrap (1+j)=1+j:=aN (by omega);have hw0:=wL ⟨2,1+j,0,T.size,T.root,0,[],[]⟩ rfl rfl hTo;generalize gy ⟨2,1+j,0,T.size,T.root,0,[],[]⟩=B0 at *;have zR:=agj l m (by unfold maxLen;omega);have oW:=XB m l.length (lM l m) (by have:=abP l m (by omega);unfold maxLen;omega) (abO l m);generalize gy (FX m l.length (lM l m))=B1 at *;unfold ur nM at zR;generalize lM l m=X at *;have oe:=Xy j (l.take 8) (by rw[List.length_take];unfold maxLen;omega);generalize gy (FQ j (l.take 8))=B2 at *;refine aA hx ?_;refine aq.intro hTP ?_;refine b8 hx w1 ?_;refine ji p1 hx w2 w3 ?_;refine eK p2 hx w4 ?_;refine aE.intro p3 ?_;by_cases k0:k=0
 ·have Cb:(k==0)=true:=by rw[k0];rfl
  rw[if_pos k0];refine gI hx Cb ?_;refine eK p4 hx w5 ?_;refine aq.intro hw0 ?_;exact El hx
 have Cb:(k==0)=false:=beq_eq_false_iff_ne.2 k0;rw[if_neg k0];by_cases k1:k=1
 ·have Gd:(k==1)=true:=by rw[k1];rfl
  rw[if_pos k1];refine yO hx Cb Gd ?_;refine eW zR hx ?_;refine aq.intro oW ?_;exact El hx
 have Gd:(k==1)=false:=beq_eq_false_iff_ne.2 k1;rw[if_neg k1];by_cases l8:(l.length:Int)>8
 ·have l8':8<=l.length:=by omega
  have l8i:(8:Int)<=(l.length:Int):=by omega
  simp -implicitDefEqProofs only[go_sem,hx,Cb,Gd,l8,l8',l8i,bb];refine eW p4 hx ?_;refine aq.intro oe ?_;exact El hx
 have e8:l.take 8=l:=List.take_of_length_le (by omega);rw[e8]at oe;simp -implicitDefEqProofs only[go_sem,hx,Cb,Gd,l8,bb];refine eW p4 hx ?_;refine aq.intro oe ?_;exact El hx
end Go.Proofs.YtobpfkgabdeefaaGreat.E
