/- Contracts: drawn letters to a witness; what is drawn for WitnessHear. -/
import Derived.Test.YtpjpkmhaffmbmaaGreatQ21
import Derived.Test.YtpjpkmhaffmbmaaGreatQ9
namespace Go.Proofs.YtpjpkmhaffmbmaaGreat.E
open Go Go.RowKit
set_option maxHeartbeats 4000000
set_option maxRecDepth 10000
set_option linter.unusedSimpArgs false
set_option linter.unusedVariables false
set_option linter.unusedSectionVars false
def dcX4:Dec:=⟨[(35,.cm [false]),(36,.cm [true]),(37,.cm [true,false,false]),(38,.cm [true,true,false,false]),(39,.cm [true,false]),(93,.cm [true]),(95,.cm [true]),(96,.cm [true,false]),(97,.cm [false,false]),(98,.cm [true,false])],[9,10,11],[22,30,37,38,39,40,49,56,76,80,87,141,143,159,237,250,259],false⟩
def Dr.w5 (r:Dr) (W:List MWish):Sig:=[(1000000,0,one ⟨1,[[.ptr 1000002 0 [] 1 0 0]],0,false⟩),(1000001,0,one ⟨7,W.map MWish.cs,2,false⟩),(1000002,0,one ⟨1,[[.ptr 1000003 0 [] 1 0 0]],0,false⟩),(1000003,0,one ⟨1,[[.ptr 1000004 0 [] 2 0 0]],0,false⟩),(1000004,0,one ⟨2,[r.cs],0,false⟩)]
def MWit.avK (w:MWit) (a:Nat):AV:=.agg (w.cs (.blk a 0 [] 7 0 w.wishes.length))
def roG (a b:Int) (x:List MDig):AV:=.agg [.sc (.int .i64 5),.sc (.int .i64 0),vI a,vI b,.sc (.int .u64 0),.sc (.int .u64 0),.sc (.int .u64 0),.sc (.int .u64 0),.sc (.int .i64 0),.ro 4 (x.map MDig.cs),.nilS]
attribute [go_sem] Dr.w5 MWit.avK roG
def znb (a b:Int) (x:List MDig):MMsg:=⟨5,0,a,b,dig0,0,x,[]⟩
theorem wbG (a b:Int) (x:List MDig) (hl:x.length≤maxLen) (hd:∀d∈x,d.ok):CallR Tryz.prog 23 [roG a b x] (vS (zr (znb a b x))) []:=by
 refine (zpg (znb a b x) hl (Nat.zero_le _) yy hd).arg (fun rd vs h=>zmV ?_ h)
 exact .cons (.inl rfl) (.cons (.inl rfl) (.cons (.inl rfl) (.cons (.inl rfl) (.cons (.inl rfl) (.cons (.inl rfl) (.cons (.inl rfl) (.cons (.inl rfl) (.cons (.inl rfl) (.cons (.inl rfl) (.cons (.inr ⟨rfl,_,rfl⟩) .nil))))))))))
theorem jp (l:List ByteArray) (m:Int):∀d∈zQ l m,d.ok:=by
 intro d hd
 unfold zQ at hd
 split at hd
 ·unfold mGr at hd
  split at hd
  ·cases hd
  ·obtain ⟨x,-,rfl⟩:=List.mem_map.1 hd
   exact (xi _).dig_ok
 ·cases hd
theorem wO (l:List ByteArray) (m:Int) (hl:l.length≤256):(zQ l m).length≤512:=by
 unfold zQ
 split
 ·rename_i h1
  unfold mGr
  split
  ·simp
  ·rename_i h2
   simp only [zaB,Bool.and_eq_true] at h1
   obtain ⟨hn,hm⟩:=xK h1.2
   have:=qZ (m:=m.toNat) l.length 0 l.length (by omega) (by omega)
   simp only [List.length_map,List.length_append]
   omega
 ·simp
def zL3:List AV:=[vI 0,vI 0,vS ⟨#[]⟩]
def leH (r:Dr) (W:List MWish) (x:Sig):Sig:=[(1000000,0,one ⟨1,[[.ptr 1000002 0 [] 1 0 0]],0,false⟩),(1000001,0,one ⟨7,W.map MWish.cs,2,false⟩),(1000002,0,one ⟨1,[[.ptr 1000003 0 [] 1 0 0]],0,false⟩),(1000003,0,one ⟨1,[[.ptr 1000004 0 [] 2 0 0]],0,false⟩),(1000004,0,one ⟨2,[r.cs],0,false⟩)]++x
attribute [go_sem] zL3 leH
def zlh (W:List MWish) (r:Dr) (res:AV) (σ:Sig):Prop:=∃(x:MLet) (r':Dr),(res=.agg x.cs∧σ=r'.w5 W)∧r'.ok (r.p+3000)
theorem c38_c (r:Dr) (w:MWit) (l:List ByteArray) (m:Nat) (h:r.ok 400000000) (hl:l.length≤80) (hm:m≤l.length) (hw:DWi l.length w):∃res σ,zlh w.wishes r res σ∧zW Tryz.prog 38 (r.w5 w.wishes) [vL,w.avK 1000001,.ro 1 (l.map zw),vI m] res σ:=by
 refine zl dcX4 true Tryz.f38 ?_
 conv=>enter [1];reduce
 refine jvX Tryz.f38 135 [.cell 8 34] (zlh w.wishes r) (by kernel_rfl) (by decide +kernel) (by kernel_rfl) rfl ?_
 have hp:=h.2
 have hb:=h.1
 have ok:∀i,i≤1000→(r.adv i).ok 1000000000:=fun i hi=>(h.adv i).le (by omega)
 have hTP:=fun k=>zgY (l.take k) (by rw [List.length_take];unfold maxLen;omega)
 have hTk:=fun k=>zbD (l.take k)
 have q14:=zM (n:=14) (ok 0 (by omega)) (by omega)
 obtain ⟨hwd,hwl,hwp⟩:=hw
 have hfin:∀(R:Dr) (x:MLet),R.ok (r.p+3000)→zlh w.wishes r (.agg x.cs) (R.w5 w.wishes):=fun R x hR=>⟨x,R,⟨rfl,rfl⟩,hR⟩
 simp -implicitDefEqProofs only [go_sem]
 refine WantM.intro (yc 14 (ok 0 (by omega))) ?_
 have e0:r.adv 0=r:=rfl
 rw [e0] at q14
 generalize pk r 14=k at *
 simp -implicitDefEqProofs only [go_sem]
 refine zR [0,2,3,5,8,9,10] [] (fun s=>∃k:Int,s=⟨135,[(0,vL),(2,.ro 1 (l.map zw)),(3,vI m),(5,.ptr 5 0 [] 15 0 0),(8,.ptr 8 0 [] 3 0 0),(9,.ptr 1000004 0 [] 2 0 0),(10,vI k)],leH (r.adv 1) w.wishes [(5,0,one ⟨15,[w.cs (.blk 1000001 0 [] 7 0 w.wishes.length)],0,false⟩),(8,0,one ⟨3,[zL3],0,false⟩)],1⟩) ?_ ?_
 ·simp -implicitDefEqProofs only [go_sem]
  refine zi (fun g=>?_) (fun g=>?_)
  ·simp -implicitDefEqProofs only [go_sem,g]
   exact ⟨6,rfl⟩
  ·simp -implicitDefEqProofs only [go_sem,g]
   exact ⟨k,rfl⟩
 ·clear q14
  clear k
  rintro s ⟨k,rfl⟩
  have w1:IntKind.i64.wrap ((l.length:Int)+1)=((l.length+1:Nat):Int):=by rw [wrS (by omega)];omega
  have q1:=zM (n:=((l.length+1:Nat):Int)) (ok 1 (by omega)) (by omega)
  obtain ⟨u,hu⟩:∃u:Nat,pk (r.adv 1) ((l.length+1:Nat):Int)=u:=⟨(pk (r.adv 1) ((l.length+1:Nat):Int)).toNat,by omega⟩
  simp -implicitDefEqProofs only [go_sem,w1]
  refine WantM.intro (yc _ (ok 1 (by omega))) ?_
  rw [hu]
  simp -implicitDefEqProofs only [go_sem]
  refine zR [0,2,3,8,9,10,11] [] (fun s=>∃(v:Nat) (R:Dr),v≤l.length∧R.ok (r.p+3)∧s=⟨135,[(0,vL),(2,.ro 1 (l.map zw)),(3,vI m),(8,.ptr 8 0 [] 3 0 0),(9,.ptr 1000004 0 [] 2 0 0),(10,vI k),(11,vI v)],leH R w.wishes [(8,0,one ⟨3,[zL3],0,false⟩)],1⟩) ?_ ?_
  ·by_cases g0:(w.wishes.length:Int)>0
   ·by_cases g5:k≥5
    ·have qw:=zM (n:=(w.wishes.length:Int)) (ok 2 (by omega)) (by omega)
     obtain ⟨i,hi⟩:∃i:Nat,pk (r.adv 2) w.wishes.length=i:=⟨(pk (r.adv 2) w.wishes.length).toNat,by omega⟩
     have hi1:(i:Int)<(w.wishes.length:Int):=by omega
     have hi2:i<w.wishes.length:=by omega
     have hgi:w.wishes[i]?=some w.wishes[i]:=List.getElem?_eq_getElem hi2
     have hx:=hwp _ (List.getElem_mem hi2)
     generalize w.wishes[i]=X at *
     obtain ⟨v,hv⟩:∃v:Nat,X.pt.size=v:=⟨X.pt.size.toNat,by omega⟩
     simp -implicitDefEqProofs only [go_sem,g0,g5,zc,zb]
     refine WantM.intro (yc _ (ok 2 (by omega))) ?_
     rw [hi]
     simp -implicitDefEqProofs only [go_sem,hi1,hi2,hgi]
     refine ⟨v,r.adv 3,by omega,⟨hb,by show r.p+3≤_;omega⟩,?_⟩
     rw [hv]
     first | done | rfl | trace_state
    ·simp -implicitDefEqProofs only [go_sem,g0,g5,zc,za]
     exact ⟨u,r.adv 2,by omega,⟨hb,by show r.p+2≤_;omega⟩,rfl⟩
   ·simp -implicitDefEqProofs only [go_sem,g0,ze,za]
    exact ⟨u,r.adv 2,by omega,⟨hb,by show r.p+2≤_;omega⟩,rfl⟩
  ·clear w1 q1 hu
   clear u
   rintro s ⟨v,R,hv,hR,rfl⟩
   have hRp:=hR.2
   have hRb:=hR.1
   have hRk:R.ok 400000003:=hR.le (by omega)
   have okR:∀i,i≤1000→(R.adv i).ok 1000000000:=fun i hi=>(hRk.adv i).le (by omega)
   have hvI:(v:Int)≤(l.length:Int):=by omega
   have hmI:(m:Int)≤(l.length:Int):=by omega
   simp -implicitDefEqProofs only [go_sem]
   refine zi (fun g=>?_) (fun g=>?_)
   ·have hT:=hTP v
    have hk:=(hTk v).1
    have hTm:=hTP m
    have hkm:=(hTk m).1
    generalize tPt (l.take v)=T at *
    generalize tPt (l.take m)=T' at *
    simp -implicitDefEqProofs only [go_sem,g,hv,hvI,Nat.sub_zero]
    refine Want.intro hT ?_
    simp -implicitDefEqProofs only [go_sem]
    refine zR [2,3,8,9,12] [] (fun s=>∃(T:MPt),T.root.ok∧s=⟨135,[(2,.ro 1 (l.map zw)),(3,vI m),(8,.ptr 8 0 [] 3 0 0),(9,.ptr 1000004 0 [] 2 0 0),(12,.ptr 12 0 [] 5 0 0)],leH (R.adv 1) w.wishes [(8,0,one ⟨3,[zL3],0,false⟩),(12,0,one ⟨5,[T.cs],0,false⟩)],1⟩) ?_ ?_
    ·simp -implicitDefEqProofs only [go_sem]
     refine WantM.intro (yc 3 (okR 0 (by omega))) ?_
     simp -implicitDefEqProofs only [go_sem]
     refine zi (fun g=>?_) (fun g=>?_)
     ·simp -implicitDefEqProofs only [go_sem,g,hm,hmI,Nat.sub_zero]
      refine Want.intro hTm ?_
      simp -implicitDefEqProofs only [go_sem]
      exact ⟨T',hkm,rfl⟩
     ·simp -implicitDefEqProofs only [go_sem,g]
      exact ⟨T,hk,rfl⟩
    ·clear hT hk
     clear T
     rintro s ⟨T,hk,rfl⟩
     refine zR [8,9,12] [] (fun s=>∃(T:MPt) (Q:Dr),T.root.ok∧Q.ok (R.p+50)∧s=⟨135,[(8,.ptr 8 0 [] 3 0 0),(9,.ptr 1000004 0 [] 2 0 0),(12,.ptr 12 0 [] 5 0 0)],leH Q w.wishes [(8,0,one ⟨3,[zL3],0,false⟩),(12,0,one ⟨5,[T.cs],0,false⟩)],1⟩) ?_ ?_
     ·simp -implicitDefEqProofs only [go_sem]
      refine WantM.intro (yc 6 (okR 1 (by omega))) ?_
      simp -implicitDefEqProofs only [go_sem]
      refine zi (fun g=>?_) (fun g=>?_)
      ·simp -implicitDefEqProofs only [go_sem,g]
       refine WantM.intro (zcx (R.adv 2) ((hRk.adv 2).le (by omega))) ?_
       have hdg:=jV (R.adv 2) (n:=R.p+2) ⟨hRb,Nat.le_refl _⟩
       have hdo:=qj (R.adv 2) ((hRk.adv 2).le (by omega))
       generalize dgR (R.adv 2)=q at *
       obtain ⟨q1,q2⟩:=q
       simp only at hdg hdo
       simp -implicitDefEqProofs only [go_sem]
       exact ⟨⟨T.size,q1⟩,q2,hdo,⟨hdg.1.1,by have:=hdg.1.2;omega⟩,rfl⟩
      ·simp -implicitDefEqProofs only [go_sem,g]
       exact ⟨T,R.adv 2,hk,⟨hRb,by show R.p+2≤_;omega⟩,rfl⟩
     ·clear hk
      clear T
      rintro s ⟨T,Q,hk,hQ,rfl⟩
      have hQp:=hQ.2
      have hQb:=hQ.1
      have hQk:Q.ok 400000100:=hQ.le (by omega)
      have okQ:∀i,i≤1000→(Q.adv i).ok 1000000000:=fun i hi=>(hQk.adv i).le (by omega)
      have a9:0≤pk Q 9∧pk Q 9<9:=zM (okQ 0 (by omega)) (by omega)
      have a4:=zM (n:=4) (okQ 1 (by omega)) (by omega)
      have w9:IntKind.i64.wrap (1+pk Q 9)=1+pk Q 9:=wrS (by omega)
      have w4:IntKind.i64.wrap (1+pk (Q.adv 1) 4)=1+pk (Q.adv 1) 4:=wrS (by omega)
      have hwb:=wbS ⟨3,1+pk (Q.adv 1) 4,0,T.size,T.root,0,[],[]⟩ rfl rfl hk
      generalize zr ⟨3,1+pk (Q.adv 1) 4,0,T.size,T.root,0,[],[]⟩=B at *
      simp -implicitDefEqProofs only [go_sem]
      refine WantM.intro (yc 9 (okQ 0 (by omega))) ?_
      simp -implicitDefEqProofs only [go_sem,w9]
      refine WantM.intro (yc 4 (okQ 1 (by omega))) ?_
      simp -implicitDefEqProofs only [go_sem,w4]
      refine Want.intro hwb ?_
      simp -implicitDefEqProofs only [go_sem]
      refine RetAt.intro _ _ (hfin (Q.adv 2) ⟨1+pk Q 9,1,B⟩ ⟨hQb,by show Q.p+2≤_;omega⟩) ?_
      simp -implicitDefEqProofs only [go_sem]
      first | done | rfl | exact ⟨rfl,rfl⟩ | trace_state
   ·simp -implicitDefEqProofs only [go_sem,g]
    refine zi (fun g=>?_) (fun g=>?_)
    ·obtain ⟨res,σ,⟨x,Q,⟨rfl,rfl⟩,hx1,hx2,hx3,hQ⟩,hcall⟩:=c95_c (R.adv 1) ((hRk.adv 1).le (by omega))
     have hx:=WOk.of hx1
     have hwb:=zpg x (by have:=hx.p;unfold maxLen;omega) (by have:=hx.l;unfold maxLen;omega) hx2 hx3
     generalize zr x=B at *
     have hQp:=hQ.2
     simp -implicitDefEqProofs only [go_sem,g]
     refine WantM.intro (yc 3 (okR 0 (by omega))) ?_
     simp -implicitDefEqProofs only [go_sem]
     refine WantM.intro hcall ?_
     simp -implicitDefEqProofs only [go_sem]
     refine Want.intro hwb ?_
     simp -implicitDefEqProofs only [go_sem]
     refine RetAt.intro _ _ (hfin Q ⟨pk R 3,1,B⟩ ⟨hQ.1,by have e:(R.adv 1).p=R.p+1:=rfl;omega⟩) ?_
     simp -implicitDefEqProofs only [go_sem]
     first | done | rfl | exact ⟨rfl,rfl⟩ | trace_state
    ·simp -implicitDefEqProofs only [go_sem,g]
     refine zi (fun g=>?_) (fun g=>?_)
     ·simp -implicitDefEqProofs only [go_sem,g]
      have hts:=zlC R 20 (a:=R.p) ⟨hRb,Nat.le_refl _⟩ (by omega) (by omega)
      refine WantM.intro (zo5 R 20 (hRk.le (by omega)) (by omega)) ?_
      generalize tx R 20=q at *
      obtain ⟨q1,q2⟩:=q
      simp only at hts
      simp -implicitDefEqProofs only [go_sem]
      refine RetAt.intro _ _ (hfin q2 ⟨0,1,q1⟩ ⟨hts.1.1,by have:=hts.1.2;have e:(20:Int).toNat=20:=rfl;omega⟩) ?_
      simp -implicitDefEqProofs only [go_sem]
      first | done | rfl | exact ⟨rfl,rfl⟩ | trace_state
     ·simp -implicitDefEqProofs only [go_sem,g]
      refine zR [0,2,8,9,11,13] [] (fun s=>∃(f:Nat) (Q:Dr),Q.ok (R.p+2)∧s=⟨135,[(0,vL),(2,.ro 1 (l.map zw)),(8,.ptr 8 0 [] 3 0 0),(9,.ptr 1000004 0 [] 2 0 0),(11,vI v),(13,vI f)],leH Q w.wishes [(8,0,one ⟨3,[zL3],0,false⟩)],1⟩) ?_ ?_
      ·have w1:IntKind.i64.wrap ((v:Int)+1)=((v+1:Nat):Int):=by rw [wrS (by omega)];omega
       have q1:=zM (n:=((v+1:Nat):Int)) (okR 1 (by omega)) (by omega)
       obtain ⟨u,hu⟩:∃u:Nat,pk (R.adv 1) ((v+1:Nat):Int)=u:=⟨(pk (R.adv 1) ((v+1:Nat):Int)).toNat,by omega⟩
       simp -implicitDefEqProofs only [go_sem]
       refine WantM.intro (yc 8 (okR 0 (by omega))) ?_
       simp -implicitDefEqProofs only [go_sem]
       refine zi (fun g=>?_) (fun g=>?_)
       ·simp -implicitDefEqProofs only [go_sem,g,w1]
        refine WantM.intro (yc _ (okR 1 (by omega))) ?_
        rw [hu]
        simp -implicitDefEqProofs only [go_sem]
        exact ⟨u,R.adv 2,⟨hRb,Nat.le_refl _⟩,rfl⟩
       ·simp -implicitDefEqProofs only [go_sem,g]
        exact ⟨m,R.adv 1,⟨hRb,by show R.p+1≤_;omega⟩,rfl⟩
      ·rintro s ⟨f,Q,hQ,rfl⟩
       refine zR [0,2,8,9,11,13] [] (fun s=>∃(f:Nat),f≤v∧s=⟨135,[(0,vL),(2,.ro 1 (l.map zw)),(8,.ptr 8 0 [] 3 0 0),(9,.ptr 1000004 0 [] 2 0 0),(11,vI v),(13,vI f)],leH Q w.wishes [(8,0,one ⟨3,[zL3],0,false⟩)],1⟩) ?_ ?_
       ·simp -implicitDefEqProofs only [go_sem]
        refine zi (fun g=>?_) (fun g=>?_)
        ·simp -implicitDefEqProofs only [go_sem,g]
         exact ⟨v,Nat.le_refl _,rfl⟩
        ·simp -implicitDefEqProofs only [go_sem,g]
         have:=of_decide_eq_false g
         exact ⟨f,by omega,rfl⟩
       ·clear f
        rintro s ⟨f,hf,rfl⟩
        have hQp:=hQ.2
        have hQb:=hQ.1
        have hQk:Q.ok 400000100:=hQ.le (by omega)
        have okQ:∀i,i≤1000→(Q.adv i).ok 1000000000:=fun i hi=>(hQk.adv i).le (by omega)
        have hpf:=c97_c (l.take v) f (by rw [List.length_take];unfold maxLen;omega)
        have hpl:=wO (l.take v) f (by rw [List.length_take];omega)
        have hpo:=jp (l.take v) f
        simp -implicitDefEqProofs only [go_sem,hv,hvI,Nat.sub_zero]
        refine WantM.intro hpf ?_
        unfold zif wz
        generalize zQ (l.take v) f=P at *
        simp -implicitDefEqProofs only [go_sem]
        refine zR [0,8,9,14] [] (fun s=>∃(P:List MDig) (n:Nat) (Q':Dr),(n≤P.length∧P.length≤513)∧(∀d∈P,d.ok)∧Q'.ok (Q.p+150)∧s=⟨135,[(0,vL),(8,.ptr 8 0 [] 3 0 0),(9,.ptr 1000004 0 [] 2 0 0),(14,.ptr 14 0 [] 11 0 0)],leH Q' w.wishes [(8,0,one ⟨3,[zL3],0,false⟩),(14,0,one ⟨11,[[.sc (.int .i64 5),.sc (.int .i64 0),vI f,vI v,.sc (.int .u64 0),.sc (.int .u64 0),.sc (.int .u64 0),.sc (.int .u64 0),.sc (.int .i64 0),.blk 10014 0 [] 4 0 n,.nilS]],0,false⟩),(10014,0,one ⟨4,P.map MDig.cs,2,false⟩)],1⟩) ?_ ?_
        ·simp -implicitDefEqProofs only [go_sem]
         refine WantM.intro (yc 6 (okQ 0 (by omega))) ?_
         simp -implicitDefEqProofs only [go_sem]
         refine zi (fun g=>?_) (fun g=>?_)
         ·obtain ⟨res,σ,⟨P',n,Q1,⟨rfl,rfl⟩,hn,hP',hQ1⟩,hcall⟩:=c98_c (Q.adv 1) P ((hQk.adv 1).le (by omega)) (by omega) hpo
          have hQ1p:=hQ1.2
          simp -implicitDefEqProofs only [go_sem,g]
          refine WantM.intro hcall ?_
          simp -implicitDefEqProofs only [go_sem]
          exact ⟨P',n,Q1,⟨hn.1,by omega⟩,hP',⟨hQ1.1,by have e:(Q.adv 1).p=Q.p+1:=rfl;omega⟩,rfl⟩
         ·simp -implicitDefEqProofs only [go_sem,g]
          exact ⟨P,P.length,Q.adv 1,⟨Nat.le_refl _,by omega⟩,hpo,⟨hQb,by show Q.p+1≤_;omega⟩,rfl⟩
        ·clear hpl hpo hpf
         clear P
         rintro s ⟨P,n,Q',⟨hn,hP⟩,hPo,hQ',rfl⟩
         have hQ'p:=hQ'.2
         have hQ'b:=hQ'.1
         have hQ'k:Q'.ok 400000300:=hQ'.le (by omega)
         have a12:0≤pk Q' 12∧pk Q' 12<12:=zM (hQ'k.le (by omega)) (by omega)
         have w12:IntKind.i64.wrap ((pk Q' 12).tdiv 11)=(pk Q' 12).tdiv 11:=by
          rw [Int.tdiv_eq_ediv_of_nonneg a12.1]
          exact wrS (by omega)
         have hwb:=wbG f v (P.take n) (by rw [List.length_take];unfold maxLen;omega) (fun d hd=>hPo d (List.mem_of_mem_take hd))
         generalize zr (znb f v (P.take n))=B at *
         simp -implicitDefEqProofs only [go_sem]
         refine WantM.intro (yc 12 (hQ'k.le (by omega))) ?_
         simp -implicitDefEqProofs only [go_sem,w12,hn]
         refine Want.intro hwb ?_
         simp -implicitDefEqProofs only [go_sem]
         refine RetAt.intro _ _ (hfin (Q'.adv 1) ⟨(pk Q' 12).tdiv 11,1,B⟩ ⟨hQ'b,by show Q'.p+1≤_;omega⟩) ?_
         simp -implicitDefEqProofs only [go_sem]
         first | done | rfl | exact ⟨rfl,rfl⟩ | trace_state
def znH (res:AV) (σ:Sig):Prop:=∃(w:MWit) (me:Int) (x:MLet),(res=.tup [w.avK 0,vI me,.agg x.cs]∧σ=[(0,0,one ⟨7,w.wishes.map MWish.cs,2,false⟩)])∧w.disk.ok∧w.wishes.length≤8∧∀x∈w.wishes,x.pt.root.ok
def dwH (w:MWit) (x:MLet) (y:Sig):Sig:=[(2,0,one ⟨15,[zdisk.cs++[.nilS]],0,false⟩),(4,0,one ⟨3,[zL3],0,false⟩)]++(y++[(8,0,one ⟨15,[w.cs (.blk 10008 0 [] 7 0 w.wishes.length)],0,false⟩),(10008,0,one ⟨7,w.wishes.map MWish.cs,2,false⟩),(9,0,one ⟨3,[x.cs],0,false⟩)])
def Dr.r5s (r:Dr):Sig:=[(5,0,one ⟨1,[[.ptr 10005 0 [] 1 0 0]],0,false⟩),(10005,0,one ⟨1,[[.ptr 20005 0 [] 1 0 0]],0,false⟩),(20005,0,one ⟨1,[[.ptr 30005 0 [] 2 0 0]],0,false⟩),(30005,0,one ⟨2,[r.cs],0,false⟩)]
attribute [go_sem] Dr.r5s
attribute [go_sem] dwH
theorem c7_c (code:List UInt8) (hl:code.length≤maxLen):∃res σ,znH res σ∧zW Tryz.prog 7 [] [.ro 1 (code.map zy)] res σ:=by
 refine zl dcX4 true Tryz.f7 ?_
 conv=>enter [1];reduce
 refine jvX Tryz.f7 74 [.cell 2 32,.tmp 3,.cell 4 34] znH (by kernel_rfl) (by decide +kernel) (by kernel_rfl) rfl ?_
 have h0:(Dr.mk (code.take 2000) 0).ok 0:=⟨List.length_take_le _ _,Nat.le_refl _⟩
 simp -implicitDefEqProofs only [go_sem]
 refine WantM.intro (c35_c code hl) ?_
 generalize Dr.mk (code.take 2000) 0=r0 at *
 simp -implicitDefEqProofs only [go_sem]
 obtain ⟨res,σ,⟨l,m,r1,⟨rfl,rfl⟩,⟨hl1,hm1,hm2⟩,hr1⟩,hcall⟩:=c36_c r0 (h0.le (by omega))
 have hr1:r1.ok 2000:=hr1.le (by have:=h0.2;omega)
 obtain ⟨m,rfl⟩:∃k:Nat,m=k:=⟨m.toNat,by omega⟩
 refine WantM.intro hcall ?_
 simp -implicitDefEqProofs only [go_sem]
 obtain ⟨res,σ,⟨w,r2,⟨rfl,rfl⟩,hw,hr2⟩,hcall2⟩:=c37_c r1 l m (hr1.le (by omega)) hl1 (by omega)
 have hr2:r2.ok 3000:=hr2.le (by have:=hr1.2;omega)
 refine WantM.intro hcall2 ?_
 simp -implicitDefEqProofs only [go_sem]
 obtain ⟨res,σ,⟨x,r3,⟨rfl,rfl⟩,hr3⟩,hcall3⟩:=c38_c r2 w l m (hr2.le (by omega)) hl1 (by omega) hw
 have hr3:r3.ok 9000:=hr3.le (by have:=hr2.2;omega)
 have ok3:∀i,i≤1000→(r3.adv i).ok 1000000000:=fun i hi=>(hr3.adv i).le (by omega)
 refine WantM.intro hcall3 ?_
 simp -implicitDefEqProofs only [go_sem]
 refine WantM.intro (yc 24 (ok3 0 (by omega))) ?_
 generalize pk r3 24=k
 clear hcall hcall2 hcall3
 obtain ⟨hwd,hwl,hwp⟩:=hw
 simp -implicitDefEqProofs only [go_sem]
 refine zR [2,4,5,8,9,10] [] (fun s=>∃w:MWit,(w.disk.ok∧w.wishes.length≤8∧∀x∈w.wishes,x.pt.root.ok)∧s=⟨74,[(2,.ptr 2 0 [] 15 0 0),(4,.ptr 4 0 [] 3 0 0),(5,.ptr 5 0 [] 1 0 0),(8,.ptr 8 0 [] 15 0 0),(9,.ptr 9 0 [] 3 0 0),(10,vI k)],dwH w x (r3.adv 1).r5s,1⟩) ?_ ?_
 ·by_cases g0:k=0
  ·have g0':(k==0)=true:=by simpa using g0
   by_cases g1:(w.wishes.length:Int)>0
   ·obtain ⟨d,W⟩:=w
    cases W with
    | nil=>exact absurd g1 (by simp)
    | cons y W=>
     have hy:=hwp y (List.mem_cons_self ..)
     have l0:(0:Int)<((W.length+1:Nat):Int):=by omega
     simp -implicitDefEqProofs only [go_sem,g0',g1,l0,zc,zb]
     refine ⟨⟨d,⟨y.who,0,y.pt⟩::W⟩,⟨hwd,hwl,?_⟩,?_⟩
     ·intro z hz
      rcases List.mem_cons.1 hz with rfl | hz
      ·exact hy.1
      ·exact (hwp z (List.mem_cons_of_mem _ hz)).1
     ·first | done | rfl | trace_state
   ·simp -implicitDefEqProofs only [go_sem,g0',g1,zc,za]
    exact ⟨w,⟨hwd,hwl,fun x hx=>(hwp x hx).1⟩,rfl⟩
  ·have g0':(k==0)=false:=by simpa using g0
   simp -implicitDefEqProofs only [go_sem,g0',ze,za]
   exact ⟨w,⟨hwd,hwl,fun x hx=>(hwp x hx).1⟩,rfl⟩
 ·clear hwd hwl hwp
  clear w
  rintro s ⟨w,⟨hwd,hwl,hwp⟩,rfl⟩
  have a2:=zM (n:=2) (ok3 1 (by omega)) (by omega)
  have w2:IntKind.i64.wrap (pk (r3.adv 1) 2 * 21)=pk (r3.adv 1) 2 * 21:=wrS (by omega)
  simp -implicitDefEqProofs only [go_sem]
  refine zi (fun g=>?_) (fun g=>?_)
  ·simp -implicitDefEqProofs only [go_sem,g]
   refine WantM.intro (yc 2 (ok3 1 (by omega))) ?_
   simp -implicitDefEqProofs only [go_sem,w2]
   refine RetAt.intro (.tup [w.avK 0,vI (pk (r3.adv 1) 2 * 21),.agg x.cs]) [(0,0,one ⟨7,w.wishes.map MWish.cs,2,false⟩)] ⟨w,_,x,⟨rfl,rfl⟩,hwd,hwl,hwp⟩ ?_
   simp -implicitDefEqProofs only [go_sem]
   first | done | rfl | exact ⟨rfl,rfl⟩ | trace_state
  ·simp -implicitDefEqProofs only [go_sem,g]
   refine zR [2,4,8,9] [] (fun s=>∃x:MLet,s=⟨74,[(2,.ptr 2 0 [] 15 0 0),(4,.ptr 4 0 [] 3 0 0),(8,.ptr 8 0 [] 15 0 0),(9,.ptr 9 0 [] 3 0 0)],dwH w x [],1⟩) ?_ ?_
   ·simp -implicitDefEqProofs only [go_sem]
    refine zi (fun g=>?_) (fun g=>?_)
    ·simp -implicitDefEqProofs only [go_sem,g]
     exact ⟨⟨x.from_,-1,x.text⟩,rfl⟩
    ·simp -implicitDefEqProofs only [go_sem,g]
     exact ⟨x,rfl⟩
   ·rintro s ⟨x,rfl⟩
    simp -implicitDefEqProofs only [go_sem]
    refine RetAt.intro (.tup [w.avK 0,vI 1,.agg x.cs]) [(0,0,one ⟨7,w.wishes.map MWish.cs,2,false⟩)] ⟨w,_,x,⟨rfl,rfl⟩,hwd,hwl,hwp⟩ ?_
    simp -implicitDefEqProofs only [go_sem]
    first | done | rfl | exact ⟨rfl,rfl⟩ | trace_state
end Go.Proofs.YtpjpkmhaffmbmaaGreat.E
