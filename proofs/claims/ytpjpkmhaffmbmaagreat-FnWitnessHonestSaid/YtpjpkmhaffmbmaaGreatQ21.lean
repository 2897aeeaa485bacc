/- Contracts: drawn witnesses. -/
import Derived.Test.YtpjpkmhaffmbmaaGreatQ18
import Derived.Test.YtpjpkmhaffmbmaaGreatQ20
namespace Go.Proofs.YtpjpkmhaffmbmaaGreat.E
open Go Go.RowKit
set_option maxHeartbeats 4000000
set_option maxRecDepth 10000
set_option linter.unusedSimpArgs false
set_option linter.unusedVariables false
set_option linter.unusedSectionVars false
def dcX3:Dec:=⟨[(39,.cm [true,false]),(93,.cm [true])],[9,10,11],[22,30,37,38,39,40,49,56,76,80,87,141,143,159,237,250,259],false⟩
def Dr.r4 (r:Dr):Sig:=[(1000000,0,one ⟨1,[[.ptr 1000001 0 [] 1 0 0]],0,false⟩),(1000001,0,one ⟨1,[[.ptr 1000002 0 [] 1 0 0]],0,false⟩),(1000002,0,one ⟨1,[[.ptr 1000003 0 [] 2 0 0]],0,false⟩),(1000003,0,one ⟨2,[r.cs],0,false⟩)]
attribute [go_sem] Dr.r4
structure DWi (n:Nat) (w:MWit):Prop where
 d:w.disk.ok
 l:w.wishes.length≤8
 p:∀x∈w.wishes,x.pt.root.ok∧(0≤x.pt.size∧x.pt.size≤(n:Int))
def zWit:List AV:=zdisk.cs++[.nilS]
def wiH (r:Dr) (d:MDisk) (W:List MWish):Sig:=[(1000000,0,one ⟨1,[[.ptr 1000001 0 [] 1 0 0]],0,false⟩),(1000001,0,one ⟨1,[[.ptr 1000002 0 [] 1 0 0]],0,false⟩),(1000002,0,one ⟨1,[[.ptr 1000003 0 [] 2 0 0]],0,false⟩),(1000003,0,one ⟨2,[r.cs],0,false⟩),(6,0,one ⟨15,[zdisk.cs++[.nilS]],0,false⟩),(7,0,one ⟨15,[MWit.cs ⟨d,W⟩ (.blk 10007 0 [] 7 0 W.length)],0,false⟩),(10007,0,one ⟨7,W.map MWish.cs,2,false⟩)]
attribute [go_sem] wiH
def wiH2 (r:Dr) (d:MDisk) (W:List MWish) (T:MPt):Sig:=[(1000000,0,one ⟨1,[[.ptr 1000001 0 [] 1 0 0]],0,false⟩),(1000001,0,one ⟨1,[[.ptr 1000002 0 [] 1 0 0]],0,false⟩),(1000002,0,one ⟨1,[[.ptr 1000003 0 [] 2 0 0]],0,false⟩),(1000003,0,one ⟨2,[r.cs],0,false⟩),(6,0,one ⟨15,[zdisk.cs++[.nilS]],0,false⟩),(7,0,one ⟨15,[MWit.cs ⟨d,W⟩ (.blk 10007 0 [] 7 0 W.length)],0,false⟩),(10007,0,one ⟨7,W.map MWish.cs,2,false⟩),(12,0,one ⟨5,[T.cs],0,false⟩)]
attribute [go_sem] wiH2
def znG (n:Nat) (r:Dr) (res:AV) (σ:Sig):Prop:=∃(w:MWit) (r':Dr),(res=.agg (w.cs (.blk 0 0 [] 7 0 w.wishes.length))∧σ=r'.r4++[(0,0,one ⟨7,w.wishes.map MWish.cs,2,false⟩)])∧DWi n w∧r'.ok (r.p+500)
theorem zgU (l:List MWish) (h:l.length≤100000):∀x,(l.map MWish.cs++[x]).length≤maxLen∧(l.map MWish.cs++[x]).length * 56≤140737488355328:=fun x=>zK (E:=MWish.cs) (l:=l) (xs:=[x]) (b:=56) (n:=1000000) (by simp;omega) (by omega) (by omega)
theorem c37_c (r:Dr) (l:List ByteArray) (m:Nat) (h:r.ok 500000000) (hl:l.length≤80) (hm:m≤l.length):∃res σ,znG l.length r res σ∧zW Tryz.prog 37 r.r4 [vL,.ro 1 (l.map zw),vI m] res σ:=by
 refine zl dcX3 true Tryz.f37 ?_
 conv=>enter [1];reduce
 refine jvX Tryz.f37 213 [.cell 6 32] (znG l.length r) (by kernel_rfl) (by decide +kernel) (by kernel_rfl) rfl ?_
 have hp:=h.2
 have hb:=h.1
 have ok:∀i,i≤1000→(r.adv i).ok 1000000000:=fun i hi=>(h.adv i).le (by omega)
 have hTP:=fun k=>zgY (l.take k) (by rw [List.length_take];unfold maxLen;omega)
 have hTk:=fun k=>zbD (l.take k)
 have hdk:=c92_c l m (pk r 2==0) (by omega) hm
 have hd9:=zj9 l m (pk r 2==0)
 generalize ze4 l m (pk r 2==0)=D at *
 simp -implicitDefEqProofs only [go_sem]
 refine WantM.intro (yc 2 (ok 0 (by omega))) ?_
 simp -implicitDefEqProofs only [go_sem]
 refine Want.intro hdk ?_
 simp -implicitDefEqProofs only [go_sem]
 refine zi (fun g=>?_) (fun g=>?_)
 ·simp -implicitDefEqProofs only [go_sem,g]
  refine RetAt.intro (.agg (MWit.cs ⟨D,[]⟩ (.blk 0 0 [] 7 0 0))) ((r.adv 1).r4++[(0,0,one ⟨7,[],2,false⟩)]) ⟨⟨D,[]⟩,r.adv 1,⟨rfl,rfl⟩,⟨hd9,Nat.zero_le _,by simp⟩,hb,by show r.p+1≤_;omega⟩ ?_
  simp -implicitDefEqProofs only [go_sem]
  first | done | rfl | exact ⟨rfl,rfl⟩ | trace_state
 ·have gm:m<l.length:=by
   have:¬(m:Int)=(l.length:Int):=by simpa using g
   omega
  have wd:IntKind.i64.wrap ((l.length:Int) - (m:Int))=((l.length - m:Nat):Int):=by rw [wrS (by omega)];omega
  have wm:IntKind.i64.wrap ((m:Int)+1)=((m+1:Nat):Int):=by rw [wrS (by omega)];omega
  have qd:=fun i (hi:i≤1000)=>zM (n:=((l.length - m:Nat):Int)) (ok i hi) (by omega)
  have q1:=qd 1 (by omega)
  obtain ⟨u,hu⟩:∃u:Nat,pk (r.adv 1) ((l.length - m:Nat):Int)=u:=⟨(pk (r.adv 1) ((l.length - m:Nat):Int)).toNat,by omega⟩
  have wg:IntKind.i64.wrap (((m+1:Nat):Int)+(u:Int))=((m+1+u:Nat):Int):=by rw [wrS (by omega)];omega
  have q4:=zM (n:=4) (ok 2 (by omega)) (by omega)
  obtain ⟨K,hK⟩:∃K:Nat,pk (r.adv 2) 4=K:=⟨(pk (r.adv 2) 4).toNat,by omega⟩
  have wk:IntKind.i64.wrap (1+(K:Int))=((K+1:Nat):Int):=by rw [wrS (by omega)];omega
  simp -implicitDefEqProofs only [go_sem,g,wd,wm]
  refine WantM.intro (yc _ (ok 1 (by omega))) ?_
  rw [hu]
  simp -implicitDefEqProofs only [go_sem,wg]
  refine WantM.intro (yc 4 (ok 2 (by omega))) ?_
  rw [hK]
  simp -implicitDefEqProofs only [go_sem,wk]
  generalize hG:m+1+u=goal at *
  have hgl:goal≤l.length:=by omega
  refine qv [(15007,7)] (fun n s=>∃(who:Nat) (W:List MWish) (R:Dr),(W.length+n≤4∧who+3 * n≤20)∧(∀x∈W,x.pt.root.ok∧(0≤x.pt.size∧x.pt.size≤(l.length:Int)))∧(R.b.length≤2000∧R.p+50 * n≤r.p+250)∧s=⟨213,[(0,vL),(1,.ro 1 (l.map zw)),(2,vI m),(6,.ptr 6 0 [] 15 0 0),(7,.ptr 7 0 [] 15 0 0),(8,vI who),(9,vI goal),(10,vI n)],wiH R D W,1⟩) (K+1) ?_ ?_
  ·simp -implicitDefEqProofs only [go_sem]
   exact ⟨0,[],r.adv 3,⟨by show 0+(K+1)≤4;omega,by omega⟩,by simp,⟨hb,by show r.p+3+50 * (K+1)≤_;omega⟩,rfl⟩
  ·rintro n s ⟨who,W,R,⟨hW1,hW2⟩,hWx,hR,rfl⟩
   have hRok:R.ok 500001000:=⟨hR.1,by omega⟩
   have okR:∀i,i≤1000→(R.adv i).ok 1000000000:=fun i hi=>(hRok.adv i).le (by omega)
   rcases Nat.eq_zero_or_pos n with rfl | hn
   ·have n0:¬(((0:Nat):Int)>0):=by decide
    have hG2:=hTP goal
    have hK2:=hTk goal
    have hgI:(goal:Int)≤(l.length:Int):=by omega
    have hlt:(l.take goal).length≤l.length:=by rw [List.length_take];omega
    clear hTP hTk
    simp -implicitDefEqProofs only [go_sem,n0,za]
    refine zR [0,6,7] [] (fun s=>∃(W:List MWish),W.length≤8∧(∀x∈W,x.pt.root.ok∧(0≤x.pt.size∧x.pt.size≤(l.length:Int)))∧s=⟨213,[(0,vL),(6,.ptr 6 0 [] 15 0 0),(7,.ptr 7 0 [] 15 0 0)],wiH (R.adv 1) D W,1⟩) ?_ ?_
    ·simp -implicitDefEqProofs only [go_sem]
     refine WantM.intro (yc 24 (okR 0 (by omega))) ?_
     simp -implicitDefEqProofs only [go_sem]
     refine zi (fun g=>?_) (fun g=>?_)
     ·simp -implicitDefEqProofs only [go_sem,g]
      refine zX (fun k s=>∃(who:Nat) (W:List MWish),(W.length≤8∧k=8 - W.length∧who+k≤60)∧(∀x∈W,x.pt.root.ok∧(0≤x.pt.size∧x.pt.size≤(l.length:Int)))∧s=⟨213,[(0,vL),(1,.ro 1 (l.map zw)),(6,.ptr 6 0 [] 15 0 0),(7,.ptr 7 0 [] 15 0 0),(8,vI who),(9,vI goal)],wiH (R.adv 1) D W,1⟩) (8 - W.length) ?_ ?_
      ·simp -implicitDefEqProofs only [go_sem]
       exact ⟨who,W,⟨by omega,rfl,by omega⟩,hWx,rfl⟩
      ·clear hWx hW1 hW2
       clear W who
       rintro k s ⟨who,W,⟨hw1,rfl,hw3⟩,hWx,rfl⟩
       by_cases h8:(W.length:Int)<8
       ·have w1:IntKind.i64.wrap ((who:Int)+1)=((who+1:Nat):Int):=by rw [wrS (by omega)];omega
        simp -implicitDefEqProofs only [go_sem,h8,w1,zb,hgl,hgI,Nat.sub_zero]
        refine Want.intro hG2 ?_
        generalize tPt (l.take goal)=T at *
        simp -implicitDefEqProofs only [go_sem,zgU W (by omega)]
        refine ⟨8 - (W.length+1),by omega,who+1,W++[⟨who+1,1,T⟩],⟨by rw [List.length_append];show W.length+1≤8;omega,by rw [List.length_append];rfl,by omega⟩,?_,?_⟩
        ·intro x hx
         rcases List.mem_append.1 hx with hx | hx
         ·exact hWx x hx
         ·rw [List.mem_singleton.1 hx];exact ⟨hK2.1,hK2.2.1,by show T.size≤_;omega⟩
        ·simp only [List.length_append,List.length_map,List.map_append,List.length_cons,List.length_nil,List.map_cons,List.map_nil]
         rfl
       ·simp -implicitDefEqProofs only [go_sem,h8,za]
        exact ⟨W,hw1,hWx,rfl⟩
     ·simp -implicitDefEqProofs only [go_sem,g]
      exact ⟨W,by omega,hWx,rfl⟩
    ·clear hWx hW1 hW2
     clear W
     rintro s ⟨W,hW,hWx,rfl⟩
     refine zR [6,7] [] (fun s=>∃(D:MDisk),D.ok∧s=⟨213,[(6,.ptr 6 0 [] 15 0 0),(7,.ptr 7 0 [] 15 0 0)],wiH (R.adv 2) D W,1⟩) ?_ ?_
     ·have hso:(⟨D.one.sum,1000000000,D.one.size,D.one.root⟩:MSlot).ok:=⟨hd9.a.s,(by show (1000000000:Nat)<18446744073709551616;decide),hd9.a.z,hd9.a.r⟩
      have hss:=zo6 ⟨D.one.sum,1000000000,D.one.size,D.one.root⟩ hso
      have hsl:=zj3 ⟨D.one.sum,1000000000,D.one.size,D.one.root⟩
      generalize zbc ⟨D.one.sum,1000000000,D.one.size,D.one.root⟩=S at *
      simp -implicitDefEqProofs only [go_sem]
      refine WantM.intro (yc 24 (okR 1 (by omega))) ?_
      simp -implicitDefEqProofs only [go_sem]
      refine zi (fun g=>?_) (fun g=>?_)
      ·simp -implicitDefEqProofs only [go_sem,g]
       refine Want.intro hss ?_
       simp -implicitDefEqProofs only [go_sem]
       exact ⟨⟨⟨S,1000000000,D.one.size,D.one.root⟩,D.two⟩,⟨⟨hsl,hso.q,hso.z,hso.r⟩,hd9.b⟩,rfl⟩
      ·simp -implicitDefEqProofs only [go_sem,g]
       exact ⟨D,hd9,rfl⟩
     ·clear hd9 hdk
      clear D
      rintro s ⟨D,hd,rfl⟩
      simp -implicitDefEqProofs only [go_sem]
      refine RetAt.intro (.agg (MWit.cs ⟨D,W⟩ (.blk 0 0 [] 7 0 W.length))) ((R.adv 2).r4++[(0,0,one ⟨7,W.map MWish.cs,2,false⟩)]) ⟨⟨D,W⟩,R.adv 2,⟨rfl,rfl⟩,⟨hd,hW,hWx⟩,hR.1,by show R.p+2≤_;omega⟩ ?_
      simp -implicitDefEqProofs only [go_sem]
      first | done | rfl | exact ⟨rfl,rfl⟩ | trace_state
   ·obtain ⟨n,rfl⟩:∃k,n=k+1:=⟨n - 1,by omega⟩
    have n0:(((n+1:Nat):Int)>0):=by omega
    have wn:IntKind.i64.wrap (((n+1:Nat):Int) - 1)=(n:Int):=by rw [wrS (by omega)];omega
    have w1:IntKind.i64.wrap ((who:Int)+1)=((who+1:Nat):Int):=by rw [wrS (by omega)];omega
    have q0:=zM (n:=3) (okR 0 (by omega)) (by omega)
    obtain ⟨a,ha⟩:∃a:Nat,pk R 3=a:=⟨(pk R 3).toNat,by have:=q0.1;exact (Int.toNat_of_nonneg this).symm⟩
    have ha3:a<3:=by have:=q0.2;have e:(R.adv 0)=R:=rfl;rw [e,ha] at this;omega
    have w2:IntKind.i64.wrap (((who+1:Nat):Int)+(a:Int))=((who+1+a:Nat):Int):=by rw [wrS (by omega)];omega
    simp -implicitDefEqProofs only [go_sem,n0,zb,w1]
    refine WantM.intro (yc 3 (okR 0 (by omega))) ?_
    rw [ha]
    simp -implicitDefEqProofs only [go_sem,w2]
    generalize hwho:who+1+a=who2 at *
    refine zR [0,1,2,6,7,8,9,10,11] [] (fun s=>∃(v:Nat) (R':Dr),v≤l.length∧(R'.b.length≤2000∧R'.p≤R.p+3)∧s=⟨213,[(0,vL),(1,.ro 1 (l.map zw)),(2,vI m),(6,.ptr 6 0 [] 15 0 0),(7,.ptr 7 0 [] 15 0 0),(8,vI who2),(9,vI goal),(10,vI ((n+1:Nat):Int)),(11,vI v)],wiH R' D W,1⟩) ?_ ?_
    ·simp -implicitDefEqProofs only [go_sem]
     refine WantM.intro (yc 3 (okR 1 (by omega))) ?_
     simp -implicitDefEqProofs only [go_sem]
     refine zi (fun g=>?_) (fun g=>?_)
     ·have q2:=zM (n:=((l.length - m:Nat):Int)) (okR 2 (by omega)) (by omega)
      obtain ⟨b,hbb⟩:∃b:Nat,pk (R.adv 2) ((l.length - m:Nat):Int)=b:=⟨(pk (R.adv 2) ((l.length - m:Nat):Int)).toNat,by omega⟩
      have w3:IntKind.i64.wrap (((m+1:Nat):Int)+(b:Int))=((m+1+b:Nat):Int):=by rw [wrS (by omega)];omega
      simp -implicitDefEqProofs only [go_sem,g,wd,wm]
      refine WantM.intro (yc _ (okR 2 (by omega))) ?_
      rw [hbb]
      simp -implicitDefEqProofs only [go_sem,w3]
      exact ⟨m+1+b,R.adv 3,by omega,⟨hR.1,Nat.le_refl _⟩,rfl⟩
     ·simp -implicitDefEqProofs only [go_sem,g]
      exact ⟨goal,R.adv 2,hgl,⟨hR.1,by show R.p+2≤_;omega⟩,rfl⟩
    ·rintro s ⟨v,R1,hv,hR1,rfl⟩
     have hvI:(v:Int)≤(l.length:Int):=by omega
     have hT:=hTP v
     have hk:=hTk v
     have hvl:(l.take v).length≤l.length:=by rw [List.length_take];omega
     have hR1ok:R1.ok 500001000:=⟨hR1.1,by omega⟩
     have okR1:∀i,i≤1000→(R1.adv i).ok 1000000000:=fun i hi=>(hR1ok.adv i).le (by omega)
     simp -implicitDefEqProofs only [go_sem,hv,hvI,Nat.sub_zero]
     refine Want.intro hT ?_
     generalize tPt (l.take v)=T at *
     simp -implicitDefEqProofs only [go_sem]
     refine zR [0,1,2,6,7,8,9,10,12] [] (fun s=>∃(T:MPt) (R':Dr),(T.root.ok∧(0≤T.size∧T.size≤(l.length:Int)))∧(R'.b.length≤2000∧R'.p≤R.p+45)∧s=⟨213,[(0,vL),(1,.ro 1 (l.map zw)),(2,vI m),(6,.ptr 6 0 [] 15 0 0),(7,.ptr 7 0 [] 15 0 0),(8,vI who2),(9,vI goal),(10,vI ((n+1:Nat):Int)),(12,.ptr 12 0 [] 5 0 0)],wiH2 R' D W T,1⟩) ?_ ?_
     ·simp -implicitDefEqProofs only [go_sem]
      refine WantM.intro (yc 6 (okR1 0 (by omega))) ?_
      simp -implicitDefEqProofs only [go_sem]
      refine zi (fun g=>?_) (fun g=>?_)
      ·simp -implicitDefEqProofs only [go_sem,g]
       refine WantM.intro (zcx (R1.adv 1) ((hR1ok.adv 1).le (by omega))) ?_
       have hdg:=jV (R1.adv 1) (n:=R1.p+1) ⟨hR1.1,Nat.le_refl _⟩
       have hdo:=qj (R1.adv 1) ((hR1ok.adv 1).le (by omega))
       generalize dgR (R1.adv 1)=q at *
       obtain ⟨q1,q2⟩:=q
       simp only at hdg hdo
       simp -implicitDefEqProofs only [go_sem]
       exact ⟨⟨T.size,q1⟩,q2,⟨hdo,hk.2.1,by show T.size≤_;omega⟩,⟨hdg.1.1,by have:=hdg.1.2;omega⟩,rfl⟩
      ·simp -implicitDefEqProofs only [go_sem,g]
       exact ⟨T,R1.adv 1,⟨hk.1,hk.2.1,by omega⟩,⟨hR1.1,by show R1.p+1≤_;omega⟩,rfl⟩
     ·clear hT hk hR1ok okR1
      clear T
      rintro s ⟨T,R2,hT,hR2,rfl⟩
      have hR2ok:R2.ok 500001000:=⟨hR2.1,by omega⟩
      have q4:=zM (n:=4) (hR2ok.le (b:=1000000000) (by omega)) (by omega)
      have w4:IntKind.i64.wrap (1+pk R2 4)=1+pk R2 4:=wrS (by omega)
      simp -implicitDefEqProofs only [go_sem]
      refine WantM.intro (yc 4 (hR2ok.le (by omega))) ?_
      simp -implicitDefEqProofs only [go_sem,w4,zgU W (by omega),wn]
      refine ⟨n,by omega,who2,W++[⟨who2,1+pk R2 4,T⟩],R2.adv 1,⟨by rw [List.length_append];show W.length+1+n≤4;omega,by omega⟩,?_,⟨hR2.1,by show R2.p+1+50 * n≤_;omega⟩,?_⟩
      ·intro x hx
       rcases List.mem_append.1 hx with hx | hx
       ·exact hWx x hx
       ·rw [List.mem_singleton.1 hx];exact hT
      ·simp only [List.length_append,List.length_map,List.map_append,List.length_cons,List.length_nil,List.map_cons,List.map_nil]
       rfl
end Go.Proofs.YtpjpkmhaffmbmaaGreat.E
