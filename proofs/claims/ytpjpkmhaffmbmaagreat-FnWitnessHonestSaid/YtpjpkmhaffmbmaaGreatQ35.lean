/- The law of WitnessHonest. -/
import Derived.Test.YtpjpkmhaffmbmaaGreatQ27
import Derived.Test.YtpjpkmhaffmbmaaGreatQ22
import Derived.Test.YtpjpkmhaffmbmaaGreatQ28
import Derived.Test.YtpjpkmhaffmbmaaGreatQ29
import Derived.Test.YtpjpkmhaffmbmaaGreatQ9
import Derived.Test.YtpjpkmhaffmbmaaGreatQ34
namespace Go.Proofs.YtpjpkmhaffmbmaaGreat.E
open Go Go.RowKit
set_option maxHeartbeats 4000000
set_option maxRecDepth 10000
set_option linter.unusedSimpArgs false
set_option linter.unusedVariables false
set_option linter.unusedSectionVars false
def dcX9:Dec:=⟨[(8,.cm [true,false,false]),(9,.cm [false,false,false]),(20,.cm [false]),(24,.cm [false,false]),(39,.cm [true,false]),(72,.cm [false]),(73,.cm [true])],[9,10,11],[22,30,37,38,39,40,49,56,76,80,87,141,143,159,237,250,259],false⟩
attribute [-go_sem] ju
@[go_sem] theorem zrz:ju Tryz.prog 47 0=some 3:=by kernel_rfl
def znM (res:AV) (σ:Sig):Prop:=∃(l:List ByteArray) (m:Int),(res=.tup [.blk 0 0 [] 1 0 l.length,vI m]∧σ=[(0,0,one ⟨1,l.map zw,2,false⟩)])∧l.length≤300
theorem c20_c (l:List UInt8) (hl:l.length≤maxLen):∃res σ,znM res σ∧zW Tryz.prog 20 [] [.ro 1 (l.map zy)] res σ:=by
 refine zl dcX9 true Tryz.f20 ?_
 conv=>enter [1];reduce
 refine jvX Tryz.f20 26 [.tmp 2,.tmp 3] znM (by kernel_rfl) (by decide +kernel) (by kernel_rfl) rfl ?_
 have h0:(Dr.mk (l.take 2000) 0).ok 0:=⟨List.length_take_le _ _,Nat.le_refl _⟩
 simp -implicitDefEqProofs only [go_sem]
 refine WantM.intro (zrT l hl) ?_
 simp -implicitDefEqProofs only [go_sem]
 obtain ⟨res,σ,⟨x,r',⟨rfl,rfl⟩,hx,hr'⟩,hcall⟩:=c73_c ⟨l.take 2000,0⟩ (h0.le (by omega))
 refine WantM.intro hcall ?_
 have hr:r'.ok 2000:=hr'.le (by show 0+1000≤2000;omega)
 have w1:IntKind.i64.wrap ((x.length:Int)+3)=(x.length:Int)+3:=wrS (by omega)
 have q:=zM (n:=(x.length:Int)+3) (hr.le (by omega)) (by omega)
 have w2:IntKind.i64.wrap (pk r' ((x.length:Int)+3) - 1)=pk r' ((x.length:Int)+3) - 1:=wrS (by omega)
 simp -implicitDefEqProofs only [go_sem,w1]
 refine WantM.intro (yc _ (hr.le (by omega))) ?_
 simp -implicitDefEqProofs only [go_sem,w2]
 refine RetAt.intro (.tup [.blk 0 0 [] 1 0 x.length,vI (pk r' ((x.length:Int)+3) - 1)]) [(0,0,one ⟨1,x.map zw,2,false⟩)] ⟨x,_,⟨rfl,rfl⟩,hx⟩ ?_
 simp -implicitDefEqProofs only [go_sem]
def hoH (w:MWit) (x:Sig):Sig:=[(5,0,one ⟨15,[w.cs (.blk 10005 0 [] 7 0 w.wishes.length)],0,false⟩),(10005,0,one ⟨7,w.wishes.map MWish.cs,2,false⟩)]++x
attribute [go_sem] hoH
theorem zid {L:List ByteArray} {f t s:Int} {n:Nat} (hL:zI L=true) (h:n≤L.length):zsC L ⟨f,t,zr ⟨3,s,0,n,(tP L n).root,0,[],[]⟩⟩:=by
 intro h0
 have e:=zdF (zbD _).1 (fun d hd=>by cases hd) h0
 have e:(zj (zr ⟨3,s,0,n,(tP L n).root,0,[],[]⟩)).1=⟨3,s,0,n,(tP L n).root,0,[],[]⟩:=e
 show ((zj (zr ⟨3,s,0,n,(tP L n).root,0,[],[]⟩)).1.kind=3→_)∧((zj (zr ⟨3,s,0,n,(tP L n).root,0,[],[]⟩)).1.kind=5→_)
 rw [e]
 refine ⟨fun _=>⟨n,h,?_⟩,fun k=>absurd k (by show ¬(3:Int)=5;decide)⟩
 have:=qF hL h
 show (⟨n,(tP L n).root⟩:MPt)=tP L n
 rw [←this]
theorem zgo {L:List ByteArray} {f t:Int} {m n:Nat} (hm:m≤n) (h:n≤L.length):zsC L ⟨f,t,zr (znb m n (zQ (L.take n) m))⟩:=by
 intro h0
 have e:=zdF (m:=znb m n (zQ (L.take n) m)) yy (jp _ _) h0
 show ((zj (zr (znb m n (zQ (L.take n) m)))).1.kind=3→_)∧((zj (zr (znb m n (zQ (L.take n) m)))).1.kind=5→_)
 rw [e]
 exact ⟨fun k=>absurd k (by show ¬(5:Int)=3;decide),fun _=>⟨m,n,hm,h,rfl,rfl,rfl⟩⟩
theorem c5_c (code:List UInt8) (hl:code.length≤maxLen):CallR Tryz.prog 5 [.ro 1 (code.map zy)] (vB true) []:=by
 refine zl dcX9 true Tryz.f5 ?_
 conv=>enter [1];reduce
 refine jvR Tryz.f5 160 [.tmp 2] (by kernel_rfl) (by decide +kernel) rfl ?_
 simp -implicitDefEqProofs only [go_sem]
 refine zi (fun h=>?_) (fun h=>?_)
 ·simp -implicitDefEqProofs only [go_sem,h]
 ·simp -implicitDefEqProofs only [go_sem,h]
  obtain ⟨res,σ,⟨L,mm,⟨rfl,rfl⟩,hL3⟩,hcall⟩:=c20_c code hl
  refine WantM.intro hcall ?_
  have hLO:=zkR L (by unfold maxLen;omega)
  simp -implicitDefEqProofs only [go_sem]
  refine Want.intro hLO ?_
  cases hok:zI L with
  | false=>simp -implicitDefEqProofs only [go_sem]
  | true=>
   by_cases h40:(L.length:Int)>40
   ·simp -implicitDefEqProofs only [go_sem,h40]
   ·simp -implicitDefEqProofs only [go_sem,h40]
    have hL:L.length≤40:=by omega
    refine zq6 [3] [(15005,7)] (fun n s=>∃(i:Nat) (w:MWit),(i≤24∧n=24 - i)∧Hon L w∧s=⟨160,[(0,.ro 1 (code.map zy)),(3,.ro 1 (L.map zw)),(5,.ptr 5 0 [] 15 0 0),(6,vI i)],hoH w [],1⟩) 24 ?_ ?_
    ·simp -implicitDefEqProofs only [go_sem]
     exact ⟨0,⟨zdisk,[]⟩,⟨by omega,rfl⟩,zhp L,rfl⟩
    ·rintro n s ⟨i,w,⟨hi,rfl⟩,hw,rfl⟩
     rcases Nat.lt_or_ge i 24 with hlt | hge
     ·have h24:(i:Int)<24:=by omega
      have wi:IntKind.i64.wrap ((i:Int)+1)=((i+1:Nat):Int):=by rw [wrS (by omega)];omega
      have w31:IntKind.i64.wrap ((i:Int)+31)=((i+31:Nat):Int):=by rw [wrS (by omega)];omega
      have wL:IntKind.i64.wrap ((L.length:Int)+1)=((L.length+1:Nat):Int):=by rw [wrS (by omega)];omega
      obtain ⟨c,hc,hat1⟩:=at_c code i hl (by omega)
      obtain ⟨u,hu,hat2⟩:=at_c code (i+31) hl (by omega)
      have wc:IntKind.i64.wrap (c:Int)=c:=wrS (by omega)
      have wu:IntKind.i64.wrap (u:Int)=u:=wrS (by omega)
      have um:(u:Int).tmod ((L.length+1:Nat):Int)=((u%(L.length+1):Nat):Int):=by rw [Int.tmod_eq_emod_of_nonneg (by omega)];rfl
      have hn:u%(L.length+1)≤L.length:=by have:=Nat.mod_lt u (show 0<L.length+1 by omega);omega
      have nz:¬(((L.length+1:Nat):Int)=0):=by omega
      generalize u%(L.length+1)=n at *
      have c6:(c:Int).tmod 6=((c%6:Nat):Int):=by rw [Int.tmod_eq_emod_of_nonneg (by omega)];rfl
      have c2:(c:Int).tmod 2=((c%2:Nat):Int):=by rw [Int.tmod_eq_emod_of_nonneg (by omega)];rfl
      have c3:(c:Int).tmod 3=((c%3:Nat):Int):=by rw [Int.tmod_eq_emod_of_nonneg (by omega)];rfl
      have c5:(c:Int).tmod 5=((c%5:Nat):Int):=by rw [Int.tmod_eq_emod_of_nonneg (by omega)];rfl
      have w6:IntKind.i64.wrap (1+((c%6:Nat):Int))=((1+c%6:Nat):Int):=by rw [wrS (by omega)];omega
      have w3:IntKind.i64.wrap (1+((c%3:Nat):Int))=((1+c%3:Nat):Int):=by rw [wrS (by omega)];omega
      have hTP:=fun k=>zgY (L.take k) (by rw [List.length_take];unfold maxLen;omega)
      simp -implicitDefEqProofs only [go_sem,h24]
      refine Want.intro hat1 ?_
      simp -implicitDefEqProofs only [go_sem,wc,w31]
      refine Want.intro hat2 ?_
      simp -implicitDefEqProofs only [go_sem,wu,wL,nz,um,c6,w6]
      refine zR [0,3,5,6,9] [] (fun s=>∃(x:MLet),zsC L x∧s=⟨160,[(0,.ro 1 (code.map zy)),(3,.ro 1 (L.map zw)),(5,.ptr 5 0 [] 15 0 0),(6,vI i),(9,.ptr 9 0 [] 3 0 0)],hoH w [(9,0,one ⟨3,[x.cs],0,false⟩)],1⟩) ?_ ?_
      ·have hnI:(n:Int)≤(L.length:Int):=by omega
       by_cases e2:c%2=0
       ·have e2':(((c%2:Nat):Int)==0)=true:=by rw [e2];rfl
        have hT:=hTP n
        have hh:=zid (f:=(1+c%6:Nat)) (t:=0) (s:=((1+c%3:Nat):Int)) hok hn
        have hwb:=wbS ⟨3,((1+c%3:Nat):Int),0,n,(tP L n).root,0,[],[]⟩ rfl rfl (zbD _).1
        generalize zr ⟨3,((1+c%3:Nat):Int),0,n,(tP L n).root,0,[],[]⟩=B at *
        unfold tP at hwb
        generalize tPt (L.take n)=T at *
        simp -implicitDefEqProofs only [go_sem,c2,e2',hn,hnI,Nat.sub_zero]
        refine Want.intro hT ?_
        simp -implicitDefEqProofs only [go_sem,c3,w3]
        refine Want.intro hwb ?_
        simp -implicitDefEqProofs only [go_sem]
        exact ⟨⟨_,_,B⟩,hh,rfl⟩
       ·have e2':(((c%2:Nat):Int)==0)=false:=by rw [beq_eq_false_iff_ne];omega
        have hO:=zix w.disk hw.d
        have hbd:=wN w.disk
        obtain ⟨s0,hs0⟩:∃s0:Nat,(zx w.disk).size=s0:=⟨(zx w.disk).size.toNat,by omega⟩
        generalize zx w.disk=P at *
        simp -implicitDefEqProofs only [go_sem,c2,e2']
        refine Want.intro hO ?_
        simp -implicitDefEqProofs only [go_sem,hs0]
        refine zR [0,3,5,6,7,8,9,11] [] (fun s=>∃(m:Nat),m≤256∧s=⟨160,[(0,.ro 1 (code.map zy)),(3,.ro 1 (L.map zw)),(5,.ptr 5 0 [] 15 0 0),(6,vI i),(7,vI c),(8,vI n),(9,.ptr 9 0 [] 3 0 0),(11,vI m)],hoH w [(9,0,one ⟨3,[[vI ((1+c%6:Nat):Int),vI 0,vS ⟨#[]⟩]],0,false⟩)],1⟩) ?_ ?_
        ·have wn:IntKind.i64.wrap ((n:Int)+1)=((n+1:Nat):Int):=by rw [wrS (by omega)];omega
         have cm:(c:Int).tmod ((n+1:Nat):Int)=((c%(n+1):Nat):Int):=by rw [Int.tmod_eq_emod_of_nonneg (by omega)];rfl
         have nm:¬(((n+1:Nat):Int)=0):=by omega
         have cl:=Nat.mod_lt c (show 0<n+1 by omega)
         simp -implicitDefEqProofs only [go_sem,c5]
         refine zi (fun g=>?_) (fun g=>?_)
         ·simp -implicitDefEqProofs only [go_sem,g,wn,nm,cm]
          exact ⟨c%(n+1),by omega,rfl⟩
         ·simp -implicitDefEqProofs only [go_sem,g]
          exact ⟨s0,by omega,rfl⟩
        ·rintro s ⟨m,hm,rfl⟩
         refine zR [0,3,5,6,8,9,11] [] (fun s=>∃(n:Nat),n≤L.length∧s=⟨160,[(0,.ro 1 (code.map zy)),(3,.ro 1 (L.map zw)),(5,.ptr 5 0 [] 15 0 0),(6,vI i),(8,vI n),(9,.ptr 9 0 [] 3 0 0),(11,vI m)],hoH w [(9,0,one ⟨3,[[vI ((1+c%6:Nat):Int),vI 0,vS ⟨#[]⟩]],0,false⟩)],1⟩) ?_ ?_
         ·by_cases g0:(w.wishes.length:Int)>0
          ·have ci:(c:Int).tmod (w.wishes.length:Int)=((c%w.wishes.length:Nat):Int):=by rw [Int.tmod_eq_emod_of_nonneg (by omega)];rfl
           have nw:¬((w.wishes.length:Int)=0):=by omega
           have hi2:c%w.wishes.length<w.wishes.length:=Nat.mod_lt c (by omega)
           have hi1:((c%w.wishes.length:Nat):Int)<(w.wishes.length:Int):=by omega
           have hgi:w.wishes[c%w.wishes.length]?=some w.wishes[c%w.wishes.length]:=List.getElem?_eq_getElem hi2
           obtain ⟨q,hq,eq⟩:=hw.ws _ (List.getElem_mem hi2)
           have hqs:=qF hok hq
           rw [←eq] at hqs
           generalize w.wishes[c%w.wishes.length]=X at *
           generalize c%w.wishes.length=y at *
           simp -implicitDefEqProofs only [go_sem,g0,c3]
           refine zi (fun g=>?_) (fun g=>?_)
           ·simp -implicitDefEqProofs only [go_sem,g,ci,nw,hi1,hi2,hgi]
            refine ⟨q,hq,?_⟩
            rw [hqs]
           ·simp -implicitDefEqProofs only [go_sem,g]
            exact ⟨n,hn,rfl⟩
          ·simp -implicitDefEqProofs only [go_sem,g0]
           exact ⟨n,hn,rfl⟩
         ·clear hn hnI hat2 um
          clear n
          rintro s ⟨n,hn,rfl⟩
          refine zR [0,3,5,6,8,9,11] [] (fun s=>∃(m:Nat),m≤n∧s=⟨160,[(0,.ro 1 (code.map zy)),(3,.ro 1 (L.map zw)),(5,.ptr 5 0 [] 15 0 0),(6,vI i),(8,vI n),(9,.ptr 9 0 [] 3 0 0),(11,vI m)],hoH w [(9,0,one ⟨3,[[vI ((1+c%6:Nat):Int),vI 0,vS ⟨#[]⟩]],0,false⟩)],1⟩) ?_ ?_
          ·simp -implicitDefEqProofs only [go_sem]
           refine zi (fun g=>?_) (fun g=>?_)
           ·simp -implicitDefEqProofs only [go_sem,g]
            exact ⟨n,Nat.le_refl _,rfl⟩
           ·simp -implicitDefEqProofs only [go_sem,g]
            have:=of_decide_eq_false g
            exact ⟨m,by omega,rfl⟩
          ·clear hm
           clear m
           rintro s ⟨m,hm,rfl⟩
           have hnI:(n:Int)≤(L.length:Int):=by omega
           have hln:(L.take n).length≤256:=by rw [List.length_take];omega
           have hgo:=zrZ (L.take n) m (by unfold maxLen;omega)
           have hwb:=wbG m n (zQ (L.take n) m) (by have:=wO (L.take n) m hln;unfold maxLen;omega) (jp _ _)
           have hh:=zgo (f:=0) (t:=0) hm hn
           generalize zr (znb m n (zQ (L.take n) m))=B at *
           unfold zmj zif wz at hgo
           generalize zaB (L.take n) m=ok at *
           generalize zQ (L.take n) m=P at *
           simp -implicitDefEqProofs only [go_sem,hn,hnI,Nat.sub_zero]
           refine WantM.intro hgo ?_
           simp -implicitDefEqProofs only [go_sem]
           refine Want.intro hwb ?_
           simp -implicitDefEqProofs only [go_sem]
           exact ⟨⟨_,_,B⟩,hh,rfl⟩
      ·rintro s ⟨x,hx,rfl⟩
       have h17:=hw.l
       have h8x:w.wishes.length≤maxLen:=by unfold maxLen;omega
       have hwo:∀x∈w.wishes,x.pt.root.ok:=fun y hy=>by
        obtain ⟨q,-,eq⟩:=hw.ws y hy
        rw [eq]
        exact (zbD _).1
       have hI:=c8_c w 7 x hw.d h8x
       have hS:=c9_c w 7 x hw.d h8x hwo
       obtain ⟨k1,k2⟩:=zmf hok hw (me:=7) hx hwo
       obtain ⟨s1,hs1,es1⟩:=k2.h
       have hN:=ziw (ym w 7 x).disk k2.d
       have hz1:=qF hok hs1
       have hT:=hTP s1
       generalize ym w 7 x=T at *
       obtain ⟨d',ww,rr,kk,ll,aa⟩:=T
       simp only at k1 k2 es1 hN
       subst k1
       rw [es1] at hN
       unfold tP at hN hz1
       generalize tPt (L.take s1)=p at *
       have zN:¬(((0:Nat):Int)>0):=by decide
       have p0:¬((s1:Int)>(L.length:Int)):=by omega
       have p1:0≤(s1:Int)∧(s1:Int)≤(L.length:Int):=by omega
       have pI:(s1:Int)≤(L.length:Int):=by omega
       simp -implicitDefEqProofs only [go_sem]
       refine WantM.intro hI ?_
       cases kk with
       | none=>
        simp -implicitDefEqProofs only [go_sem]
        refine WantM.intro hS ?_
        simp -implicitDefEqProofs only [go_sem,zN,bne_self_eq_false]
        refine Want.intro hN ?_
        simp -implicitDefEqProofs only [go_sem,p0,hz1,pI,hs1,Nat.sub_zero]
        refine Want.intro hT ?_
        simp -implicitDefEqProofs only [go_sem,hz1,wi,beq_self_eq_true,bne_self_eq_false]
        first | done | exact ⟨_,by omega,i+1,⟨d',ww⟩,⟨hlt,rfl⟩,k2,rfl⟩ | trace_state
       | some k=>
        simp -implicitDefEqProofs only [go_sem]
        refine WantM.intro hS ?_
        simp -implicitDefEqProofs only [go_sem,zN,bne_self_eq_false]
        refine Want.intro hN ?_
        simp -implicitDefEqProofs only [go_sem,p0,hz1,pI,hs1,Nat.sub_zero]
        refine Want.intro hT ?_
        simp -implicitDefEqProofs only [go_sem,hz1,wi,beq_self_eq_true,bne_self_eq_false]
        first | done | exact ⟨_,by omega,i+1,⟨d',ww⟩,⟨hlt,rfl⟩,k2,rfl⟩ | trace_state
     ·have hi24:i=24:=by omega
      subst hi24
      have n0:¬(((24:Nat):Int)<24):=by decide
      simp -implicitDefEqProofs only [go_sem,n0]
end Go.Proofs.YtpjpkmhaffmbmaaGreat.E
