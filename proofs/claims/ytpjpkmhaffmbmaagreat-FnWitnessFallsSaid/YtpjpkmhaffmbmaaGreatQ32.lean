/- Contracts: the mending of a disk; raw writes that are cut; The law of WitnessFalls -/
import Derived.Test.YtpjpkmhaffmbmaaGreatQ17
import Derived.Test.YtpjpkmhaffmbmaaGreatQ30
import Derived.Test.YtpjpkmhaffmbmaaGreatQ9
section
namespace Go.Proofs.YtpjpkmhaffmbmaaGreat.E
open Go Go.RowKit
set_option maxHeartbeats 4000000
set_option maxRecDepth 10000
set_option linter.unusedSimpArgs false
set_option linter.unusedVariables false
set_option linter.unusedSectionVars false
def dcXC:Dec:=⟨[(70,.cm [true])],[9,10,11],[22,30,37,38,39,40,49,56,76,80,87,141,143,159,237,250,259],false⟩
theorem zjB (l:List MRaw) (h:l.length≤100000):∀x,(l.map MRaw.cs++[x]).length≤maxLen∧(l.map MRaw.cs++[x]).length * 24≤140737488355328:=fun x=>zK (E:=MRaw.cs) (l:=l) (xs:=[x]) (b:=24) (n:=1000000) (by simp;omega) (by omega) (by omega)
def zbY (d:MDisk):Nat→List MRaw
 | 0=>[]
 | 1=>yJ 1 d.one
 | _=>qh d
theorem zr4 (d:MDisk) (h:d.ok):CallR Tryz.prog 18 [.agg d.cs] (.blk 0 0 [] 3 0 (qh d).length) [([],⟨3,(qh d).map MRaw.cs,2,false⟩)]:=by
 refine zl dcXC false Tryz.f18 ?_
 conv=>enter [1];reduce
 refine jvR Tryz.f18 43 [.tmp 2] (by kernel_rfl) (by decide +kernel) rfl ?_
 have hml:=zb9 d
 have hm1:=zbZ 1 d.one
 simp -implicitDefEqProofs only [go_sem]
 refine qv [(3,3)] (fun n s=>∃i,i≤2∧n=2 - i∧s=⟨43,[(3,.blk 3 0 [] 3 0 (zbY d i).length),(12,.blk 12 0 [] 7 0 2),(13,vI ((2:Nat):Int)),(14,vI i)],[(3,0,one ⟨3,(zbY d i).map MRaw.cs,2,false⟩),(12,0,one ⟨7,[d.one.cs,d.two.cs],2,false⟩)],1⟩) 2 ?_ ?_
 ·simp -implicitDefEqProofs only [go_sem]
  exact ⟨0,by omega,rfl,rfl⟩
 ·have x0:(0:Int)<((2:Nat):Int):=by decide
  have x1:(1:Int)<((2:Nat):Int):=by decide
  have x2:¬(((2:Nat):Int)<((2:Nat):Int)):=by decide
  have u0:IntKind.i64.wrap (0+1)=1:=wrS (by omega)
  have u1:IntKind.i64.wrap (1+1)=2:=wrS (by omega)
  have z0:((0:Nat):Int)=0:=rfl
  have z1:((1:Nat):Int)=1:=rfl
  have z2:((2:Nat):Int)=2:=rfl
  have z7:((7:Nat):Int)=7:=rfl
  have y7:¬(((7:Nat):Int)<((7:Nat):Int)):=by decide
  rintro n s ⟨i,hi,rfl,rfl⟩
  have hi3:i=0∨i=1∨i=2:=by omega
  rcases hi3 with rfl | rfl | rfl
  ·have hS:=zmC d.one h.a
   have hW:=ziT d.one
   have e1:zbY d 1=[]++yJ 1 d.one:=by rw [List.nil_append];rfl
   have e0:zbY d 0=[]:=rfl
   have hA:([]:List MRaw).length≤7:=by simp
   rw [e0]
   generalize ([]:List MRaw)=A at *
   generalize d.one=S at *
   simp -implicitDefEqProofs only [go_sem,z0,z1,x0,u0]
   refine Want.intro hS ?_
   cases hs:zD S with
   | true=>
    simp -implicitDefEqProofs only [go_sem,z0,z1,u0]
    refine ⟨2 - 1,by omega,1,by omega,rfl,?_⟩
    have e2:yJ 1 S=[]:=by unfold yJ;rw [hs];rfl
    rw [e1,e2,List.append_nil]
    rfl
   | false=>
    have e2:yJ 1 S=qg 1 S.wl 7:=by unfold yJ;rw [hs];rfl
    rw [e2] at e1
    simp -implicitDefEqProofs only [go_sem,z0,z1,u0]
    refine WantM.intro hW ?_
    simp -implicitDefEqProofs only [go_sem,z0,z1,u0]
    refine zX (fun n s=>∃k,k≤7∧n=7 - k∧s=⟨43,[(3,.blk 3 0 [] 3 0 (A++qg 1 S.wl k).length),(4,vI 0),(12,.blk 12 0 [] 7 0 2),(13,vI ((2:Nat):Int)),(14,vI 0),(21,.blk 21 0 [] 1 0 7),(22,vI ((7:Nat):Int)),(23,vI k)],[(3,0,one ⟨3,(A++qg 1 S.wl k).map MRaw.cs,2,false⟩),(12,0,one ⟨7,[S.cs,d.two.cs],2,false⟩),(21,0,one ⟨1,zlU 7 10021 0,0,false⟩),(10021,0,one ⟨7,[S.cs],0,false⟩)],1⟩) 7 ?_ ?_
    ·simp -implicitDefEqProofs only [go_sem]
     refine ⟨0,by omega,rfl,?_⟩
     have g0:qg 1 S.wl 0=[]:=rfl
     rw [g0,List.append_nil]
     rfl
    ·rintro n s ⟨k,hk,rfl,rfl⟩
     have hgl:=zb2 1 S.wl k
     have hap:=zjB (A++qg 1 S.wl k) (by rw [List.length_append];omega)
     rcases Nat.lt_or_ge k 7 with hlt | hge
     ·have hsu:=zdh 1 S.wl k
      have hpc:([[.ptr 10021 0 [] 7 0 0],[.ptr 10021 0 [] 7 0 1],[.ptr 10021 0 [] 7 0 2],[.ptr 10021 0 [] 7 0 3],[.ptr 10021 0 [] 7 0 4],[.ptr 10021 0 [] 7 0 5],[.ptr 10021 0 [] 7 0 6]]:List (List AV))[k]?=some [.ptr 10021 0 [] 7 0 k]∧([vU S.sum,vU S.seq,vU S.size,vU S.root.a,vU S.root.b,vU S.root.c,vU S.root.d]:List AV)[k]?=some (vU (S.wl.getD k 0)):=by
       have hk7:k=0∨k=1∨k=2∨k=3∨k=4∨k=5∨k=6:=by omega
       rcases hk7 with rfl | rfl | rfl | rfl | rfl | rfl | rfl<;>exact ⟨rfl,rfl⟩
      have hlt':(k:Int)<((7:Nat):Int):=by omega
      have w1:IntKind.i64.wrap ((k:Int)+1)=((k+1:Nat):Int):=by rw [wrS (by omega)];omega
      generalize S.wl.getD k 0=v at *
      obtain ⟨hpc1,hpc2⟩:=hpc
      by_cases z:v=0
      ·have hb:((v:Int) != 0)=false:=by rw [z];rfl
       rw [if_pos z,List.append_nil] at hsu
       simp -implicitDefEqProofs only [go_sem,hlt',hpc1,hpc2,hb,w1]
       exact ⟨_,by omega,k+1,hlt,rfl,by first | (rw [hsu];done) | (rw [hsu];rfl)⟩
      ·have hb:((v:Int) != 0)=true:=by rw [bne_iff_ne];omega
       rw [if_neg z] at hsu
       simp -implicitDefEqProofs only [go_sem,hlt',hpc1,hpc2,hb,hap,w1,u0,u1]
       refine ⟨_,by omega,k+1,hlt,rfl,?_⟩
       rw [hsu,←List.append_assoc]
       simp only [List.length_append,List.length_map,List.map_append,List.length_cons,List.length_nil,List.map_cons,List.map_nil]
       rfl
     ·have hk7:k=7:=by omega
      subst hk7
      simp -implicitDefEqProofs only [go_sem,y7,u0]
      refine ⟨2 - 1,by omega,1,by omega,rfl,?_⟩
      rw [e1]
      rfl
  ·have hS:=zmC d.two h.b
   have hW:=ziT d.two
   have e1:zbY d 2=yJ 1 d.one++yJ 2 d.two:=by rfl
   have e0:zbY d 1=yJ 1 d.one:=rfl
   have hA:(yJ 1 d.one).length≤7:=by exact hm1
   rw [e0]
   generalize (yJ 1 d.one:List MRaw)=A at *
   generalize d.two=S at *
   simp -implicitDefEqProofs only [go_sem,z0,z1,x1,u1]
   refine Want.intro hS ?_
   cases hs:zD S with
   | true=>
    simp -implicitDefEqProofs only [go_sem,z0,z1,u1]
    refine ⟨2 - 2,by omega,2,by omega,rfl,?_⟩
    have e2:yJ 2 S=[]:=by unfold yJ;rw [hs];rfl
    rw [e1,e2,List.append_nil]
    rfl
   | false=>
    have e2:yJ 2 S=qg 2 S.wl 7:=by unfold yJ;rw [hs];rfl
    rw [e2] at e1
    simp -implicitDefEqProofs only [go_sem,z0,z1,u1]
    refine WantM.intro hW ?_
    simp -implicitDefEqProofs only [go_sem,z0,z1,u1]
    refine zX (fun n s=>∃k,k≤7∧n=7 - k∧s=⟨43,[(3,.blk 3 0 [] 3 0 (A++qg 2 S.wl k).length),(4,vI 1),(12,.blk 12 0 [] 7 0 2),(13,vI ((2:Nat):Int)),(14,vI 1),(21,.blk 21 0 [] 1 0 7),(22,vI ((7:Nat):Int)),(23,vI k)],[(3,0,one ⟨3,(A++qg 2 S.wl k).map MRaw.cs,2,false⟩),(12,0,one ⟨7,[d.one.cs,S.cs],2,false⟩),(21,0,one ⟨1,zlU 7 10021 0,0,false⟩),(10021,0,one ⟨7,[S.cs],0,false⟩)],1⟩) 7 ?_ ?_
    ·simp -implicitDefEqProofs only [go_sem]
     refine ⟨0,by omega,rfl,?_⟩
     have g0:qg 2 S.wl 0=[]:=rfl
     rw [g0,List.append_nil]
     rfl
    ·rintro n s ⟨k,hk,rfl,rfl⟩
     have hgl:=zb2 2 S.wl k
     have hap:=zjB (A++qg 2 S.wl k) (by rw [List.length_append];omega)
     rcases Nat.lt_or_ge k 7 with hlt | hge
     ·have hsu:=zdh 2 S.wl k
      have hpc:([[.ptr 10021 0 [] 7 0 0],[.ptr 10021 0 [] 7 0 1],[.ptr 10021 0 [] 7 0 2],[.ptr 10021 0 [] 7 0 3],[.ptr 10021 0 [] 7 0 4],[.ptr 10021 0 [] 7 0 5],[.ptr 10021 0 [] 7 0 6]]:List (List AV))[k]?=some [.ptr 10021 0 [] 7 0 k]∧([vU S.sum,vU S.seq,vU S.size,vU S.root.a,vU S.root.b,vU S.root.c,vU S.root.d]:List AV)[k]?=some (vU (S.wl.getD k 0)):=by
       have hk7:k=0∨k=1∨k=2∨k=3∨k=4∨k=5∨k=6:=by omega
       rcases hk7 with rfl | rfl | rfl | rfl | rfl | rfl | rfl<;>exact ⟨rfl,rfl⟩
      have hlt':(k:Int)<((7:Nat):Int):=by omega
      have w1:IntKind.i64.wrap ((k:Int)+1)=((k+1:Nat):Int):=by rw [wrS (by omega)];omega
      generalize S.wl.getD k 0=v at *
      obtain ⟨hpc1,hpc2⟩:=hpc
      by_cases z:v=0
      ·have hb:((v:Int) != 0)=false:=by rw [z];rfl
       rw [if_pos z,List.append_nil] at hsu
       simp -implicitDefEqProofs only [go_sem,hlt',hpc1,hpc2,hb,w1]
       exact ⟨_,by omega,k+1,hlt,rfl,by first | (rw [hsu];done) | (rw [hsu];rfl)⟩
      ·have hb:((v:Int) != 0)=true:=by rw [bne_iff_ne];omega
       rw [if_neg z] at hsu
       simp -implicitDefEqProofs only [go_sem,hlt',hpc1,hpc2,hb,hap,w1,u0,u1]
       refine ⟨_,by omega,k+1,hlt,rfl,?_⟩
       rw [hsu,←List.append_assoc]
       simp only [List.length_append,List.length_map,List.map_append,List.length_cons,List.length_nil,List.map_cons,List.map_nil]
       rfl
     ·have hk7:k=7:=by omega
      subst hk7
      simp -implicitDefEqProofs only [go_sem,y7,u1]
      refine ⟨2 - 2,by omega,2,by omega,rfl,?_⟩
      rw [e1]
      rfl
  ·have e2:zbY d 2=qh d:=rfl
   rw [e2]
   simp -implicitDefEqProofs only [go_sem,x2]
   refine Want.intro (zpa (qh d) (by omega)) ?_
   simp -implicitDefEqProofs only [go_sem]
   first | done | rfl | exact ⟨rfl,rfl⟩ | trace_state
theorem zmF (d:MDisk) (l:List MRaw) (cut:Int) (hl:l.length≤maxLen):CallR Tryz.prog 17 [.agg d.cs,.ro 3 (l.map MRaw.cs),vI cut] (.agg (zcc d l cut).cs) []:=by
 refine zl dcXC false Tryz.f17 ?_
 conv=>enter [1];reduce
 refine jvR Tryz.f17 16 [.cell 6 29] (by kernel_rfl) (by decide +kernel) rfl ?_
 unfold zcc
 have k1:0≤max 0 (min cut (l.length:Int))∧max 0 (min cut (l.length:Int))≤(l.length:Int):=by omega
 have k2:l.take (max 0 (min cut (l.length:Int))).toNat=l.take cut.toNat:=by
  by_cases h:cut≤(l.length:Int)
  ·rw [show (max 0 (min cut (l.length:Int))).toNat=cut.toNat by omega]
  ·rw [List.take_of_length_le (by omega),List.take_of_length_le (by omega)]
 have hDW:=zrU d (l.take cut.toNat) (by rw [List.length_take];omega)
 simp -implicitDefEqProofs only [go_sem,k1,Nat.sub_zero,k2]
 refine Want.intro hDW ?_
 simp -implicitDefEqProofs only [go_sem]
end Go.Proofs.YtpjpkmhaffmbmaaGreat.E
end
section
namespace Go.Proofs.YtpjpkmhaffmbmaaGreat.E
open Go Go.RowKit
set_option maxHeartbeats 4000000
set_option maxRecDepth 10000
set_option linter.unusedSimpArgs false
set_option linter.unusedVariables false
set_option linter.unusedSectionVars false
def dcX6:Dec:=⟨[(7,.cm [false]),(8,.cm [true,false,false]),(9,.cm [false,false,false])],[9,10,11],[22,30,37,38,39,40,49,56,76,80,87,141,143,159,237,250,259],false⟩
attribute [-go_sem] ju
@[go_sem] theorem zrA:ju Tryz.prog 42 1=some 37:=by kernel_rfl
def f6 (w:MWit) (T:MHeard) (p:MPt):Sig:=[(3,0,one ⟨15,[w.cs (.blk 10003 0 [] 7 0 w.wishes.length)],0,false⟩),(10003,0,one ⟨7,w.wishes.map MWish.cs,2,true⟩),(6,0,one ⟨19,[yi T.disk (.blk 10006 0 [] 7 0 T.wishes.length) (.blk 20006 0 [] 3 0 T.raws.length) (.blk 30006 0 [] 11 0 T.kept.toList.length) (.blk 40006 0 [] 3 0 T.letters.length) (.blk 50006 0 [] 13 0 T.alarms.length)],0,false⟩),(10006,0,one ⟨7,T.wishes.map MWish.cs,2,false⟩),(20006,0,one ⟨3,T.raws.map MRaw.cs,2,false⟩),(30006,0,one (zow T.kept)),(40006,0,one ⟨3,T.letters.map MLet.cs,2,false⟩),(50006,0,one ⟨13,T.alarms.map MAl.cs,2,false⟩)]++(zov T.kept++[(7,0,one ⟨5,[p.cs],0,false⟩)])
attribute [go_sem] f6
theorem c4_c (code:List UInt8) (hl:code.length≤maxLen):CallR Tryz.prog 4 [.ro 1 (code.map zy)] (vB true) []:=by
 refine zl dcX6 false Tryz.f4 ?_
 conv=>enter [1];reduce
 refine jvR Tryz.f4 101 [.tmp 2] (by kernel_rfl) (by decide +kernel) rfl ?_
 simp -implicitDefEqProofs only [go_sem]
 refine zi (fun h=>?_) (fun h=>?_)
 ·simp -implicitDefEqProofs only [go_sem,h]
 ·simp -implicitDefEqProofs only [go_sem,h]
  obtain ⟨res,σ,⟨w,me,x,⟨rfl,rfl⟩,hd,h8,hwo⟩,hcall⟩:=c7_c code hl
  refine WantM.intro hcall ?_
  have h8x:w.wishes.length≤maxLen:=by unfold maxLen;omega
  have hI:=c8_c w me x hd h8x
  have hS:=c9_c w me x hd h8x hwo
  have hm:=zaq (me:=me) (l:=x) hd hwo
  have hC:=zmH w hd h8x
  have hO:=zix w.disk hd
  generalize ym w me x=T at *
  obtain ⟨d',ww,rr,kk,ll,aa⟩:=T
  have hr8:rr.length≤8:=hm.r
  simp -implicitDefEqProofs only [go_sem]
  refine WantM.intro hI ?_
  cases kk with
  | none=>
   have hr0:rr=[]:=hm.n rfl
   subst hr0
   simp -implicitDefEqProofs only [go_sem]
   refine WantM.intro hS ?_
   simp -implicitDefEqProofs only [go_sem,bne_self_eq_false]
   refine Want.intro hC ?_
   cases a1:yr w with
   | false=>
    simp -implicitDefEqProofs only [go_sem]
    first | done | rfl | trace_state
   | true=>
    simp -implicitDefEqProofs only [go_sem]
    refine Want.intro hO ?_
    generalize hp:zx w.disk=p at *
    simp -implicitDefEqProofs only [go_sem]
    refine zX (fun n s=>∃i,i≤1∧n=1 - i∧s=⟨101,[(0,.ro 1 (code.map zy)),(3,.ptr 3 0 [] 15 0 0),(6,.ptr 6 0 [] 19 0 0),(7,.ptr 7 0 [] 5 0 0),(8,vI i)],f6 w ⟨d',ww,([]:List MRaw),none,ll,aa⟩ p,1⟩) 1 ?_ ?_
    ·simp -implicitDefEqProofs only [go_sem]
     exact ⟨0,Nat.zero_le _,rfl,rfl⟩
    ·rintro n s ⟨i,hi,rfl,rfl⟩
     have hrx:([]:List MRaw).length≤8:=hr8
     rcases Nat.lt_or_ge 0 i with hgt | hle
     ·have hgt':¬((i:Int)≤((0:Nat):Int)):=by omega
      simp -implicitDefEqProofs only [go_sem,hgt']
     ·have hle':(i:Int)≤((0:Nat):Int):=by omega
      obtain ⟨v,hv,hat⟩:=at_c code i hl (by omega)
      have c1:=zmF w.disk ([]:List MRaw) i (by unfold maxLen;omega)
      have o1:=zkL (cut:=(i:Int)) hd hm.v
      have f:=zdz hm i ((v:Int).tmod 9)
      simp only at f o1
      generalize zcc w.disk ([]:List MRaw) i=D at *
      have c2:=zr4 D o1
      have c3:=zmF D (qh D) ((v:Int).tmod 9) (by have:=zb9 D;unfold maxLen;omega)
      have o2:=zj0 (cut:=(v:Int).tmod 9) o1
      have c4:=ziw (zcc D (qh D) ((v:Int).tmod 9)) o2
      have wv:IntKind.i64.wrap (v:Int)=v:=wrS (by omega)
      have wi:IntKind.i64.wrap ((i:Int)+1)=((i+1:Nat):Int):=by rw [wrS (by omega)];omega
      generalize zcc D (qh D) ((v:Int).tmod 9)=E at *
      generalize qh D=M at *
      simp -implicitDefEqProofs only [go_sem,hle']
      refine Want.intro c1 ?_
      simp -implicitDefEqProofs only [go_sem]
      refine Want.intro c2 ?_
      simp -implicitDefEqProofs only [go_sem]
      refine Want.intro hat ?_
      simp -implicitDefEqProofs only [go_sem,wv]
      refine Want.intro c3 ?_
      simp -implicitDefEqProofs only [go_sem]
      refine Want.intro c4 ?_
      rcases Nat.lt_or_ge i 0 with hlt | hge
      ·have e:=f.1 hlt
       rw [hp] at e
       rw [e]
       have hlt':(i:Int)<((0:Nat):Int):=by omega
       have hne:((i:Int)==((0:Nat):Int))=false:=by rw [beq_eq_false_iff_ne];omega
       simp -implicitDefEqProofs only [go_sem,hlt',hne,wi,beq_self_eq_true,bne_self_eq_false]
       first | done | exact ⟨_,by omega,i+1,by omega,rfl,rfl⟩ | trace_state
      ·have e0:i=0:=by omega
       have i0:i=0:=e0
       subst i0
       have n0:¬(((0:Nat):Int)<((0:Nat):Int)):=by decide
       have n1:¬(((0:Nat):Int)>0):=by decide
       simp -implicitDefEqProofs only [go_sem,n0,n1,wi,beq_self_eq_true,bne_self_eq_false]
       first | done | exact ⟨_,by omega,1,by omega,rfl,rfl⟩ | trace_state
  | some k=>
   simp -implicitDefEqProofs only [go_sem]
   refine WantM.intro hS ?_
   simp -implicitDefEqProofs only [go_sem,bne_self_eq_false]
   refine Want.intro hC ?_
   cases a1:yr w with
   | false=>
    simp -implicitDefEqProofs only [go_sem]
    first | done | rfl | trace_state
   | true=>
    simp -implicitDefEqProofs only [go_sem]
    refine Want.intro hO ?_
    generalize hp:zx w.disk=p at *
    simp -implicitDefEqProofs only [go_sem]
    refine zX (fun n s=>∃i,i≤rr.length+1∧n=rr.length+1 - i∧s=⟨101,[(0,.ro 1 (code.map zy)),(3,.ptr 3 0 [] 15 0 0),(6,.ptr 6 0 [] 19 0 0),(7,.ptr 7 0 [] 5 0 0),(8,vI i)],f6 w ⟨d',ww,rr,some k,ll,aa⟩ p,1⟩) (rr.length+1) ?_ ?_
    ·simp -implicitDefEqProofs only [go_sem]
     exact ⟨0,Nat.zero_le _,rfl,rfl⟩
    ·rintro n s ⟨i,hi,rfl,rfl⟩
     have hrx:rr.length≤8:=hr8
     rcases Nat.lt_or_ge rr.length i with hgt | hle
     ·have hgt':¬((i:Int)≤(rr.length:Int)):=by omega
      simp -implicitDefEqProofs only [go_sem,hgt']
     ·have hle':(i:Int)≤(rr.length:Int):=by omega
      obtain ⟨v,hv,hat⟩:=at_c code i hl (by omega)
      have c1:=zmF w.disk rr i (by unfold maxLen;omega)
      have o1:=zkL (cut:=(i:Int)) hd hm.v
      have f:=zdz hm i ((v:Int).tmod 9)
      simp only at f o1
      generalize zcc w.disk rr i=D at *
      have c2:=zr4 D o1
      have c3:=zmF D (qh D) ((v:Int).tmod 9) (by have:=zb9 D;unfold maxLen;omega)
      have o2:=zj0 (cut:=(v:Int).tmod 9) o1
      have c4:=ziw (zcc D (qh D) ((v:Int).tmod 9)) o2
      have wv:IntKind.i64.wrap (v:Int)=v:=wrS (by omega)
      have wi:IntKind.i64.wrap ((i:Int)+1)=((i+1:Nat):Int):=by rw [wrS (by omega)];omega
      generalize zcc D (qh D) ((v:Int).tmod 9)=E at *
      generalize qh D=M at *
      simp -implicitDefEqProofs only [go_sem,hle']
      refine Want.intro c1 ?_
      simp -implicitDefEqProofs only [go_sem]
      refine Want.intro c2 ?_
      simp -implicitDefEqProofs only [go_sem]
      refine Want.intro hat ?_
      simp -implicitDefEqProofs only [go_sem,wv]
      refine Want.intro c3 ?_
      simp -implicitDefEqProofs only [go_sem]
      refine Want.intro c4 ?_
      rcases Nat.lt_or_ge i rr.length with hlt | hge
      ·have e:=f.1 hlt
       rw [hp] at e
       rw [e]
       have hlt':(i:Int)<(rr.length:Int):=by omega
       have hne:((i:Int)==(rr.length:Int))=false:=by rw [beq_eq_false_iff_ne];omega
       simp -implicitDefEqProofs only [go_sem,hlt',hne,wi,beq_self_eq_true,bne_self_eq_false]
       first | done | exact ⟨_,by omega,i+1,by omega,rfl,rfl⟩ | trace_state
      ·have e0:i=rr.length:=by omega
       have e:=f.2 e0 k rfl
       rw [e]
       have n0:¬((i:Int)<(rr.length:Int)):=by omega
       have n1:(rr.length:Int)>0:=by
        have:=List.length_pos_iff.2 (hm.s k rfl).2
        have:0<rr.length:=this
        omega
       have n2:((i:Int)==(rr.length:Int))=true:=by rw [e0];exact beq_self_eq_true _
       have zO:((1:Nat):Int)=1:=rfl
       have z3:(0:Int)<1:=by decide
       simp -implicitDefEqProofs only [go_sem,n0,n1,n2,wi,zO,z3,beq_self_eq_true,bne_self_eq_false]
       first | done | exact ⟨_,by omega,i+1,by omega,rfl,rfl⟩ | trace_state
end Go.Proofs.YtpjpkmhaffmbmaaGreat.E
end
