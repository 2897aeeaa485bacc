/- Plain law: disks stay within their words; what a disk holds, wherever its raw writes and its mending are cut. -/
import Derived.Test.YtpjpkmhaffmbmaaGreatQ16
import Derived.Test.YtpjpkmhaffmbmaaGreatQ9
namespace Go.Proofs.YtpjpkmhaffmbmaaGreat.E
open Go Go.RowKit
set_option linter.unusedVariables false
set_option linter.unusedSimpArgs false
theorem zl8 {d:MDisk} (h:d.ok) {r:MRaw} (hr:r.value<18446744073709551616):(xl d r).ok:=by
 unfold xl
 split
 ·exact ⟨zj4 h.a hr,h.b⟩
 ·split
  ·exact ⟨h.a,zj4 h.b hr⟩
  ·exact h
theorem zb5:∀{l:List MRaw} {d:MDisk},d.ok→(∀r∈l,r.value<18446744073709551616)→(zF d l).ok
 | [],d,h,_=>h
 | r::l,d,h,hl=>zb5 (l:=l) (d:=xl d r) (zl8 h (hl r (List.mem_cons_self ..))) fun x hx=>hl x (List.mem_cons_of_mem _ hx)
theorem zlP {to:Int} {s:MSlot} {S:Nat} (h:s.ok) (hS:S<18446744073709551616):∀r∈qe to s S,r.value<18446744073709551616:=by
 obtain ⟨h1,h2,h3,h4,h5,h6,h7⟩:=h
 intro r hr
 simp only [qe,List.mem_cons,List.not_mem_nil,or_false] at hr
 rcases hr with rfl | rfl | rfl | rfl | rfl | rfl | rfl | rfl
 all_goals first | exact (by decide:(0:Nat)<18446744073709551616) | assumption
theorem ze3 {d:MDisk} {size:Int} {root:MDig} (hr:root.ok):∀r∈yT d size root,r.value<18446744073709551616:=by
 rw [xq]
 split
 ·rename_i h
  exact zlP (zjC hr h.1) (zj3 _)
 ·intro r hr;cases hr
theorem zko {d:MDisk} {size:Int} {root:MDig} (h:d.ok) (hr:root.ok):(zF d (yT d size root)).ok:=zb5 h (ze3 hr)
theorem wC:zdisk.ok:=by
 have hz:(⟨0,0,0,dig0⟩:MSlot).ok:=⟨by decide,by decide,by decide,yy⟩
 exact ⟨hz,hz⟩
def MSlot.wl (s:MSlot):List Nat:=[s.sum,s.seq,s.size,s.root.a,s.root.b,s.root.c,s.root.d]
def qg (at_:Int) (l:List Nat) (n:Nat):List MRaw:=((List.range n).filter fun k=>!(l.getD k 0==0)).map fun k:Nat=>(⟨at_,(k:Int),0⟩:MRaw)
theorem zdh (at_:Int) (l:List Nat) (n:Nat):qg at_ l (n+1)=qg at_ l n++(if l.getD n 0=0 then [] else [⟨at_,n,0⟩]):=by
 unfold qg
 rw [List.range_succ,List.filter_append,List.map_append]
 congr 1
 by_cases h:l.getD n 0=0
 ·rw [if_pos h,List.filter_cons,h];rfl
 ·rw [if_neg h,List.filter_cons,beq_false_of_ne h];rfl
theorem zb2 (at_:Int) (l:List Nat) (n:Nat):(qg at_ l n).length≤n:=by
 unfold qg
 rw [List.length_map]
 have h:=List.length_filter_le (fun k=>!(l.getD k 0==0)) (List.range n)
 rw [List.length_range] at h
 exact h
def yJ (at_:Int) (s:MSlot):List MRaw:=if zD s then [] else qg at_ s.wl 7
def qh (d:MDisk):List MRaw:=yJ 1 d.one++yJ 2 d.two
def zcc (d:MDisk) (l:List MRaw) (cut:Int):MDisk:=zF d (l.take cut.toNat)
theorem zbZ (at_:Int) (s:MSlot):(yJ at_ s).length≤7:=by
 unfold yJ
 split
 ·exact Nat.zero_le _
 ·exact zb2 _ _ _
theorem zb9 (d:MDisk):(qh d).length≤14:=by
 unfold qh
 rw [List.length_append]
 have:=zbZ 1 d.one
 have:=zbZ 2 d.two
 omega
theorem zb0 (at_:Int) (l:List Nat) (n:Nat):∀r∈qg at_ l n,r.slot=at_∧r.value=0:=by
 intro r hr
 obtain ⟨k,-,rfl⟩:=List.mem_map.1 hr
 exact ⟨rfl,rfl⟩
theorem wI (at_:Int) (s:MSlot):∀r∈yJ at_ s,r.slot=at_∧r.value=0:=by
 unfold yJ
 split
 ·intro r hr;cases hr
 ·exact zb0 _ _ _
theorem zj5 (d:MDisk):∀r∈qh d,r.value=0:=by
 intro r hr
 rcases List.mem_append.1 hr with h | h
 ·exact (wI _ _ r h).2
 ·exact (wI _ _ r h).2
theorem zh1 (x:Int):orI .u64 x 1≠0:=by
 unfold orI
 rw [wU]
 intro h
 have h1:((BitVec.ofInt IntKind.u64.bits x||| BitVec.ofInt IntKind.u64.bits 1).toNat:Int)%18446744073709551616=0:=h
 have h2:(BitVec.ofInt IntKind.u64.bits x||| BitVec.ofInt IntKind.u64.bits 1).toNat<18446744073709551616:=(BitVec.ofInt IntKind.u64.bits x||| BitVec.ofInt IntKind.u64.bits 1).isLt
 have h3:(BitVec.ofInt IntKind.u64.bits x||| BitVec.ofInt IntKind.u64.bits 1).toNat=0:=by omega
 rw [BitVec.toNat_or] at h3
 have h4:(BitVec.ofInt IntKind.u64.bits 1).toNat=1:=by decide
 rw [h4] at h3
 have h5:1≤(BitVec.ofInt IntKind.u64.bits x).toNat||| 1:=Nat.right_le_or
 omega
theorem zor (s:MSlot):zbc s≠0:=by
 unfold zbc
 have h:=zh1 ((zJ (yj s 6)).a.toNat:Int)
 have h2:=zf8 ((zJ (yj s 6)).a.toNat:Int)
 omega
theorem znX {s:MSlot} (h:s.sum=0):zD s=false:=by
 have:=zor s
 unfold zD
 rw [h]
 have:(((0:Nat):Int)==(zbc s:Int))=false:=by rw [beq_eq_false_iff_ne];omega
 rw [this]
 rfl
theorem zjD {s:MSlot} {w:Int} (h:s.sum=0):(zdk s w 0).sum=0:=by
 unfold zdk
 repeat' split
 all_goals first | rfl | exact h
def KeepS (s t:MSlot):Prop:=(zD s=true∧t=s)∨(zD s=false∧zD t=false)
theorem KeepS.refl (s:MSlot):KeepS s s:=by
 cases h:zD s with
 | true=>exact .inl ⟨h,rfl⟩
 | false=>exact .inr ⟨h,h⟩
theorem KeepS.read {d e:MDisk} (h1:KeepS d.one e.one) (h2:KeepS d.two e.two):zL e=zL d:=by
 unfold zL
 rcases h1 with ⟨a1,b1⟩ | ⟨a1,b1⟩<;>rcases h2 with ⟨a2,b2⟩ | ⟨a2,b2⟩
 ·rw [b1,b2]
 ·rw [b1,a1,a2,b2]
 ·rw [b2,a1,a2,b1]
 ·rw [a1,a2,b1,b2]
theorem qn:∀{l:List MRaw} {d:MDisk},(∀r∈l,r.value=0)→(d.one.sum=0→(zF d l).one.sum=0)∧(d.two.sum=0→(zF d l).two.sum=0)
 | [],d,_=>⟨id,id⟩
 | r::l,d,h=>by
  have hr:=h r (List.mem_cons_self ..)
  obtain ⟨i1,i2⟩:=qn (l:=l) (d:=xl d r) fun x hx=>h x (List.mem_cons_of_mem _ hx)
  have e:zF d (r::l)=zF (xl d r) l:=rfl
  rw [e]
  refine ⟨fun h0=>i1 ?_,fun h0=>i2 ?_⟩
  ·unfold xl
   rw [hr]
   split
   ·exact zjD h0
   ·split
    ·exact h0
    ·exact h0
  ·unfold xl
   rw [hr]
   split
   ·exact h0
   ·split
    ·exact zjD h0
    ·exact h0
theorem qa:∀{l:List MRaw} {d:MDisk},(∀r∈l,r.slot=1)→(zF d l).two=d.two
 | [],d,_=>rfl
 | r::l,d,h=>by
  have e:zF d (r::l)=zF (xl d r) l:=rfl
  rw [e,qa (l:=l) fun x hx=>h x (List.mem_cons_of_mem _ hx)]
  unfold xl
  rw [if_pos (h r (List.mem_cons_self ..))]
theorem xZ:∀{l:List MRaw} {d:MDisk},(∀r∈l,r.slot=2)→(zF d l).one=d.one
 | [],d,_=>rfl
 | r::l,d,h=>by
  have e:zF d (r::l)=zF (xl d r) l:=rfl
  rw [e,xZ (l:=l) fun x hx=>h x (List.mem_cons_of_mem _ hx)]
  unfold xl
  have h2:=h r (List.mem_cons_self ..)
  rw [if_neg (by rw [h2];decide),if_pos h2]
theorem ziO (d:MDisk) (a b:List MRaw):zF d (a++b)=zF (zF d a) b:=by unfold zF;exact List.foldl_append
theorem zb1 (at_:Int) (s:MSlot):(s.sum=0)∨∃l,qg at_ s.wl 7=⟨at_,0,0⟩::l:=by
 by_cases h:s.sum=0
 ·exact .inl h
 ·refine .inr ?_
  unfold qg
  have e:List.range 7=[0,1,2,3,4,5,6]:=rfl
  have h0:(s.wl.getD 0 0==0)=false:=beq_false_of_ne h
  rw [e,List.filter_cons,h0]
  exact ⟨_,rfl⟩
theorem qE {l:List MRaw} {P:MRaw→Prop} (h:∀r∈l,P r) (j:Nat):∀r∈l.take j,P r:=fun r hr=>h r (List.mem_of_mem_take hr)
theorem mend1 (d:MDisk) (j:Nat):KeepS d.one (zF d ((yJ 1 d.one).take j)).one∧(zF d ((yJ 1 d.one).take j)).two=d.two:=by
 refine ⟨?_,qa (qE (fun r hr=>(wI 1 d.one r hr).1) j)⟩
 cases h:zD d.one with
 | true=>
  have e:yJ 1 d.one=[]:=by unfold yJ;rw [h];rfl
  rw [e,List.take_nil]
  exact .inl ⟨h,rfl⟩
 | false=>
  refine .inr ⟨h,?_⟩
  have e:yJ 1 d.one=qg 1 d.one.wl 7:=by unfold yJ;rw [h];rfl
  have hv:=fun r hr=>(zb0 1 d.one.wl 7 r hr).2
  rw [e]
  rcases zb1 1 d.one with h0 | ⟨l,hl⟩
  ·exact znX ((qn (qE hv j)).1 h0)
  ·cases j with
   | zero=>exact h
   | succ j=>
    rw [hl] at hv ⊢
    rw [List.take_succ_cons]
    exact znX ((qn (d:=xl d ⟨1,0,0⟩) (qE (fun r hr=>hv r (List.mem_cons_of_mem _ hr)) j)).1 rfl)
theorem mend2 (d:MDisk) (j:Nat):KeepS d.two (zF d ((yJ 2 d.two).take j)).two∧(zF d ((yJ 2 d.two).take j)).one=d.one:=by
 refine ⟨?_,xZ (qE (fun r hr=>(wI 2 d.two r hr).1) j)⟩
 cases h:zD d.two with
 | true=>
  have e:yJ 2 d.two=[]:=by unfold yJ;rw [h];rfl
  rw [e,List.take_nil]
  exact .inl ⟨h,rfl⟩
 | false=>
  refine .inr ⟨h,?_⟩
  have e:yJ 2 d.two=qg 2 d.two.wl 7:=by unfold yJ;rw [h];rfl
  have hv:=fun r hr=>(zb0 2 d.two.wl 7 r hr).2
  rw [e]
  rcases zb1 2 d.two with h0 | ⟨l,hl⟩
  ·exact znX ((qn (qE hv j)).2 h0)
  ·cases j with
   | zero=>exact h
   | succ j=>
    rw [hl] at hv ⊢
    rw [List.take_succ_cons]
    exact znX ((qn (d:=xl d ⟨2,0,0⟩) (qE (fun r hr=>hv r (List.mem_cons_of_mem _ hr)) j)).2 rfl)
theorem zjZ (d:MDisk) (j:Int):zL (zcc d (qh d) j)=zL d:=by
 unfold zcc qh
 rw [List.take_append,ziO]
 obtain ⟨k1,e1⟩:=mend1 d j.toNat
 generalize zF d ((yJ 1 d.one).take j.toNat)=D at *
 obtain ⟨k2,e2⟩:=mend2 D (j.toNat - (yJ 1 d.one).length)
 rw [e1] at k2 e2
 exact KeepS.read (by rw [e2];exact k1) k2
theorem za2 {d e:MDisk} (h:zL e=zL d):zx e=zx d:=by unfold zx;rw [h]
theorem zjA {d:MDisk} {size:Int} {root:MDig} {cut:Nat} (h:cut<(yT d size root).length):zL (zcc d (yT d size root) cut)=zL d:=by
 have hz:(zL (zF d []))=zL d:=rfl
 unfold zcc
 rw [show ((cut:Int)).toNat=cut from rfl]
 rw [xq] at h ⊢
 split at h
 case isFalse=>cases h
 rename_i hc
 rw [if_pos hc]
 generalize zbc (zat d size root)=S at *
 generalize zat d size root=s at *
 have hc8:cut<8:=h
 have key:∀to:Int,∀j,1≤j→j<8→∃l,(qe to s S).take j=⟨to,0,0⟩::l∧∀r∈l,r.slot=to∧r.word≠0:=by
  intro to j h1 h2
  have hj:j=1∨j=2∨j=3∨j=4∨j=5∨j=6∨j=7:=by omega
  rcases hj with rfl | rfl | rfl | rfl | rfl | rfl | rfl
  ·exact ⟨[],rfl,fun r hr=>by cases hr⟩
  all_goals
   refine ⟨_,rfl,?_⟩
   intro r hr
   simp only [List.mem_cons,List.not_mem_nil,or_false,List.take,qe] at hr
   rcases hr with rfl | rfl | rfl | rfl | rfl | rfl<;>exact ⟨rfl,by simp⟩
 have stay:∀(l:List MRaw) (e:MDisk),(∀r∈l,r.word≠0)→(zF e l).one.sum=e.one.sum∧(zF e l).two.sum=e.two.sum:=by
  intro l
  induction l with
  | nil=>intro e _;exact ⟨rfl,rfl⟩
  | cons r l ih=>
   intro e hl
   have h1:=ih (xl e r) fun x hx=>hl x (List.mem_cons_of_mem _ hx)
   have hr:=hl r (List.mem_cons_self ..)
   have hp:∀t:MSlot,(zdk t r.word r.value).sum=t.sum:=by
    intro t
    unfold zdk
    rw [if_neg hr]
    repeat' split
    all_goals rfl
   have h2:(xl e r).one.sum=e.one.sum∧(xl e r).two.sum=e.two.sum:=by
    unfold xl
    split
    ·exact ⟨hp _,rfl⟩
    ·split
     ·exact ⟨rfl,hp _⟩
     ·exact ⟨rfl,rfl⟩
   exact ⟨h1.1.trans h2.1,h1.2.trans h2.2⟩
 rcases Nat.eq_zero_or_pos cut with rfl | hpos
 ·rfl
 ·obtain ⟨l,hl,hw⟩:=key (zdP d) cut hpos hc8
  rw [hl]
  unfold zdP at hl hw ⊢
  have e:∀x:MRaw,zF d (x::l)=zF (xl d x) l:=fun _=>rfl
  rw [e]
  have hst:=fun E=>stay l E fun r hr=>(hw r hr).2
  by_cases h1:(zL d).2=1
  ·rw [if_pos h1] at hw ⊢
   have k1:=xZ (d:=xl d ⟨2,0,0⟩) (fun r hr=>(hw r hr).1)
   have k2:=(hst (xl d ⟨2,0,0⟩)).2
   generalize zF (xl d ⟨2,0,0⟩) l=D at *
   have k1:D.one=d.one:=k1
   have k3:zD D.two=false:=znX k2
   have ho:zD d.one=true:=by
    unfold zL at h1
    cases q1:zD d.one<;>cases q2:zD d.two<;>simp only [q1,q2] at h1
    ·exact absurd h1 (by decide)
    ·exact absurd h1 (by simp)
    ·rfl
    ·rfl
   have r1:zL D=(d.one.rec_,1):=by unfold zL;rw [k1,ho,k3]
   rw [r1]
   unfold zL at h1 ⊢
   rw [ho] at h1 ⊢
   cases q2:zD d.two with
   | false=>rfl
   | true=>
    simp only [q2] at h1
    split at h1
    ·exact absurd h1 (by simp)
    ·rename_i q
     simp only
     rw [if_neg q]
  ·rw [if_neg h1] at hw ⊢
   have k1:=qa (d:=xl d ⟨1,0,0⟩) (fun r hr=>(hw r hr).1)
   have k2:=(hst (xl d ⟨1,0,0⟩)).1
   generalize zF (xl d ⟨1,0,0⟩) l=D at *
   have k1:D.two=d.two:=k1
   have k3:zD D.one=false:=znX k2
   unfold zL at h1 ⊢
   rw [k1,k3]
   cases q1:zD d.one<;>cases q2:zD d.two<;>simp only [q1,q2] at h1 ⊢
   ·exact absurd trivial h1
   ·split at h1
    ·rename_i q
     rw [if_pos q]
    ·exact absurd rfl h1
end Go.Proofs.YtpjpkmhaffmbmaaGreat.E
