/- Contracts: letters and clients that are ok; Records of disks, in plain data; Contracts: messages without lists, in bytes; letters -/
import Derived.Test.YtobpfkgabdeefaaGreatP9
import Derived.Test.YtobpfkgabdeefaaGreatP10
namespace Go.Proofs.YtobpfkgabdeefaaGreat.E
open Go Go.RowKit
set_option linter.unusedSimpArgs false
set_option linter.unusedVariables false
section
set_option maxHeartbeats 4000000
set_option maxRecDepth 10000
set_option linter.unusedSectionVars false
def Hm:bX:=⟨[],[9,10,11],[24,26,30,44,47,50,51,52,57,58,59,62,76,88,138,185,186,187,253,254,297,311],false⟩
structure bh where
 size:Int
 root:aW
def bh.zero:bh:=⟨0,⟨0,0,0,0⟩⟩
def bh.cs (p:bh):List AV:=[vI p.size,vU p.root.a,vU p.root.b,vU p.root.c,vU p.root.d]
structure aB where
 from_:Int
 jx:Int
 text:ByteArray
def aB.cs (l:aB):List AV:=[vI l.from_,vI l.jx,vS l.text]
structure bu where
 eK:Int
 many:Int
 bR:Int
 phase:Int
 goal:bh
 bt:List Int
 aP:bh
def dv (n:Int):List AV:=[vI n]
def bu.cs (c:bu) (a:AV):List AV:=[vI c.eK,vI c.many,vI c.bR,vI c.phase,vI c.goal.size,vU c.goal.root.a,vU c.goal.root.b,vU c.goal.root.c,vU c.goal.root.d,a,vI c.aP.size,vU c.aP.root.a,vU c.aP.root.b,vU c.aP.root.c,vU c.aP.root.d]
def bu.ro (c:bu):AV:=.agg (c.cs (.ro 1 (c.bt.map dv)))
attribute [go_sem] bh.cs aB.cs bu.cs bu.ro dv
def c8 (l:aB):Bool:=aT l.from_ 0 20&&(aT l.jx 0 20&&decide ((l.text.size:Int)≤600))
def ed (a b:bh):Bool:=a.size==b.size&&(((a.root.a:Int)==b.root.a)&&(((a.root.b:Int)==b.root.b)&&(((a.root.c:Int)==b.root.c)&&((a.root.d:Int)==b.root.d))))
def lA (p:bh):Bool:=aT p.size 1 256||ed p .zero
theorem vQ (l:aB):aR Tryz.prog 82 [.agg l.cs] (vB (c8 l)) []:=by
 refine aA Hm false Tryz.f82 ?_;conv=>enter[1];reduce
 refine bf Tryz.f82 17 [.tmp 2] (by kernel_rfl) (by decide +kernel) rfl ?_;simp -implicitDefEqProofs only[go_sem]
 repeat' first|(refine aq.intro (by first|exact e9 _ _ _) ?_;try simp -implicitDefEqProofs only[go_sem])|(refine aD.intro (by first|exact e9 _ _ _) ?_;try simp -implicitDefEqProofs only[go_sem])|(refine ew (fun h=>?_) (fun h=>?_)<;>try simp -implicitDefEqProofs only[go_sem,h])|(refine b8 (fun h=>?_) (fun h=>?_)<;>try simp -implicitDefEqProofs only[go_sem,h])
 all_goals simp_all[c8]
theorem vT (l:aB):aR Tryz.prog 209 [.agg l.cs] (vB (c8 l)) []:=by
 refine aA Hm false Tryz.f209 ?_;conv=>enter[1];reduce
 refine bf Tryz.f209 17 [.tmp 2] (by kernel_rfl) (by decide +kernel) rfl ?_;simp -implicitDefEqProofs only[go_sem]
 repeat' first|(refine aq.intro (by first|exact dG _ _ _) ?_;try simp -implicitDefEqProofs only[go_sem])|(refine aD.intro (by first|exact dG _ _ _) ?_;try simp -implicitDefEqProofs only[go_sem])|(refine ew (fun h=>?_) (fun h=>?_)<;>try simp -implicitDefEqProofs only[go_sem,h])|(refine b8 (fun h=>?_) (fun h=>?_)<;>try simp -implicitDefEqProofs only[go_sem,h])
 all_goals simp_all[c8]
theorem Hv (p:bh):aR Tryz.prog 84 [.agg p.cs] (vB (lA p)) []:=by
 refine aA Hm false Tryz.f84 ?_;conv=>enter[1];reduce
 refine bf Tryz.f84 11 [.tmp 2] (by kernel_rfl) (by decide +kernel) rfl ?_;simp -implicitDefEqProofs only[go_sem]
 repeat' first|(refine aq.intro (by first|exact e9 _ _ _) ?_;try simp -implicitDefEqProofs only[go_sem])|(refine aD.intro (by first|exact e9 _ _ _) ?_;try simp -implicitDefEqProofs only[go_sem])|(refine ew (fun h=>?_) (fun h=>?_)<;>try simp -implicitDefEqProofs only[go_sem,h])|(refine b8 (fun h=>?_) (fun h=>?_)<;>try simp -implicitDefEqProofs only[go_sem,h])
 all_goals simp_all[lA,ed,bh.zero]
 all_goals trace_state
def nq (many:Int) (l:List Int) (i:Nat):Bool:=aT (l.getD i 0) 1 many&&(i==0||decide (l.getD (i - 1) 0<l.getD i 0))
def pK (many:Int) (l:List Int):Bool:=(List.range l.length).all (nq many l)
def dC (c:bu):Bool:=
 aT c.many 1 7&&(aT c.eK 1 c.many&&(decide (c.many<2 * c.eK)&&(aT c.bR 0 1000000&&(lA c.aP&&(if c.phase=0∨c.phase=1 then ed c.goal .zero&&(c.bt.length==0&&decide (c.phase≤c.bR)) else decide (c.phase=2)&&(decide (1≤c.bR)&&(aT c.goal.size (c.aP.size+1) 256&&(decide ((c.bt.length:Int)<c.eK)&&pK c.many c.bt))))))))
theorem cf {a b c:Int}:aT a b c=true↔b≤a∧a≤c:=by simp[aT]
theorem FW {p:bh}(h:lA p=true):IntKind.i64.wrap (p.size+1)=p.size+1∧0≤p.size∧p.size≤256:=by
 have:0≤p.size∧p.size≤256:=by
  simp only[lA,Bool.or_eq_true,cf]at h;rcases h with h|h
  ·omega
  simp only[ed,bh.zero,Bool.and_eq_true,beq_iff_eq]at h;omega
 exact⟨aV (by omega),this⟩
theorem Fs {c:bu}(h:¬((aT c.many 1 7=true∧aT c.eK 1 c.many=true)∧lA c.aP=true)):dC c=false:=by
 cases h':dC c with
 | false=>rfl
 | true=>
  simp only[dC,Bool.and_eq_true]at h';exact absurd ⟨⟨h'.1,h'.2.1⟩,h'.2.2.2.2.1⟩ h
theorem AE {many:Int}{l:List Int}:pK many l=true↔∀i,i<l.length→nq many l i=true:=by simp[pK,List.all_eq_true]
theorem DV {many:Int}{l:List Int}(h:0<l.length):nq many l 0=aT l[0] 1 many:=by simp[nq,h]
theorem AF {many:Int}{l:List Int}{i:Nat}(h:i+1<l.length):nq many l (i+1)=(aT l[i+1] 1 many&&decide (l[i]<l[i+1])):=by simp[nq,h,show i<l.length by omega]
theorem AD {many:Int}{l:List Int}{i:Nat}(h:i<l.length) (hb:nq many l i=false):pK many l=false:=by
 cases h':pK many l with
 | false=>rfl
 | true=>rw[AE.1 h' i h]at hb;cases hb
theorem ok_two {c:bu}(h1:aT c.many 1 7=true) (h2:aT c.eK 1 c.many=true) (h3:c.many<2 * c.eK) (h4:aT c.bR 0 1000000=true) (h5:lA c.aP=true) (h6:c.phase=2):dC c=(decide (1≤c.bR)&&(aT c.goal.size (c.aP.size+1) 256&&(decide ((c.bt.length:Int)<c.eK)&&pK c.many c.bt))):=by
 simp[dC,h1,h2,h3,h4,h5,h6]
theorem yC (c:bu) (hl:c.bt.length≤maxLen):aR Tryz.prog 39 [c.ro] (vB (dC c)) []:=by
 refine aA Hm false Tryz.f39 ?_;conv=>enter[1];reduce
 refine bf Tryz.f39 120 [.tmp 2] (by kernel_rfl) (by decide +kernel) rfl ?_;by_cases hb:(aT c.many 1 7=true∧aT c.eK 1 c.many=true)
 ·obtain⟨h1,h2⟩:=hb;have k1:=cf.1 h1;have k2:=cf.1 h2;have w2:IntKind.i64.wrap (2 * c.eK)=2 * c.eK:=aV (by omega);by_cases hp:lA c.aP=true
  ·have wp:=(FW hp).1;simp -implicitDefEqProofs only[go_sem]
   repeat' first|(refine aq.intro (by first|exact e9 _ _ _|exact Hv c.aP) ?_;try simp -implicitDefEqProofs only[go_sem,h1,h2,hp,wp,w2,bU,aY,aZ])|(refine aD.intro (by first|exact e9 _ _ _|exact Hv c.aP) ?_;try simp -implicitDefEqProofs only[go_sem,h1,h2,hp,wp,w2,bU,aY,aZ])|(refine ew (fun h=>?_) (fun h=>?_)<;>try simp -implicitDefEqProofs only[go_sem,h1,h2,hp,wp,w2,bU,aY,aZ,h])|(refine b8 (fun h=>?_) (fun h=>?_)<;>try simp -implicitDefEqProofs only[go_sem,h1,h2,hp,wp,w2,bU,aY,aZ,h])
   all_goals try(show AV.sc _=_;simp_all[dC,ed,bh.zero];done)
   all_goals try(show AV.sc _=_;simp_all[dC,ed,bh.zero];omega)
   rename_i g1 g2 g3 g4 g5 g6 g7;have g8:=h;clear h;simp only[Bool.not_eq_false',decide_eq_false_iff_not,bne_eq_false_iff_eq]at g1 g2 g5 g6 g7 g8;have hE:=ok_two h1 h2 (by omega) g2 hp g5;rw[g7,decide_eq_true (show 1≤c.bR by omega),decide_eq_true (show(c.bt.length:Int)<c.eK by omega),Bool.true_and,Bool.true_and,Bool.true_and]at hE;rw[hE];clear hE g1 g2 g3 g4 g5 g6 g7 g8 w2 wp;refine cR (fun m s=>∃i:Nat,i≤c.bt.length∧m=c.bt.length - i∧(∀j,j<i→nq c.many c.bt j=true)∧s=⟨120,[(1,.ptr 1 0 [] 15 0 0),(3,vI i)],[(1,0,one ⟨15,[c.cs (.ro 1 (c.bt.map dv))],0,false⟩)],1⟩) c.bt.length ?_ ?_
   ·refine aw ?_;exact⟨0,aQ _,rfl,fun j hj=>absurd hj (Nat.not_lt_zero _),rfl⟩
   rintro m s ⟨i,hi,rfl,gh,rfl⟩;rcases bm i c.bt.length with ab|bH
   ·have ae:(i:Int)<(c.bt.length:Int):=by omega
    have hg:c.bt[i]?=some c.bt[i]:=bz ab;have hw:=df ab hl;have uU:nq c.many c.bt i=true→∀j,j<i+1→nq c.many c.bt j=true:=fun h j hj=>by
     rcases bm j i with iH|iH
     ·exact gh j iH
     rw[show j=i by omega];exact h
    cases i with
    | zero=>
     have e0:=DV (many:=c.many) ab;have z0:¬(((0:Nat):Int)>0):=by omega
     simp -implicitDefEqProofs only[go_sem,ae,hg]
     repeat' first|(refine aq.intro (by first|exact e9 _ _ _) ?_;try simp -implicitDefEqProofs only[go_sem,ae,hg,hw,z0,aZ,aY,bU])|(refine aD.intro (by first|exact e9 _ _ _) ?_;try simp -implicitDefEqProofs only[go_sem,ae,hg,hw,z0,aZ,aY,bU])|(refine ew (fun h=>?_) (fun h=>?_)<;>try simp -implicitDefEqProofs only[go_sem,ae,hg,hw,z0,aZ,aY,bU,h])|(refine b8 (fun h=>?_) (fun h=>?_)<;>try simp -implicitDefEqProofs only[go_sem,ae,hg,hw,z0,aZ,aY,bU,h])
     all_goals first
      | (rw[AD ab (by rw[e0];simp_all;try omega)];done)
      | exact⟨_,by omega,_,ab,rfl,uU (by rw[e0];simp_all;try omega),rfl⟩
      | trace_state
    | succ i=>
     have e0:=AF (many:=c.many) ab;have z0:((i+1:Nat):Int)>0:=by omega
     have iP:c.bt[i]?=some c.bt[i]:=bz (by omega);have w1:IntKind.i64.wrap (((i+1:Nat):Int) - 1)=(i:Int):=by unfold maxLen at hl;rw[aV (by omega)];omega
     have kv:(i:Int)<(c.bt.length:Int):=by omega
     simp -implicitDefEqProofs only[go_sem,ae,hg]
     repeat' first|(refine aq.intro (by first|exact e9 _ _ _) ?_;try simp -implicitDefEqProofs only[go_sem,ae,hg,iP,kv,hw,w1,z0,aZ,aY,bU])|(refine aD.intro (by first|exact e9 _ _ _) ?_;try simp -implicitDefEqProofs only[go_sem,ae,hg,iP,kv,hw,w1,z0,aZ,aY,bU])|(refine ew (fun h=>?_) (fun h=>?_)<;>try simp -implicitDefEqProofs only[go_sem,ae,hg,iP,kv,hw,w1,z0,aZ,aY,bU,h])|(refine b8 (fun h=>?_) (fun h=>?_)<;>try simp -implicitDefEqProofs only[go_sem,ae,hg,iP,kv,hw,w1,z0,aZ,aY,bU,h])
     all_goals first
      | (rw[AD ab (by rw[e0];simp_all;try omega)];done)
      | exact⟨_,by omega,_,ab,rfl,uU (by rw[e0];simp_all;try omega),rfl⟩
      | trace_state
   have hi:i=c.bt.length:=by omega
   subst hi;have ae:¬((c.bt.length:Int)<(c.bt.length:Int)):=by omega
   refine aC ae ?_;rw[AE.2 gh]
  rw[Fs (fun h=>hp h.2)];simp -implicitDefEqProofs only[go_sem]
  repeat' first|(refine aq.intro (by first|exact e9 _ _ _|exact Hv c.aP) ?_;try simp -implicitDefEqProofs only[go_sem,h1,h2,hp,w2,bU,aY,aZ])|(refine aD.intro (by first|exact e9 _ _ _|exact Hv c.aP) ?_;try simp -implicitDefEqProofs only[go_sem,h1,h2,hp,w2,bU,aY,aZ])|(refine ew (fun h=>?_) (fun h=>?_)<;>try simp -implicitDefEqProofs only[go_sem,h1,h2,hp,w2,bU,aY,aZ,h])|(refine b8 (fun h=>?_) (fun h=>?_)<;>try simp -implicitDefEqProofs only[go_sem,h1,h2,hp,w2,bU,aY,aZ,h])
  all_goals simp_all
 rw[Fs (fun h=>hb h.1)];simp -implicitDefEqProofs only[go_sem]
 repeat' first|(refine aq.intro (by first|exact e9 _ _ _) ?_;try simp -implicitDefEqProofs only[go_sem,aZ,aY])|(refine aD.intro (by first|exact e9 _ _ _) ?_;try simp -implicitDefEqProofs only[go_sem,aZ,aY])|(refine ew (fun h=>?_) (fun h=>?_)<;>try simp -implicitDefEqProofs only[go_sem,aZ,aY,h])|(refine b8 (fun h=>?_) (fun h=>?_)<;>try simp -implicitDefEqProofs only[go_sem,aZ,aY,h])
 all_goals simp_all
end
structure dM where
 sum:Nat
 seq:Nat
 size:Nat
 root:aW
def dM.cs (s:dM):List AV:=[vU s.sum,vU s.seq,vU s.size,vU s.root.a,vU s.root.b,vU s.root.c,vU s.root.d]
structure dM.ok (t:dM):Prop where
 s:t.sum<18446744073709551616
 q:t.seq<18446744073709551616
 z:t.size<18446744073709551616
 r:t.root.ok
structure cS where
 one:dM
 two:dM
def cS.cs (d:cS):List AV:=[vU d.one.sum,vU d.one.seq,vU d.one.size,vU d.one.root.a,vU d.one.root.b,vU d.one.root.c,vU d.one.root.d,vU d.two.sum,vU d.two.seq,vU d.two.size,vU d.two.root.a,vU d.two.root.b,vU d.two.root.c,vU d.two.root.d]
structure cS.ok (d:cS):Prop where
 a:d.one.ok
 b:d.two.ok
attribute [go_sem] dM.cs cS.cs
def eC (s:dM):Nat→List UInt8
 | 0=>[]
 | 1=>low s.seq 8
 | 2=>low s.seq 8++low s.size 8
 | 3=>low s.seq 8++low s.size 8++low s.root.a 8
 | 4=>low s.seq 8++low s.size 8++low s.root.a 8++low s.root.b 8
 | 5=>low s.seq 8++low s.size 8++low s.root.a 8++low s.root.b 8++low s.root.c 8
 | _=>low s.seq 8++low s.size 8++low s.root.a 8++low s.root.b 8++low s.root.c 8++low s.root.d 8
theorem I6 (s:dM) {i:Nat}(h:i≤6):(eC s i).length=8 * i:=by
 have hi:i=0∨i=1∨i=2∨i=3∨i=4∨i=5∨i=6:=by omega
 rcases hi with rfl|rfl|rfl|rfl|rfl|rfl|rfl<;>simp[eC,F2]
theorem Pg (s:dM):(fN s.seq 8++fN s.size 8++s.root.bytes)=⟨(eC s 6).toArray⟩:=by
 unfold aW.bytes eC;apply ByteArray.ext;apply Array.toList_inj.1;simp[ByteArray.data_append,Array.toList_append,Fx]
theorem JE (x:Int):lf .u64 x 1=((lf .u64 x 1).toNat:Int):=by
 unfold lf;have:0≤IntKind.u64.wrap ((BitVec.ofInt IntKind.u64.bits x||| BitVec.ofInt IntKind.u64.bits 1).toNat:Int):=by
  rw[wU];exact Int.emod_nonneg _ (by decide)
 omega
def kb (s:dM):Nat:=(lf .u64 ((fY (eC s 6)).a.toNat:Int) 1).toNat
theorem abm (s:dM):kb s<18446744073709551616:=by
 have h:lf .u64 ((fY (eC s 6)).a.toNat:Int) 1<18446744073709551616:=by
  unfold lf;rw[wU];exact Int.emod_lt_of_pos _ (by decide)
 unfold kb;omega
def fX (s:dM):Bool:=((s.sum:Int)==(kb s:Int))&&(decide ((s.seq:Int)≥1)&&(decide ((s.seq:Int)≤1000000000)&&(decide ((s.size:Int)≥1)&&decide ((s.size:Int)≤256))))
structure tf where
 seq:Int
 size:Int
 root:aW
def tf.cs (r:tf):List AV:=[vI r.seq,vI r.size,vU r.root.a,vU r.root.b,vU r.root.c,vU r.root.d]
attribute [go_sem] tf.cs
def dM.lS (s:dM):tf:=⟨s.seq,s.size,s.root⟩
def ea (d:cS):tf × Int:=
 match fX d.one,fX d.two with
 | true,true=>if d.two.seq>d.one.seq then(d.two.lS,2) else(d.one.lS,1)
 | true,false=>(d.one.lS,1)
 | false,true=>(d.two.lS,2)
 | false,false=>(⟨0,0,gr⟩,0)
def cH (d:cS):bh:=if (ea d).2=0 then⟨0,(fY []).c9⟩ else⟨(ea d).1.size,(ea d).1.root⟩
theorem ou {s:dM}(h:fX s=true):(1≤s.seq∧s.seq≤1000000000)∧(1≤s.size∧s.size≤256):=by
 simp only[fX,Bool.and_eq_true,decide_eq_true_eq]at h;omega
theorem FX (d:cS):0≤(cH d).size∧(cH d).size≤256:=by
 unfold cH;split
 ·exact⟨Int.le_refl _,by decide⟩
 rename_i h;unfold ea at h ⊢;cases h1:fX d.one<;>cases h2:fX d.two<;>simp only[h1,h2]at h ⊢
 ·exact absurd trivial h
 ·have:=ou h2;show(0:Int)≤(d.two.size:Int)∧(d.two.size:Int)≤256
  omega
 ·have:=ou h1;show(0:Int)≤(d.one.size:Int)∧(d.one.size:Int)≤256
  omega
 have:=ou h1;have:=ou h2;split
 ·show(0:Int)≤(d.two.size:Int)∧(d.two.size:Int)≤256
  omega
 show(0:Int)≤(d.one.size:Int)∧(d.one.size:Int)≤256
 omega
structure cL where
 slot:Int
 word:Int
 value:Nat
def cL.cs (r:cL):List AV:=[vI r.slot,vI r.word,vU r.value]
attribute [go_sem] cL.cs
def sa (s:dM) (w:Int) (v:Nat):dM:=
 if w=0 then {s with sum:=v} else if w=1 then {s with seq:=v} else if w=2 then {s with size:=v}
 else if w=3 then {s with root:={s.root with a:=v}} else if w=4 then {s with root:={s.root with b:=v}}
 else if w=5 then {s with root:={s.root with c:=v}} else if w=6 then {s with root:={s.root with d:=v}} else s
def my (d:cS) (r:cL):cS:=if r.slot=1 then {d with one:=sa d.one r.word r.value} else if r.slot=2 then {d with two:=sa d.two r.word r.value} else d
def ep (d:cS) (l:List cL):cS:=l.foldl my d
theorem Ru {s:dM}(h:s.ok) {w:Int}{v:Nat}(hv:v<18446744073709551616):(sa s w v).ok:=by
 obtain⟨h1,h2,h3,h4,h5,h6,h7⟩:=h;unfold sa
 repeat' split
 all_goals first
  | exact⟨hv,h2,h3,h4,h5,h6,h7⟩
  | exact⟨h1,hv,h3,h4,h5,h6,h7⟩
  | exact⟨h1,h2,hv,h4,h5,h6,h7⟩
  | exact⟨h1,h2,h3,hv,h5,h6,h7⟩
  | exact⟨h1,h2,h3,h4,hv,h6,h7⟩
  | exact⟨h1,h2,h3,h4,h5,hv,h7⟩
  | exact⟨h1,h2,h3,h4,h5,h6,hv⟩
  | exact⟨h1,h2,h3,h4,h5,h6,h7⟩
def jA (d:cS) (size:Int) (root:aW):List cL:=
 if aT size 1 256=true∧(ea d).1.seq≠1000000000 then
  (let to:Int:=if (ea d).2=1 then 2 else 1
   let s:dM:=⟨0,((ea d).1.seq+1).toNat,size.toNat,root⟩
   [⟨to,0,0⟩,⟨to,1,s.seq⟩,⟨to,2,s.size⟩,⟨to,3,root.a⟩,⟨to,4,root.b⟩,⟨to,5,root.c⟩,⟨to,6,root.d⟩,⟨to,0,kb s⟩])
 else []
theorem B4 (d:cS):0≤(ea d).1.seq∧(ea d).1.seq≤1000000000:=by
 unfold ea;cases h1:fX d.one<;>cases h2:fX d.two<;>simp only
 ·exact⟨by show(0:Int)≤0;omega,by show(0:Int)≤1000000000;omega⟩
 ·have:=ou h2;show(0:Int)≤(d.two.seq:Int)∧(d.two.seq:Int)≤1000000000
  omega
 ·have:=ou h1;show(0:Int)≤(d.one.seq:Int)∧(d.one.seq:Int)≤1000000000
  omega
 have:=ou h1;have:=ou h2;split
 ·show(0:Int)≤(d.two.seq:Int)∧(d.two.seq:Int)≤1000000000
  omega
 show(0:Int)≤(d.one.seq:Int)∧(d.one.seq:Int)≤1000000000
 omega
section
set_option maxHeartbeats 4000000
set_option maxRecDepth 10000
set_option linter.unusedSectionVars false
def aeW:bX:=⟨[],[9,10,11],[24,26,30,44,47,50,51,52,57,58,59,62,76,88,138,185,186,187,253,254,297,311],false⟩
theorem aR.arg {P:Program}{n:Nat}{args qF:List AV}{res:AV}{rf:List (List Nat × Row)}(h:aR P n args res rf) (hw:∀(rd:RD) (vs:List Value),PW rd (fun _ _ _=>none) qF vs→PW rd (fun _ _ _=>none) args vs):aR P n qF res rf:=
 ⟨h.1,fun w rd eg h1 h2=>h.2 w rd eg h1 (hw _ _ h2)⟩
def Wk (c c':AV):Prop:=c=c'∨(c'=.aG∧∃sz,c=.ro sz [])
theorem aL.wk {rd:RD}{φ:b9}{c c':AV}{v:Value}(h:Wk c c') (hv:aL rd φ c' v):aL rd φ c v:=by
 rcases h with rfl|⟨rfl,sz,rfl⟩
 ·exact hv
 cases hv;exact .ir _ _ _
inductive kC:List AV→List AV→Prop
 | nil:kC [] []
 | cons {c c':AV} {l l':List AV} (h:Wk c c') (t:kC l l'):kC (c::l) (c'::l')
theorem kC.len {l l':List AV}(h:kC l l'):l.length=l'.length:=by
 induction h with
 | nil=>rfl
 | cons _ _ ih=>simp[ih]
theorem kC.get {l l':List AV}(h:kC l l'):∀(j:Nat) (c:AV),l[j]?=some c→∃c',l'[j]?=some c'∧Wk c c':=by
 induction h with
 | nil=>intro j c hc;simp at hc
 | cons h t ih=>
  intro j c hc;cases j with
  | zero=>simp at hc;subst hc;exact⟨_,rfl,h⟩
  | succ j=>simpa using ih j c (by simpa using hc)
theorem kC.refl:∀l:List AV,kC l l
 | []=>.nil
 | c::l=>.cons (.inl rfl) (kC.refl l)
theorem aL.It {rd:RD}{φ:b9}{cs aO:List AV}{v:Value}(h:kC cs aO) (hv:aL rd φ (.agg aO) v):aL rd φ (.agg cs) v:=by
 cases hv with
 | agg _ arr f hs hg hv=>
  refine .agg cs arr f (by rw[hs,h.len]) (fun j c hc=>?_) (fun j c hc=>?_)
  ·obtain⟨c',h1,h2⟩:=h.get j c hc;exact hg j c' h1
  obtain⟨c',h1,h2⟩:=h.get j c hc;exact(hv j c' h1).wk h2
theorem P3 {rd:RD}{φ:b9}{cs aO:List AV}{vs:List Value}(h:kC cs aO) (hp:PW rd φ [.agg aO] vs):PW rd φ [.agg cs] vs:=by
 obtain⟨v,us,rfl,hr,hp⟩:=hp.kI;have:us=[]:=List.eq_nil_of_length_eq_zero hp.1.symm;subst this;exact PW.cons (hr.It h) PW.nil
def aM.Bv (m:aM):AV:=.agg [vI m.kind,vI m.bR,vI m.from_,vI m.size,vU m.root.a,vU m.root.b,vU m.root.c,vU m.root.d,vI m.count,.aG,.aG]
attribute [go_sem] aM.Bv
theorem PB {m:aM}(hp:m.proof=[]) (hl:m.az=[]):∀(rd:RD) (vs:List Value),PW rd (fun _ _ _=>none) [m.Bv] vs→PW rd (fun _ _ _=>none) [m.ro] vs:=by
 intro rd vs h;refine P3 ?_ h;rw[hp,hl];exact .cons (.inl rfl) (.cons (.inl rfl) (.cons (.inl rfl) (.cons (.inl rfl) (.cons (.inl rfl) (.cons (.inl rfl) (.cons (.inl rfl) (.cons (.inl rfl) (.cons (.inl rfl) (.cons (.inr ⟨rfl,_,rfl⟩) (.cons (.inr ⟨rfl,_,rfl⟩) .nil))))))))))
theorem yT (m:aM) (hp:m.proof=[]) (hl:m.az=[]) (hr:m.root.ok):aR Tryz.prog 234 [m.Bv] (vS (i6 m)) []:=
 (Vk m (by rw[hp];exact aQ _) (by rw[hl];exact aQ _) hr (by rw[hp];simp)).arg (PB hp hl)
theorem Xr (m:aM) (hp:m.proof=[]) (hl:m.az=[]):aR Tryz.prog 211 [m.Bv] (vS (i6 m)) []:=
 (Vs m (by rw[hl];exact aQ _)).arg (PB hp hl)
theorem Dz (f t:Int) (m:aM) (hp:m.proof=[]) (hl:m.az=[]):aR Tryz.prog 260 [vI f,vI t,m.Bv] (.agg (aB.mk f t (i6 m)).cs) []:=by
 refine aA aeW false Tryz.f260 ?_;conv=>enter[1];reduce
 refine bf Tryz.f260 12 [.cell 6 116] (by kernel_rfl) (by decide +kernel) rfl ?_;refine aw ?_;refine aq.intro (Xr m hp hl) ?_;exact dt
end
end Go.Proofs.YtobpfkgabdeefaaGreat.E
