/- Contracts: letters and clients that are ok; Records of disks, in plain data; Contracts: messages without lists, in bytes; letters -/
import Derived.Test.YtobpfkgabdeefaaGreatQ10
namespace Go.Proofs.YtobpfkgabdeefaaGreat.E
open Go Go.RowKit
set_option linter.unusedSimpArgs false
set_option linter.unusedVariables false
section
set_option maxHeartbeats 4000000
set_option maxRecDepth 10000
set_option linter.unusedSectionVars false
def Hq:cc:=⟨[],cw,cz,false⟩
structure cg where
 size:Int
 root:aX
def cg.zero:cg:=⟨0,⟨0,0,0,0⟩⟩
def cg.cs (p:cg):List AV:=[vI p.size,vU p.root.a,vU p.root.b,vU p.root.c,vU p.root.d]
structure aC where
 from_:Int
 iB:Int
 text:ByteArray
def aC.cs (l:aC):List AV:=[vI l.from_,vI l.iB,vS l.text]
structure bw where
 eH:Int
 many:Int
 bU:Int
 phase:Int
 goal:cg
 bj:List Int
 aP:cg
def dz (n:Int):List AV:=[vI n]
def bw.cs (c:bw) (a:AV):List AV:=[vI c.eH,vI c.many,vI c.bU,vI c.phase,vI c.goal.size,vU c.goal.root.a,vU c.goal.root.b,vU c.goal.root.c,vU c.goal.root.d,a,vI c.aP.size,vU c.aP.root.a,vU c.aP.root.b,vU c.aP.root.c,vU c.aP.root.d]
def bw.ro (c:bw):AV:=.agg (c.cs (.ro 1 (c.bj.map dz)))
attribute [go_sem] cg.cs aC.cs bw.cs bw.ro dz
def df (l:aC):Bool:=aS l.from_ 0 20&&(aS l.iB 0 20&&decide ((l.text.size:Int)<=600))
def eu (a b:cg):Bool:=a.size==b.size&&(((a.root.a:Int)==b.root.a)&&(((a.root.b:Int)==b.root.b)&&(((a.root.c:Int)==b.root.c)&&((a.root.d:Int)==b.root.d))))
def lL (p:cg):Bool:=aS p.size 1 256||eu p .zero
theorem wc (l:aC):ba Tryz.prog 82 [.agg l.cs] (vB (df l)) []:=by
 refine aF Hq false Tryz.f82 ?_;conv=>enter[1];reduce
 refine bu Tryz.f82 17 [.tmp 2] (by kernel_rfl) (by decide +kernel) rfl ?_;simp -implicitDefEqProofs only[go_sem]
 repeat' first|(refine aq.intro (by first|exact fG _ _ _) ?_;try simp -implicitDefEqProofs only[go_sem])|(refine aE.intro (by first|exact fG _ _ _) ?_;try simp -implicitDefEqProofs only[go_sem])|(refine fv (fun h=>?_) (fun h=>?_)<;>try simp -implicitDefEqProofs only[go_sem,h])|(refine bX (fun h=>?_) (fun h=>?_)<;>try simp -implicitDefEqProofs only[go_sem,h])
 all_goals simp_all[df]
theorem wh (l:aC):ba Tryz.prog 209 [.agg l.cs] (vB (df l)) []:=by
 refine aF Hq false Tryz.f209 ?_;conv=>enter[1];reduce
 refine bu Tryz.f209 17 [.tmp 2] (by kernel_rfl) (by decide +kernel) rfl ?_;simp -implicitDefEqProofs only[go_sem]
 repeat' first|(refine aq.intro (by first|exact dQ _ _ _) ?_;try simp -implicitDefEqProofs only[go_sem])|(refine aE.intro (by first|exact dQ _ _ _) ?_;try simp -implicitDefEqProofs only[go_sem])|(refine fv (fun h=>?_) (fun h=>?_)<;>try simp -implicitDefEqProofs only[go_sem,h])|(refine bX (fun h=>?_) (fun h=>?_)<;>try simp -implicitDefEqProofs only[go_sem,h])
 all_goals simp_all[df]
theorem Hy (p:cg):ba Tryz.prog 84 [.agg p.cs] (vB (lL p)) []:=by
 refine aF Hq false Tryz.f84 ?_;conv=>enter[1];reduce
 refine bu Tryz.f84 11 [.tmp 2] (by kernel_rfl) (by decide +kernel) rfl ?_;simp -implicitDefEqProofs only[go_sem]
 repeat' first|(refine aq.intro (by first|exact fG _ _ _) ?_;try simp -implicitDefEqProofs only[go_sem])|(refine aE.intro (by first|exact fG _ _ _) ?_;try simp -implicitDefEqProofs only[go_sem])|(refine fv (fun h=>?_) (fun h=>?_)<;>try simp -implicitDefEqProofs only[go_sem,h])|(refine bX (fun h=>?_) (fun h=>?_)<;>try simp -implicitDefEqProofs only[go_sem,h])
 all_goals simp_all[lL,eu,cg.zero]
def nQ (many:Int) (l:List Int) (i:Nat):Bool:=aS (l.getD i 0) 1 many&&(i==0||decide (l.getD (i - 1) 0<l.getD i 0))
def qa (many:Int) (l:List Int):Bool:=(List.range l.length).all (nQ many l)
def dG (c:bw):Bool:=
 aS c.many 1 7&&(aS c.eH 1 c.many&&(decide (c.many<2 * c.eH)&&(aS c.bU 0 1000000&&(lL c.aP&&(if c.phase=0\/c.phase=1 then eu c.goal .zero&&(c.bj.length==0&&decide (c.phase<=c.bU)) else decide (c.phase=2)&&(decide (1<=c.bU)&&(aS c.goal.size (c.aP.size+1) 256&&(decide ((c.bj.length:Int)<c.eH)&&qa c.many c.bj))))))))
theorem cr {a b c:Int}:aS a b c=true<->b<=a/\a<=c:=by simp[aS]
theorem FV {p:cg}(h:lL p=true):IntKind.i64.wrap (p.size+1)=p.size+1/\0<=p.size/\p.size<=256:=by
 have:0<=p.size/\p.size<=256:=by
  simp only[lL,Bool.or_eq_true,cr]at h;rcases h with h|h
  ·omega
  simp only[eu,cg.zero,Bool.and_eq_true,beq_iff_eq]at h;omega
 exact⟨aN (by omega),this⟩
theorem Ft {c:bw}(h:¬((aS c.many 1 7=true/\aS c.eH 1 c.many=true)/\lL c.aP=true)):dG c=false:=by
 cases h':dG c with
 | false=>rfl
 | true=>
  simp only[dG,Bool.and_eq_true]at h';exact absurd ⟨⟨h'.1,h'.2.1⟩,h'.2.2.2.2.1⟩ h
theorem Ay {many:Int}{l:List Int}:qa many l=true<->∀i,i<l.length->nQ many l i=true:=by simp[qa,List.all_eq_true]
theorem DQ {many:Int}{l:List Int}(h:0<l.length):nQ many l 0=aS l[0] 1 many:=by simp[nQ,h]
theorem Az {many:Int}{l:List Int}{i:Nat}(h:i+1<l.length):nQ many l (i+1)=(aS l[i+1] 1 many&&decide (l[i]<l[i+1])):=by simp[nQ,h,show i<l.length by omega]
theorem Ax {many:Int}{l:List Int}{i:Nat}(h:i<l.length) (hb:nQ many l i=false):qa many l=false:=by
 cases h':qa many l with
 | false=>rfl
 | true=>rw[Ay.1 h' i h]at hb;cases hb
theorem ok_two {c:bw}(h1:aS c.many 1 7=true) (h2:aS c.eH 1 c.many=true) (h3:c.many<2 * c.eH) (h4:aS c.bU 0 1000000=true) (h5:lL c.aP=true) (h6:c.phase=2):dG c=(decide (1<=c.bU)&&(aS c.goal.size (c.aP.size+1) 256&&(decide ((c.bj.length:Int)<c.eH)&&qa c.many c.bj))):=by
 simp[dG,h1,h2,h3,h4,h5,h6]
theorem we (c:bw) (hl:c.bj.length<=maxLen):ba Tryz.prog 39 [c.ro] (vB (dG c)) []:=by
 refine aF Hq false Tryz.f39 ?_;conv=>enter[1];reduce
 refine bu Tryz.f39 120 [.tmp 2] (by kernel_rfl) (by decide +kernel) rfl ?_;by_cases hb:(aS c.many 1 7=true/\aS c.eH 1 c.many=true)
 ·obtain⟨h1,h2⟩:=hb;have k1:=cr.1 h1;have k2:=cr.1 h2;have w2:IntKind.i64.wrap (2 * c.eH)=2 * c.eH:=aN (by omega);by_cases hp:lL c.aP=true
  ·have wp:=(FV hp).1;simp -implicitDefEqProofs only[go_sem]
   repeat' first|(refine aq.intro (by first|exact fG _ _ _|exact Hy c.aP) ?_;try simp -implicitDefEqProofs only[go_sem,h1,h2,hp,wp,w2,bW,aV,aT])|(refine aE.intro (by first|exact fG _ _ _|exact Hy c.aP) ?_;try simp -implicitDefEqProofs only[go_sem,h1,h2,hp,wp,w2,bW,aV,aT])|(refine fv (fun h=>?_) (fun h=>?_)<;>try simp -implicitDefEqProofs only[go_sem,h1,h2,hp,wp,w2,bW,aV,aT,h])|(refine bX (fun h=>?_) (fun h=>?_)<;>try simp -implicitDefEqProofs only[go_sem,h1,h2,hp,wp,w2,bW,aV,aT,h])
   all_goals try(show AV.sc _=_;simp_all[dG,eu,cg.zero];done)
   all_goals try(show AV.sc _=_;simp_all[dG,eu,cg.zero];omega)
   rename_i g1 g2 g3 g4 g5 g6 g7;have g8:=h;clear h;simp only[Bool.not_eq_false',decide_eq_false_iff_not,bne_eq_false_iff_eq]at g1 g2 g5 g6 g7 g8;have hE:=ok_two h1 h2 (by omega) g2 hp g5;rw[g7,decide_eq_true (show 1<=c.bU by omega),decide_eq_true (show(c.bj.length:Int)<c.eH by omega),Bool.true_and,Bool.true_and,Bool.true_and]at hE;rw[hE];clear hE g1 g2 g3 g4 g5 g6 g7 g8 w2 wp;refine dq (fun m s=>∃i:Nat,i<=c.bj.length/\m=c.bj.length - i/\(∀j,j<i->nQ c.many c.bj j=true)/\s=⟨120,[(1,.ptr 1 0 [] 15 0 0),(3,vI i)],[(1,0,one ⟨15,[c.cs (.ro 1 (c.bj.map dz))],0,false⟩)],1⟩) c.bj.length ?_ ?_
   ·refine au ?_;exact⟨0,aR _,rfl,fun j hj=>absurd hj (Nat.not_lt_zero _),rfl⟩
   rintro m s ⟨i,hi,rfl,gE,rfl⟩;rcases bp i c.bj.length with ab|bM
   ·have ah:(i:Int)<(c.bj.length:Int):=by omega
    have hg:c.bj[i]?=some c.bj[i]:=bm ab;have hw:=dx ab hl;have u5:nQ c.many c.bj i=true->∀j,j<i+1->nQ c.many c.bj j=true:=fun h j hj=>by
     rcases bp j i with iV|iV
     ·exact gE j iV
     rw[show j=i by omega];exact h
    cases i with
    | zero=>
     have e0:=DQ (many:=c.many) ab;have z0:¬(((0:Nat):Int)>0):=by omega
     simp -implicitDefEqProofs only[go_sem,ah,hg]
     repeat' first|(refine aq.intro (by first|exact fG _ _ _) ?_;try simp -implicitDefEqProofs only[go_sem,ah,hg,hw,z0,aT,aV,bW])|(refine aE.intro (by first|exact fG _ _ _) ?_;try simp -implicitDefEqProofs only[go_sem,ah,hg,hw,z0,aT,aV,bW])|(refine fv (fun h=>?_) (fun h=>?_)<;>try simp -implicitDefEqProofs only[go_sem,ah,hg,hw,z0,aT,aV,bW,h])|(refine bX (fun h=>?_) (fun h=>?_)<;>try simp -implicitDefEqProofs only[go_sem,ah,hg,hw,z0,aT,aV,bW,h])
     all_goals first
      | (rw[Ax ab (by rw[e0];simp_all;try omega)];done)
      | exact⟨_,by omega,_,ab,rfl,u5 (by rw[e0];simp_all;try omega),rfl⟩
    | succ i=>
     have e0:=Az (many:=c.many) ab;have z0:((i+1:Nat):Int)>0:=by omega
     have jb:c.bj[i]?=some c.bj[i]:=bm (by omega);have w1:IntKind.i64.wrap (((i+1:Nat):Int) - 1)=(i:Int):=by unfold maxLen at hl;rw[aN (by omega)];omega
     have kH:(i:Int)<(c.bj.length:Int):=by omega
     simp -implicitDefEqProofs only[go_sem,ah,hg]
     repeat' first|(refine aq.intro (by first|exact fG _ _ _) ?_;try simp -implicitDefEqProofs only[go_sem,ah,hg,jb,kH,hw,w1,z0,aT,aV,bW])|(refine aE.intro (by first|exact fG _ _ _) ?_;try simp -implicitDefEqProofs only[go_sem,ah,hg,jb,kH,hw,w1,z0,aT,aV,bW])|(refine fv (fun h=>?_) (fun h=>?_)<;>try simp -implicitDefEqProofs only[go_sem,ah,hg,jb,kH,hw,w1,z0,aT,aV,bW,h])|(refine bX (fun h=>?_) (fun h=>?_)<;>try simp -implicitDefEqProofs only[go_sem,ah,hg,jb,kH,hw,w1,z0,aT,aV,bW,h])
     all_goals first
      | (rw[Ax ab (by rw[e0];simp_all;try omega)];done)
      | exact⟨_,by omega,_,ab,rfl,u5 (by rw[e0];simp_all;try omega),rfl⟩
   have hi:i=c.bj.length:=by omega
   subst hi;have ah:¬((c.bj.length:Int)<(c.bj.length:Int)):=by omega
   refine aA ah ?_;rw[Ay.2 gE]
  rw[Ft (fun h=>hp h.2)];simp -implicitDefEqProofs only[go_sem]
  repeat' first|(refine aq.intro (by first|exact fG _ _ _|exact Hy c.aP) ?_;try simp -implicitDefEqProofs only[go_sem,h1,h2,hp,w2,bW,aV,aT])|(refine aE.intro (by first|exact fG _ _ _|exact Hy c.aP) ?_;try simp -implicitDefEqProofs only[go_sem,h1,h2,hp,w2,bW,aV,aT])|(refine fv (fun h=>?_) (fun h=>?_)<;>try simp -implicitDefEqProofs only[go_sem,h1,h2,hp,w2,bW,aV,aT,h])|(refine bX (fun h=>?_) (fun h=>?_)<;>try simp -implicitDefEqProofs only[go_sem,h1,h2,hp,w2,bW,aV,aT,h])
  all_goals simp_all
 rw[Ft (fun h=>hb h.1)];simp -implicitDefEqProofs only[go_sem]
 repeat' first|(refine aq.intro (by first|exact fG _ _ _) ?_;try simp -implicitDefEqProofs only[go_sem,aT,aV])|(refine aE.intro (by first|exact fG _ _ _) ?_;try simp -implicitDefEqProofs only[go_sem,aT,aV])|(refine fv (fun h=>?_) (fun h=>?_)<;>try simp -implicitDefEqProofs only[go_sem,aT,aV,h])|(refine bX (fun h=>?_) (fun h=>?_)<;>try simp -implicitDefEqProofs only[go_sem,aT,aV,h])
 all_goals simp_all
end
structure dT where
 sum:Nat
 seq:Nat
 size:Nat
 root:aX
def dT.cs (s:dT):List AV:=[vU s.sum,vU s.seq,vU s.size,vU s.root.a,vU s.root.b,vU s.root.c,vU s.root.d]
structure dT.ok (t:dT):Prop where
 s:t.sum<18446744073709551616
 q:t.seq<18446744073709551616
 z:t.size<18446744073709551616
 r:t.root.ok
structure cX where
 one:dT
 two:dT
def cX.cs (d:cX):List AV:=[vU d.one.sum,vU d.one.seq,vU d.one.size,vU d.one.root.a,vU d.one.root.b,vU d.one.root.c,vU d.one.root.d,vU d.two.sum,vU d.two.seq,vU d.two.size,vU d.two.root.a,vU d.two.root.b,vU d.two.root.c,vU d.two.root.d]
structure cX.ok (d:cX):Prop where
 a:d.one.ok
 b:d.two.ok
attribute [go_sem] dT.cs cX.cs
def eN (s:dT):Nat->List UInt8
 | 0=>[]
 | 1=>low s.seq 8
 | 2=>low s.seq 8++low s.size 8
 | 3=>low s.seq 8++low s.size 8++low s.root.a 8
 | 4=>low s.seq 8++low s.size 8++low s.root.a 8++low s.root.b 8
 | 5=>low s.seq 8++low s.size 8++low s.root.a 8++low s.root.b 8++low s.root.c 8
 | _=>low s.seq 8++low s.size 8++low s.root.a 8++low s.root.b 8++low s.root.c 8++low s.root.d 8
theorem I0 (s:dT) {i:Nat}(h:i<=6):(eN s i).length=8 * i:=by
 have hi:i=0\/i=1\/i=2\/i=3\/i=4\/i=5\/i=6:=by omega
 rcases hi with rfl|rfl|rfl|rfl|rfl|rfl|rfl<;>simp[eN,F2]
theorem O8 (s:dT):(fW s.seq 8++fW s.size 8++s.root.bytes)=⟨(eN s 6).toArray⟩:=by
 unfold aX.bytes eN;apply ByteArray.ext;apply Array.toList_inj.1;simp[ByteArray.data_append,Array.toList_append,Fy]
theorem Jz (x:Int):kZ .u64 x 1=((kZ .u64 x 1).toNat:Int):=by
 unfold kZ;have:0<=IntKind.u64.wrap ((BitVec.ofInt IntKind.u64.bits x||| BitVec.ofInt IntKind.u64.bits 1).toNat:Int):=by
  rw[wU];exact Int.emod_nonneg _ (by decide)
 omega
def kD (s:dT):Nat:=(kZ .u64 ((gu (eN s 6)).a.toNat:Int) 1).toNat
theorem abD (s:dT):kD s<18446744073709551616:=by
 have h:kZ .u64 ((gu (eN s 6)).a.toNat:Int) 1<18446744073709551616:=by
  unfold kZ;rw[wU];exact Int.emod_lt_of_pos _ (by decide)
 unfold kD;omega
def gr (s:dT):Bool:=((s.sum:Int)==(kD s:Int))&&(decide ((s.seq:Int)>=1)&&(decide ((s.seq:Int)<=1000000000)&&(decide ((s.size:Int)>=1)&&decide ((s.size:Int)<=256))))
structure tz where
 seq:Int
 size:Int
 root:aX
def tz.cs (r:tz):List AV:=[vI r.seq,vI r.size,vU r.root.a,vU r.root.b,vU r.root.c,vU r.root.d]
attribute [go_sem] tz.cs
def dT.l6 (s:dT):tz:=⟨s.seq,s.size,s.root⟩
def ej (d:cX):tz × Int:=
 match gr d.one,gr d.two with
 | true,true=>if d.two.seq>d.one.seq then(d.two.l6,2) else(d.one.l6,1)
 | true,false=>(d.one.l6,1)
 | false,true=>(d.two.l6,2)
 | false,false=>(⟨0,0,gh⟩,0)
def cO (d:cX):cg:=if (ej d).2=0 then⟨0,(gu []).dg⟩ else⟨(ej d).1.size,(ej d).1.root⟩
theorem oS {s:dT}(h:gr s=true):(1<=s.seq/\s.seq<=1000000000)/\(1<=s.size/\s.size<=256):=by
 simp only[gr,Bool.and_eq_true,decide_eq_true_eq]at h;omega
theorem FW (d:cX):0<=(cO d).size/\(cO d).size<=256:=by
 unfold cO;split
 ·exact⟨Int.le_refl _,by decide⟩
 rename_i h;unfold ej at h ⊢;cases h1:gr d.one<;>cases h2:gr d.two<;>simp only[h1,h2]at h ⊢
 ·exact absurd trivial h
 ·have:=oS h2;show(0:Int)<=(d.two.size:Int)/\(d.two.size:Int)<=256
  omega
 ·have:=oS h1;show(0:Int)<=(d.one.size:Int)/\(d.one.size:Int)<=256
  omega
 have:=oS h1;have:=oS h2;split
 ·show(0:Int)<=(d.two.size:Int)/\(d.two.size:Int)<=256
  omega
 show(0:Int)<=(d.one.size:Int)/\(d.one.size:Int)<=256
 omega
structure cR where
 slot:Int
 word:Int
 value:Nat
def cR.cs (r:cR):List AV:=[vI r.slot,vI r.word,vU r.value]
attribute [go_sem] cR.cs
def sE (s:dT) (w:Int) (v:Nat):dT:=
 if w=0 then {s with sum:=v} else if w=1 then {s with seq:=v} else if w=2 then {s with size:=v}
 else if w=3 then {s with root:={s.root with a:=v}} else if w=4 then {s with root:={s.root with b:=v}}
 else if w=5 then {s with root:={s.root with c:=v}} else if w=6 then {s with root:={s.root with d:=v}} else s
def mO (d:cX) (r:cR):cX:=if r.slot=1 then {d with one:=sE d.one r.word r.value} else if r.slot=2 then {d with two:=sE d.two r.word r.value} else d
def eB (d:cX) (l:List cR):cX:=l.foldl mO d
theorem Rv {s:dT}(h:s.ok) {w:Int}{v:Nat}(hv:v<18446744073709551616):(sE s w v).ok:=by
 obtain⟨h1,h2,h3,h4,h5,h6,h7⟩:=h;unfold sE
 repeat' split
 all_goals first
  | exact⟨hv,h2,h3,h4,h5,h6,h7⟩
  | exact⟨h1,hv,h3,h4,h5,h6,h7⟩
  | exact⟨h1,h2,hv,h4,h5,h6,h7⟩
  | exact⟨h1,h2,h3,hv,h5,h6,h7⟩
  | exact⟨h1,h2,h3,h4,hv,h6,h7⟩
  | exact⟨h1,h2,h3,h4,h5,hv,h7⟩
  | exact⟨h1,h2,h3,h4,h5,h6,hv⟩
  | exact⟨h1,h2,h3,h4,h5,h6,h7⟩
def jQ (d:cX) (size:Int) (root:aX):List cR:=
 if aS size 1 256=true/\(ej d).1.seq≠1000000000 then
  (let to:Int:=if (ej d).2=1 then 2 else 1
   let s:dT:=⟨0,((ej d).1.seq+1).toNat,size.toNat,root⟩
   [⟨to,0,0⟩,⟨to,1,s.seq⟩,⟨to,2,s.size⟩,⟨to,3,root.a⟩,⟨to,4,root.b⟩,⟨to,5,root.c⟩,⟨to,6,root.d⟩,⟨to,0,kD s⟩])
 else []
theorem BX (d:cX):0<=(ej d).1.seq/\(ej d).1.seq<=1000000000:=by
 unfold ej;cases h1:gr d.one<;>cases h2:gr d.two<;>simp only
 ·exact⟨by show(0:Int)<=0;omega,by show(0:Int)<=1000000000;omega⟩
 ·have:=oS h2;show(0:Int)<=(d.two.seq:Int)/\(d.two.seq:Int)<=1000000000
  omega
 ·have:=oS h1;show(0:Int)<=(d.one.seq:Int)/\(d.one.seq:Int)<=1000000000
  omega
 have:=oS h1;have:=oS h2;split
 ·show(0:Int)<=(d.two.seq:Int)/\(d.two.seq:Int)<=1000000000
  omega
 show(0:Int)<=(d.one.seq:Int)/\(d.one.seq:Int)<=1000000000
 omega
section
set_option maxHeartbeats 4000000
set_option maxRecDepth 10000
set_option linter.unusedSectionVars false
def afd:cc:=⟨[],cw,cz,false⟩
theorem ba.arg {P:Program}{n:Nat}{args qT:List AV}{res:AV}{rf:List (List Nat × Row)}(h:ba P n args res rf) (hw:∀(rd:RD) (vs:List Value),PW rd (fun _ _ _=>none) qT vs->PW rd (fun _ _ _=>none) args vs):ba P n qT res rf:=
 ⟨h.1,fun w rd ew h1 h2=>h.2 w rd ew h1 (hw _ _ h2)⟩
def Wk (c c':AV):Prop:=c=c'\/(c'=.aG/\∃sz,c=.ro sz [])
theorem aL.wk {rd:RD}{φ:cj}{c c':AV}{v:Value}(h:Wk c c') (hv:aL rd φ c' v):aL rd φ c v:=by
 rcases h with rfl|⟨rfl,sz,rfl⟩
 ·exact hv
 cases hv;exact .iC _ _ _
inductive kP:List AV->List AV->Prop
 | nil:kP [] []
 | cons {c c':AV} {l l':List AV} (h:Wk c c') (t:kP l l'):kP (c::l) (c'::l')
theorem kP.len {l l':List AV}(h:kP l l'):l.length=l'.length:=by
 induction h with
 | nil=>rfl
 | cons _ _ ih=>simp[ih]
theorem kP.get {l l':List AV}(h:kP l l'):∀(j:Nat) (c:AV),l[j]?=some c->∃c',l'[j]?=some c'/\Wk c c':=by
 induction h with
 | nil=>intro j c hc;simp at hc
 | cons h t ih=>
  intro j c hc;cases j with
  | zero=>simp at hc;subst hc;exact⟨_,rfl,h⟩
  | succ j=>simpa using ih j c (by simpa using hc)
theorem kP.refl:∀l:List AV,kP l l
 | []=>.nil
 | c::l=>.cons (.inl rfl) (kP.refl l)
theorem aL.Iq {rd:RD}{φ:cj}{cs bH:List AV}{v:Value}(h:kP cs bH) (hv:aL rd φ (.agg bH) v):aL rd φ (.agg cs) v:=by
 cases hv with
 | agg _ arr f hs hg hv=>
  refine .agg cs arr f (by rw[hs,h.len]) (fun j c hc=>?_) (fun j c hc=>?_)
  ·obtain⟨c',h1,h2⟩:=h.get j c hc;exact hg j c' h1
  obtain⟨c',h1,h2⟩:=h.get j c hc;exact(hv j c' h1).wk h2
theorem Fe {rd:RD}{φ:cj}{cs bH:List AV}{vs:List Value}(h:kP cs bH) (hp:PW rd φ [.agg bH] vs):PW rd φ [.agg cs] vs:=by
 obtain⟨v,us,rfl,hr,hp⟩:=hp.kV;have:us=[]:=List.eq_nil_of_length_eq_zero hp.1.symm;subst this;exact PW.cons (hr.Iq h) PW.nil
def aJ.Bm (m:aJ):AV:=.agg [vI m.kind,vI m.bU,vI m.from_,vI m.size,vU m.root.a,vU m.root.b,vU m.root.c,vU m.root.d,vI m.count,.aG,.aG]
attribute [go_sem] aJ.Bm
theorem PG {m:aJ}(hp:m.proof=[]) (hl:m.az=[]):∀(rd:RD) (vs:List Value),PW rd (fun _ _ _=>none) [m.Bm] vs->PW rd (fun _ _ _=>none) [m.ro] vs:=by
 intro rd vs h;refine Fe ?_ h;rw[hp,hl];exact .cons (.inl rfl) (.cons (.inl rfl) (.cons (.inl rfl) (.cons (.inl rfl) (.cons (.inl rfl) (.cons (.inl rfl) (.cons (.inl rfl) (.cons (.inl rfl) (.cons (.inl rfl) (.cons (.inr ⟨rfl,_,rfl⟩) (.cons (.inr ⟨rfl,_,rfl⟩) .nil))))))))))
theorem wL (m:aJ) (hp:m.proof=[]) (hl:m.az=[]) (hr:m.root.ok):ba Tryz.prog 234 [m.Bm] (vS (gy m)) []:=
 (HF m (by rw[hp];exact aR _) (by rw[hl];exact aR _) hr (by rw[hp];simp)).arg (PG hp hl)
theorem XA (m:aJ) (hp:m.proof=[]) (hl:m.az=[]):ba Tryz.prog 211 [m.Bm] (vS (gy m)) []:=
 (Vs m (by rw[hl];exact aR _)).arg (PG hp hl)
theorem Dv (f t:Int) (m:aJ) (hp:m.proof=[]) (hl:m.az=[]):ba Tryz.prog 260 [vI f,vI t,m.Bm] (.agg (aC.mk f t (gy m)).cs) []:=by
 refine aF afd false Tryz.f260 ?_;conv=>enter[1];reduce
 refine bu Tryz.f260 12 [.cell 6 116] (by kernel_rfl) (by decide +kernel) rfl ?_;refine au ?_;refine aq.intro (XA m hp hl) ?_;exact dy
end
end Go.Proofs.YtobpfkgabdeefaaGreat.E
