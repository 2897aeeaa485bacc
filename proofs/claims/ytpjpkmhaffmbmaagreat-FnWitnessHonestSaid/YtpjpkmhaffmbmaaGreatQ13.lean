/- Contracts: leaves that are drawn; Contracts: the point of leaves, whatever they are; a reader behind three pointers -/
import Derived.Test.YtpjpkmhaffmbmaaGreatQ11
import Derived.Test.YtpjpkmhaffmbmaaGreatQ12
import Derived.Test.YtpjpkmhaffmbmaaGreatQ9
section
namespace Go.Proofs.YtpjpkmhaffmbmaaGreat.E
open Go Go.RowKit
set_option maxHeartbeats 4000000
set_option maxRecDepth 10000
set_option linter.unusedSimpArgs false
set_option linter.unusedVariables false
set_option linter.unusedSectionVars false
def zo2:Dec:=⟨[(39,.cm [true,false]),(90,.cm [true,false]),(91,.cm [true]),(96,.cm [true,false]),(149,.cm [true]),(164,.cm [false])],[9,10,11],[22,30,37,38,39,40,49,56,76,80,87,141,143,159,237,250,259],false⟩
def Dr.r2 (r:Dr):Sig:=[(1000000,0,one ⟨1,[[.ptr 1000001 0 [] 2 0 0]],0,false⟩),(1000001,0,one ⟨2,[r.cs],0,false⟩)]
abbrev vL:AV:=.ptr 1000000 0 [] 1 0 0
attribute [go_sem] Dr.r2
def znK (r:Dr) (res:AV) (σ:Sig):Prop:=∃(t:ByteArray) (r':Dr),(res=vS t∧σ=r'.r2)∧r'.ok (r.p+10)
theorem b109:(⟨#[109]⟩:ByteArray)=bA [109]:=rfl
theorem b108:(⟨#[108]⟩:ByteArray)=bA [108]:=rfl
theorem zsg (r:Dr) (h:r.ok 700000000):∃res σ,znK r res σ∧zW Tryz.prog 149 r.r2 [vL] res σ:=by
 refine zl zo2 false Tryz.f149 ?_
 conv=>enter [1];reduce
 refine jvX Tryz.f149 15 [.tmp 2] (znK r) (by kernel_rfl) (by decide +kernel) (by kernel_rfl) rfl ?_
 have hp:=h.2
 have hb:=h.1
 have ok:∀i,i≤1000→(r.adv i).ok 1000000000:=fun i hi=>(h.adv i).le (by omega)
 simp -implicitDefEqProofs only [go_sem]
 refine WantM.intro (yc 10 (ok 0 (by omega))) ?_
 simp -implicitDefEqProofs only [go_sem]
 refine zi (fun g=>?_) (fun g=>?_)
 ·simp -implicitDefEqProofs only [go_sem,g,b109]
  refine Want.intro (zkV [109] 40 (by omega) (by simp)) ?_
  simp -implicitDefEqProofs only [go_sem]
  refine RetAt.intro (vS (bA (rep [109] 40))) (r.adv 1).r2 ⟨bA (rep [109] 40),r.adv 1,⟨rfl,rfl⟩,hb,by show r.p+1≤_;omega⟩ ?_
  simp -implicitDefEqProofs only [go_sem]
 ·simp -implicitDefEqProofs only [go_sem,g]
  have ht:=zlC (r.adv 1) 5 (h.adv 1) (by omega) (by omega)
  have hts:=zlC (r.adv 1) 5 (a:=r.p+1) ⟨hb,Nat.le_refl _⟩ (by omega) (by omega)
  refine WantM.intro (zo5 (r.adv 1) 5 ((h.adv 1).le (by omega)) (by omega)) ?_
  simp -implicitDefEqProofs only [go_sem]
  refine RetAt.intro (vS (tx (r.adv 1) 5).1) (tx (r.adv 1) 5).2.r2 ⟨(tx (r.adv 1) 5).1,(tx (r.adv 1) 5).2,⟨rfl,rfl⟩,hts.1.le (by show r.p+1+1+5≤_;omega)⟩ ?_
  simp -implicitDefEqProofs only [go_sem]
def znJ (r:Dr) (n:Nat) (res:AV) (σ:Sig):Prop:=∃(l:List ByteArray) (r':Dr),(res=.blk 0 0 [] 1 0 l.length∧σ=r'.r2++[(0,0,one ⟨1,l.map zw,2,false⟩)])∧l.length=n∧r'.ok (r.p+10 * n)
theorem zrR (r:Dr) (n:Nat) (hn:n≤100) (h:r.ok 600000000):∃res σ,znJ r n res σ∧zW Tryz.prog 90 r.r2 [vL,vI n] res σ:=by
 refine zl zo2 false Tryz.f90 ?_
 conv=>enter [1];reduce
 refine jvX Tryz.f90 19 [.tmp 4] (znJ r n) (by kernel_rfl) (by decide +kernel) (by kernel_rfl) rfl ?_
 have hp:=h.2
 have hb:=h.1
 simp -implicitDefEqProofs only [go_sem]
 refine zX (fun m s=>∃(i:Nat) (l:List ByteArray) (R:Dr),i≤n∧l.length=i∧R.ok (r.p+10 * i)∧m=n - i∧s=⟨19,[(0,vL),(1,vI n),(5,.blk 5 0 [] 1 0 l.length),(6,vI i)],[(1000000,0,one ⟨1,[[.ptr 1000001 0 [] 2 0 0]],0,false⟩),(1000001,0,one ⟨2,[R.cs],0,false⟩),(5,0,one ⟨1,l.map zw,2,false⟩)],1⟩) n ?_ ?_
 ·simp -implicitDefEqProofs only [go_sem]
  exact ⟨0,[],r,Nat.zero_le _,rfl,⟨hb,Nat.le_refl _⟩,rfl,rfl⟩
 ·rintro m s ⟨i,l,R,hi,hl,hR,rfl,rfl⟩
  rcases Nat.lt_or_ge i n with hlt | hge
  ·have hlt':(i:Int)<(n:Int):=by omega
   have w4:IntKind.i64.wrap ((i:Int)+1)=((i+1:Nat):Int):=by rw [wrS (by omega)];omega
   have ha:∀x,_:=fun x=>zK (E:=zw) (l:=l) (xs:=[x]) (b:=16) (n:=1000) (by simp;omega) (by omega) (by omega)
   obtain ⟨res,σ,⟨t,r',⟨rfl,rfl⟩,hr'⟩,hcall⟩:=zsg R (hR.le (by omega))
   have hr2:=hr'.2
   have hR2:=hR.2
   simp -implicitDefEqProofs only [go_sem,hlt']
   refine WantM.intro hcall ?_
   simp -implicitDefEqProofs only [go_sem,ha,w4]
   exact ⟨_,by omega,i+1,l++[t],r',hlt,by simp [hl],⟨hr'.1,by omega⟩,rfl,by simp [zw]⟩
  ·have hi:i=n:=by omega
   have hlt':¬((i:Int)<(n:Int)):=by omega
   simp -implicitDefEqProofs only [go_sem,hlt']
   refine RetAt.intro (.blk 0 0 [] 1 0 l.length) (R.r2++[(0,0,one ⟨1,l.map zw,2,false⟩)]) ⟨l,R,⟨rfl,rfl⟩,by omega,hR.le (by omega)⟩ ?_
   simp -implicitDefEqProofs only [go_sem]
def szT (r:Dr):Int:=if pk r 9=0 then pk r.nx 70 else pk r.nx 20
theorem zrQ (r:Dr) (h:r.ok 700000000):(0≤szT r∧szT r<70)∧zW Tryz.prog 91 r.r2 [vL] (vI (szT r)) (r.adv 2).r2:=by
 have ok:∀i,i≤1000→(r.adv i).ok 1000000000:=fun i hi=>(h.adv i).le (by omega)
 have q70:0≤pk r.nx 70∧pk r.nx 70<70:=zM (ok 1 (by omega)) (by omega)
 have q20:0≤pk r.nx 20∧pk r.nx 20<20:=zM (ok 1 (by omega)) (by omega)
 refine ⟨by unfold szT;split<;>omega,?_⟩
 refine zl zo2 false Tryz.f91 ?_
 conv=>enter [1];reduce
 refine jvM Tryz.f91 19 [.tmp 2] (by kernel_rfl) (by decide +kernel) rfl ?_
 simp -implicitDefEqProofs only [go_sem]
 refine WantM.intro (yc 9 (ok 0 (by omega))) ?_
 simp -implicitDefEqProofs only [go_sem]
 refine zi (fun g=>?_) (fun g=>?_)
 ·have g':pk r 9=0:=by simpa using g
  simp -implicitDefEqProofs only [go_sem,g]
  refine WantM.intro (yc 70 (ok 1 (by omega))) ?_
  simp -implicitDefEqProofs only [go_sem,szT,g']
  rfl
 ·have g':¬pk r 9=0:=by simpa using g
  simp -implicitDefEqProofs only [go_sem,g]
  refine WantM.intro (yc 20 (ok 1 (by omega))) ?_
  simp -implicitDefEqProofs only [go_sem,szT,g']
  rfl
theorem zsi (n:Nat) (hn:n≤1000):CallR Tryz.prog 130 [vI n] (.blk 0 0 [] 1 0 (List.replicate n (⟨#[]⟩:ByteArray)).length) [([],⟨1,(List.replicate n (⟨#[]⟩:ByteArray)).map zw,2,false⟩)]:=by
 refine zl zo2 false Tryz.f130 ?_
 conv=>enter [1];reduce
 refine jvR Tryz.f130 15 [.tmp 2] (by kernel_rfl) (by decide +kernel) rfl ?_
 simp -implicitDefEqProofs only [go_sem]
 refine zX (fun m z=>∃i:Nat,i≤n∧m=n - i∧z=⟨15,[(0,vI n),(3,.blk 3 0 [] 1 0 (List.replicate i (⟨#[]⟩:ByteArray)).length),(4,vI i)],[(3,0,one ⟨1,(List.replicate i (⟨#[]⟩:ByteArray)).map zw,2,false⟩)],1⟩) n ?_ ?_
 ·simp -implicitDefEqProofs only [go_sem]
  exact ⟨0,Nat.zero_le _,rfl,rfl⟩
 ·rintro m z ⟨i,hi,rfl,rfl⟩
  have hs:List.replicate (i+1) (⟨#[]⟩:ByteArray)=List.replicate i ⟨#[]⟩++[⟨#[]⟩]:=List.replicate_succ'
  obtain ⟨X,hX0⟩:∃X,List.replicate i (⟨#[]⟩:ByteArray)=X:=⟨_,rfl⟩
  have hX:X.length=i:=by rw [←hX0];exact List.length_replicate
  rw [hX0] at hs ⊢
  rcases Nat.lt_or_ge i n with hlt | hge
  ·have hlt':(i:Int)<(n:Int):=by omega
   have w4:IntKind.i64.wrap ((i:Int)+1)=((i+1:Nat):Int):=by rw [wrS (by omega)];omega
   have ha:∀x,_:=fun x=>zK (E:=zw) (l:=X) (xs:=[x]) (b:=16) (n:=10000000) (by simp;omega) (by omega) (by omega)
   simp -implicitDefEqProofs only [go_sem,hlt',w4,ha]
   exact ⟨_,by omega,i+1,hlt,rfl,by rw [hs];simp [zw]⟩
  ·have hi:i=n:=by omega
   have hlt':¬((i:Int)<(n:Int)):=by omega
   subst hi
   simp -implicitDefEqProofs only [go_sem,hlt']
   rw [hX0]
   exact ⟨rfl,rfl⟩
theorem zsj (l:List UInt8) (hl:l.length≤maxLen):zW Tryz.prog 129 [] [.ro 1 (l.map zy)] (.ptr 0 0 [] 1 0 0) [(0,0,one ⟨1,[[.ptr 1 0 [] 2 0 0]],0,false⟩),(1,0,one ⟨2,[(Dr.mk (l.take 2000) 0).cs],0,false⟩)]:=by
 refine zl zo2 false Tryz.f129 ?_
 conv=>enter [1];reduce
 refine jvM Tryz.f129 7 [.tmp 2] (by kernel_rfl) (by decide +kernel) rfl ?_
 simp -implicitDefEqProofs only [go_sem]
 refine WantM.intro (zr9 l hl) ?_
 simp -implicitDefEqProofs only [go_sem]
def znI (res:AV) (σ:Sig) (r:Dr):Prop:=∃(l:List ByteArray) (r':Dr),(res=.blk 0 0 [] 1 0 l.length∧σ=r'.r2++[(0,0,one ⟨1,l.map zw,2,false⟩)])∧l.length≤300∧r'.ok (r.p+1000)
theorem c73_c (r:Dr) (h:r.ok 500000000):∃res σ,znI res σ r∧zW Tryz.prog 73 r.r2 [vL] res σ:=by
 refine zl zo2 true Tryz.f73 ?_
 conv=>enter [1];reduce
 refine jvX Tryz.f73 30 [.tmp 2] (fun res σ=>znI res σ r) (by kernel_rfl) (by decide +kernel) (by kernel_rfl) rfl ?_
 have hp:=h.2
 have hb:=h.1
 have ok:∀i,i≤1000→(r.adv i).ok 1000000000:=fun i hi=>(h.adv i).le (by omega)
 simp -implicitDefEqProofs only [go_sem]
 refine WantM.intro (yc 24 (ok 0 (by omega))) ?_
 generalize pk r 24=k
 simp -implicitDefEqProofs only [go_sem]
 refine zi (fun g=>?_) (fun g=>?_)
 ·simp -implicitDefEqProofs only [go_sem,g]
  have q2:=zM (ok 1 (by omega)) (n:=2) (by omega)
  obtain ⟨v,hv⟩:∃v:Nat,pk (r.adv 1) 2=v:=⟨(pk (r.adv 1) 2).toNat,by omega⟩
  have w1:IntKind.i64.wrap (256+(v:Int))=((256+v:Nat):Int):=by rw [wrS (by omega)];omega
  refine WantM.intro (yc 2 (ok 1 (by omega))) ?_
  simp -implicitDefEqProofs only [go_sem,hv,w1]
  refine Want.intro (zsi (256+v) (by omega)) ?_
  generalize hX:List.replicate (256+v) (⟨#[]⟩:ByteArray)=X
  have hXl:X.length=256+v:=by rw [←hX];exact List.length_replicate
  simp -implicitDefEqProofs only [go_sem]
  refine RetAt.intro (.blk 0 0 [] 1 0 X.length) ((r.adv 2).r2++[(0,0,one ⟨1,X.map zw,2,false⟩)]) ⟨X,r.adv 2,⟨rfl,rfl⟩,by omega,hb,by show r.p+2≤_;omega⟩ ?_
  simp -implicitDefEqProofs only [go_sem]
 ·simp -implicitDefEqProofs only [go_sem,g]
  obtain ⟨hz,hcs⟩:=zrQ (r.adv 1) ((h.adv 1).le (by omega))
  refine WantM.intro hcs ?_
  obtain ⟨n,hn⟩:∃n:Nat,szT (r.adv 1)=n:=⟨(szT (r.adv 1)).toNat,by omega⟩
  rw [hn] at hz ⊢
  simp -implicitDefEqProofs only [go_sem]
  obtain ⟨res,σ,⟨l,r',⟨rfl,rfl⟩,hl,hr'⟩,hcall⟩:=zrR (r.adv 3) n (by omega) ((h.adv 3).le (by omega))
  have hr2:=hr'.2
  have hap:(r.adv 3).p=r.p+3:=rfl
  refine WantM.intro hcall ?_
  have ha:∀x,_:=fun x=>zK (E:=zw) (l:=l) (xs:=[x]) (b:=16) (n:=1000) (by simp;omega) (by omega) (by omega)
  simp -implicitDefEqProofs only [go_sem]
  refine zR [4] [] (fun s=>∃(l:List ByteArray) (R:Dr),l.length≤300∧R.ok (r.p+1000)∧s=⟨30,[(4,.blk 4 0 [] 1 0 l.length)],[(1000000,0,one ⟨1,[[.ptr 1000001 0 [] 2 0 0]],0,false⟩),(1000001,0,one ⟨2,[R.cs],0,false⟩),(4,0,one ⟨1,l.map zw,2,false⟩)],1⟩) ?_ ?_
  ·simp -implicitDefEqProofs only [go_sem]
   refine zi (fun g=>?_) (fun g=>?_)
   ·simp -implicitDefEqProofs only [go_sem,g,b108]
    refine Want.intro (zkV [108] 41 (by omega) (by simp)) ?_
    simp -implicitDefEqProofs only [go_sem,ha]
    exact ⟨l++[bA (rep [108] 41)],r',by simp;omega,⟨hr'.1,by omega⟩,by simp [zw]⟩
   ·simp -implicitDefEqProofs only [go_sem,g]
    exact ⟨l,r',by omega,⟨hr'.1,by omega⟩,rfl⟩
  ·rintro s ⟨l,R,hl,hR,rfl⟩
   simp -implicitDefEqProofs only [go_sem]
   refine RetAt.intro (.blk 0 0 [] 1 0 l.length) (R.r2++[(0,0,one ⟨1,l.map zw,2,false⟩)]) ⟨l,R,⟨rfl,rfl⟩,hl,hR⟩ ?_
   simp -implicitDefEqProofs only [go_sem]
def PostTP (res:AV) (σ:Sig):Prop:=∃(l:List ByteArray),(res=.blk 0 0 [] 1 0 l.length∧σ=[(0,0,one ⟨1,l.map zw,2,false⟩)])∧l.length≤300
theorem c22_c (l:List ByteArray) (h:zI l=true):CallR Tryz.prog 22 [.ro 1 (l.map zw)] (.agg (vI l.length::(xi l).cs)) []:=by
 refine zl zo2 false Tryz.f22 ?_
 conv=>enter [1];reduce
 refine jvR Tryz.f22 12 [.cell 2 47] (by kernel_rfl) (by decide +kernel) rfl ?_
 have hl:=(yK h).1
 simp -implicitDefEqProofs only [go_sem]
 refine Want.intro (zkR l (by unfold maxLen;omega)) ?_
 simp -implicitDefEqProofs only [go_sem,h,Bool.not_true,za]
 refine Want.intro (zo9 l h) ?_
 simp -implicitDefEqProofs only [go_sem]
end Go.Proofs.YtpjpkmhaffmbmaaGreat.E
end
section
namespace Go.Proofs.YtpjpkmhaffmbmaaGreat.E
open Go Go.RowKit
set_option maxHeartbeats 4000000
set_option maxRecDepth 10000
set_option linter.unusedSimpArgs false
set_option linter.unusedVariables false
set_option linter.unusedSectionVars false
def dcM4:Dec:=⟨[],[9,10,11],[22,30,37,38,39,40,49,56,76,80,87,141,143,159,237,250,259],false⟩
def Dr.r3 (r:Dr):Sig:=[(1000000,0,one ⟨1,[[.ptr 1000001 0 [] 1 0 0]],0,false⟩),(1000001,0,one ⟨1,[[.ptr 1000002 0 [] 2 0 0]],0,false⟩),(1000002,0,one ⟨2,[r.cs],0,false⟩)]
attribute [go_sem] Dr.r3
def tPt (l:List ByteArray):MPt:=if zI l then ⟨l.length,(xi l).dig⟩ else .zero
theorem zbD (l:List ByteArray):(tPt l).root.ok∧(0≤(tPt l).size∧(tPt l).size≤(l.length:Int)):=by
 unfold tPt
 split
 ·exact ⟨(xi l).dig_ok,Int.natCast_nonneg _,Int.le_refl _⟩
 ·exact ⟨yy,Int.le_refl _,Int.natCast_nonneg _⟩
theorem zgY (l:List ByteArray) (hl:l.length≤maxLen):CallR Tryz.prog 22 [.ro 1 (l.map zw)] (.agg (tPt l).cs) []:=by
 unfold tPt
 cases h:zI l with
 | true=>exact c22_c l h
 | false=>
  refine zl dcM4 false Tryz.f22 ?_
  conv=>enter [1];reduce
  refine jvR Tryz.f22 12 [.cell 2 47] (by kernel_rfl) (by decide +kernel) rfl ?_
  simp -implicitDefEqProofs only [go_sem]
  refine Want.intro (zkR l hl) ?_
  simp -implicitDefEqProofs only [go_sem,h,Bool.not_false,zb]
  rfl
end Go.Proofs.YtpjpkmhaffmbmaaGreat.E
end
