/- Contracts: setups and steps; quiet steps, cover steps; lists of steps, one behind the other; Contracts: the reference plays; Contracts: copies of the parts of a world; by value; Contracts: lists of steps, one behind the other -/
import Derived.Test.YtobpfkgabdeefaaGreatP22
import Derived.Test.YtobpfkgabdeefaaGreatP38
import Derived.Test.YtobpfkgabdeefaaGreatP41
namespace Go.Proofs.YtobpfkgabdeefaaGreat.E
open Go Go.RowKit
set_option maxHeartbeats 4000000
set_option maxRecDepth 10000
set_option linter.unusedSimpArgs false
set_option linter.unusedVariables false
set_option linter.unusedSectionVars false
def sQ:bX:=⟨[(95,.cm [true,false])],[9,10,11],[24,26,30,44,47,50,51,52,57,58,59,62,76,88,138,185,186,187,253,254,297,311],false⟩
def xn (node:Int):List aJ:=[⟨8,node,0,⟨#[]⟩⟩,⟨9,node,0,⟨#[]⟩⟩]
theorem aJ.wide (l:List aJ):fp 4 (l.map aJ.aO)=true:=by
 induction l with
 | nil=>rfl
 | cons a l ih=>simp only[List.map_cons,fp,ih,aJ.aO];rfl
theorem aJ.flat (l:List aJ):dx (l.map aJ.aO)=2:=by
 induction l with
 | nil=>rfl
 | cons a l ih=>simp only[List.map_cons,dx,ih,aJ.aO];rfl
attribute [go_sem] aJ.wide aJ.flat
theorem UN (l:List aJ) (k:Int) (hl:(l.length+2) * 40≤140737488355328):bb Tryz.prog 95 [(1000000,0,one ⟨4,l.map aJ.aO,2,false⟩)] [.au 1000000 0 [] 4 0 l.length,vI k] (.au 0 0 [] 4 0 (l++xn k).length) [(0,0,one ⟨4,(l++xn k).map aJ.aO,2,false⟩)]:=by
 refine aA sQ false Tryz.f95 ?_;conv=>enter[1];reduce
 refine bT Tryz.f95 15 [.tmp 4] (by kernel_rfl) (by decide +kernel) rfl ?_;have h1:∀x,(l.map aJ.aO++[x]).length≤maxLen∧(l.map aJ.aO++[x]).length * 40≤140737488355328:=fun x=>by
  constructor
  ·exact mm (b:=40) (by simp;omega) (by omega)
  simp;omega
 have h2:∀x y,(l.map aJ.aO++[x]++[y]).length≤maxLen∧(l.map aJ.aO++[x]++[y]).length * 40≤140737488355328:=fun x y=>by
  constructor
  ·exact mm (b:=40) (by simp;omega) (by omega)
  simp;omega
 refine cg h1 h2 ?_;simp[xn,aJ.aO]
theorem UO (l:List aJ) (hl:l.length * 40≤140737488355328):aR Tryz.prog 94 [.ro 4 (l.map aJ.aO)] (.au 0 0 [] 4 0 l.length) [([],⟨4,l.map aJ.aO,2,false⟩)]:=by
 refine aA sQ false Tryz.f94 ?_;conv=>enter[1];reduce
 refine bf Tryz.f94 14 [.tmp 2] (by kernel_rfl) (by decide +kernel) rfl ?_;refine aw ?_;refine b8 (fun h=>?_) (fun h=>?_)
 ·have:l=[]:=by simpa using h
  subst this;exact dt
 have hm:=mm hl (by omega);have hJ:((40:Nat):Int) * (l.length:Int)≤281474976710656∧(l.length:Int)≤9223372036854775807:=by unfold maxLen at hm;omega
 exact rN h hJ
def oO (f:Nat→List aJ):Nat→List aJ
 | 0=>[]
 | n+1=>oO f n++f n
theorem yn {f:Nat→List aJ}(h:∀i,(f i).length=2) (n:Nat):(oO f n).length=2 * n:=by
 induction n with
 | zero=>rfl
 | succ n ih=>simp[oO,ih,h];omega
def tw (a:Int):aJ:=⟨12,0,a,⟨#[]⟩⟩
def zd (n:Int):aJ:=⟨2,n,0,⟨#[]⟩⟩
def qa (s:cK) (i:Nat):List aJ:=oO (fun i=>xn ((i+1:Nat):Int)) i
def kN (s:cK) (i:Nat):List aJ:=qa s (s.many+s.bB).toNat++[tw 6]++oO (fun i=>[zd (s.many+1+(i:Nat)),tw 6]) i
def fH (s:cK):List aJ:=if fv s then kN s s.bB.toNat else []
theorem US (s:cK):aR Tryz.prog 58 [.agg s.cs] (.au 0 0 [] 4 0 (fH s).length) [([],⟨4,(fH s).map aJ.aO,2,false⟩)]:=by
 refine aA sQ false Tryz.f58 ?_;conv=>enter[1];reduce
 refine bf Tryz.f58 49 [.tmp 2] (by kernel_rfl) (by decide +kernel) rfl ?_;refine aw ?_;refine cz (Dx s) ?_;refine b8 (fun h=>?_) (fun h=>?_)
 ·refine aC h ?_;have h:fv s=false:=by simpa using h
  simp[fH,h]
 have aF:fv s=true:=by simpa using h
 have hb:=d7 aF;refine aC h ?_;have hT:((s.many+s.bB).toNat:Int)=s.many+s.bB:=Int.toNat_of_nonneg (by omega);have kr:IntKind.i64.wrap (s.many+s.bB)=s.many+s.bB:=aV (by omega);have hA:∀i,(qa s i).length=2 * i:=fun i=>yn (fun _=>rfl) i
 have hB:∀i,(kN s i).length=2 * (s.many+s.bB).toNat+1+2 * i:=fun i=>by
  simp only[kN,List.length_append,hA,List.length_singleton];rw[yn (fun _=>rfl)]
 refine cR (fun m z=>∃i:Nat,i≤(s.many+s.bB).toNat∧m=(s.many+s.bB).toNat - i∧z=⟨49,[(1,.ptr 1 0 [] 5 0 0),(3,.au 3 0 [] 4 0 (qa s i).length),(4,vI ((i+1:Nat):Int))],[(1,0,one ⟨5,[cK.cs s],0,false⟩),(3,0,one ⟨4,(qa s i).map aJ.aO,2,false⟩)],1⟩) (s.many+s.bB).toNat ?_ ?_
 ·refine aw ?_;exact⟨0,aQ _,rfl,rfl⟩
 rintro m z ⟨i,hi,rfl,rfl⟩;rcases bm i (s.many+s.bB).toNat with ab|bH
 ·have hle:((i+1:Nat):Int)≤s.many+s.bB:=by omega
  refine cg kr hle ?_;refine ff (UN _ _ (by rw[hA];omega)) kr hle ?_;exact⟨_,by omega,i+1,ab,rfl,by rw[aV (by omega)];rfl⟩
 have hle:¬(((i+1:Nat):Int)≤s.many+s.bB):=by omega
 have hi:i=(s.many+s.bB).toNat:=by omega
 have ha:∀x,_:=fun x=>du (E:=aJ.aO) (l:=qa s i) (xs:=[x]) (b:=40) (n:=2 * i+1) (by rw[hA];simp) (by omega) (by omega)
 have mB:IntKind.i64.wrap (s.many+1)=s.many+1:=aV (by omega);refine eI kr hle ha mB ?_;subst hi;refine cR (fun m z=>∃i:Nat,i≤s.bB.toNat∧m=s.bB.toNat - i∧z=⟨49,[(1,.ptr 1 0 [] 5 0 0),(3,.au 3 0 [] 4 0 (kN s i).length),(5,vI (s.many+1+(i:Nat)))],[(1,0,one ⟨5,[cK.cs s],0,false⟩),(3,0,one ⟨4,(kN s i).map aJ.aO,2,false⟩)],1⟩) s.bB.toNat ?_ ?_
 ·refine aw ?_;exact⟨0,aQ _,rfl,by simp[kN,oO,tw,aJ.aO]⟩
 rintro m z ⟨i,hi,rfl,rfl⟩;rcases bm i s.bB.toNat with ab|bH
 ·have hle:s.many+1+(i:Int)≤s.many+s.bB:=by omega
  have ha:∀x,_:=fun x=>du (E:=aJ.aO) (l:=kN s i) (xs:=[x]) (b:=40) (n:=100) (by rw[hB];simp;omega) (by omega) (by omega)
  have cA:∀x y,((kN s i).map aJ.aO++[x]++[y]).length≤maxLen∧((kN s i).map aJ.aO++[x]++[y]).length * 40≤140737488355328:=fun x y=>by
   rw[List.append_assoc];exact du (E:=aJ.aO) (l:=kN s i) (b:=40) (n:=100) (by rw[hB];simp;omega) (by omega) (by omega)
  refine eI kr hle ha cA ?_;exact⟨_,by omega,i+1,ab,rfl,by rw[aV (by omega)];simp[kN,oO,tw,zd,aJ.aO,Int.add_assoc]⟩
 have hle:¬(s.many+1+(i:Int)≤s.many+s.bB):=by omega
 have hi:i=s.bB.toNat:=by omega
 subst hi;refine cg kr hle ?_;simp[fH,aF]
theorem UT (s:cK):aR Tryz.prog 57 [.agg s.cs] (.au 0 0 [] 4 0 (fH s).length) [([],⟨4,(fH s).map aJ.aO,2,false⟩)]:=by
 refine aA sQ false Tryz.f57 ?_;conv=>enter[1];reduce
 refine bf Tryz.f57 47 [.tmp 2] (by kernel_rfl) (by decide +kernel) rfl ?_;refine aw ?_;refine cz (As s) ?_;refine b8 (fun h=>?_) (fun h=>?_)
 ·refine aC h ?_;have h:fv s=false:=by simpa using h
  simp[fH,h]
 have aF:fv s=true:=by simpa using h
 have hb:=d7 aF;have hT:((s.many+s.bB).toNat:Int)=s.many+s.bB:=Int.toNat_of_nonneg (by omega);have kr:IntKind.i64.wrap (s.many+s.bB)=s.many+s.bB:=aV (by omega);have hA:∀i,(qa s i).length=2 * i:=fun i=>yn (fun _=>rfl) i
 have hB:∀i,(kN s i).length=2 * (s.many+s.bB).toNat+1+2 * i:=fun i=>by
  simp only[kN,List.length_append,hA,List.length_singleton];rw[yn (fun _=>rfl)]
 refine cg h kr ?_;refine jX [(3,4)] (fun m z=>∃i:Nat,i≤(s.many+s.bB).toNat∧m=(s.many+s.bB).toNat - i∧z=⟨47,[(1,.ptr 1 0 [] 5 0 0),(3,.au 3 0 [] 4 0 (qa s i).length),(4,vI (s.many+s.bB)),(5,vI ((i+1:Nat):Int))],[(1,0,one ⟨5,[cK.cs s],0,false⟩),(3,0,one ⟨4,(qa s i).map aJ.aO,2,false⟩)],1⟩) (s.many+s.bB).toNat ?_ ?_
 ·refine aw ?_;exact⟨0,aQ _,rfl,rfl⟩
 rintro m z ⟨i,hi,rfl,rfl⟩;rcases bm i (s.many+s.bB).toNat with ab|bH
 ·have hle:((i+1:Nat):Int)≤s.many+s.bB:=by omega
  have ha:∀x y,_:=fun x y=>du (E:=aJ.aO) (l:=qa s i) (xs:=[x,y]) (b:=40) (n:=100) (by rw[hA];simp;omega) (by omega) (by omega)
  refine ez kr hle ha ?_;exact⟨_,by omega,i+1,ab,rfl,by rw[aV (by omega)];simp[qa,oO,xn,aJ.aO,Int.add_assoc]⟩
 have hle:¬(((i+1:Nat):Int)≤s.many+s.bB):=by omega
 have hi:i=(s.many+s.bB).toNat:=by omega
 have ha:∀x,_:=fun x=>du (E:=aJ.aO) (l:=qa s i) (xs:=[x]) (b:=40) (n:=2 * i+1) (by rw[hA];simp) (by omega) (by omega)
 have mB:IntKind.i64.wrap (s.many+1)=s.many+1:=aV (by omega);refine eI kr hle ha mB ?_;subst hi;refine cR (fun m z=>∃i:Nat,i≤s.bB.toNat∧m=s.bB.toNat - i∧z=⟨47,[(3,.au 3 0 [] 4 0 (kN s i).length),(4,vI (s.many+s.bB)),(6,vI (s.many+1+(i:Nat)))],[(3,0,one ⟨4,(kN s i).map aJ.aO,2,false⟩)],1⟩) s.bB.toNat ?_ ?_
 ·refine aw ?_;exact⟨0,aQ _,rfl,by simp[kN,oO,tw,aJ.aO]⟩
 rintro m z ⟨i,hi,rfl,rfl⟩;rcases bm i s.bB.toNat with ab|bH
 ·have hle:s.many+1+(i:Int)≤s.many+s.bB:=by omega
  have ha:∀x y,_:=fun x y=>du (E:=aJ.aO) (l:=kN s i) (xs:=[x,y]) (b:=40) (n:=100) (by rw[hB];simp;omega) (by omega) (by omega)
  refine ez kr hle ha ?_;exact⟨_,by omega,i+1,ab,rfl,by rw[aV (by omega)];simp[kN,oO,tw,zd,aJ.aO,Int.add_assoc]⟩
 have hle:¬(s.many+1+(i:Int)≤s.many+s.bB):=by omega
 have hi:i=s.bB.toNat:=by omega
 subst hi;refine cg kr hle ?_;refine cz (UO (kN s s.bB.toNat) (by rw[hB];omega)) ?_;simp[fH,aF]
theorem abq (s:cK):(fH s).length≤100:=by
 unfold fH;split
 ·rename_i aF;have hb:=d7 aF;simp only[kN,qa,List.length_append,List.length_singleton];rw[yn (fun _=>rfl),yn (fun _=>rfl)];omega
 simp
def tI (s:cK):Int:=if fv s then s.many+s.bB+1 else -1
theorem Sd (s:cK):aR Tryz.prog 48 [.agg s.cs] (vI (tI s)) []:=by
 refine aA sQ false Tryz.f48 ?_;conv=>enter[1];reduce
 refine bf Tryz.f48 12 [.tmp 2] (by kernel_rfl) (by decide +kernel) rfl ?_;refine aw ?_;refine cz (Dx s) ?_;refine b8 (fun h=>?_) (fun h=>?_)
 ·refine aC h ?_;have h:fv s=false:=by simpa using h
  simp[tI,h]
 have aF:fv s=true:=by simpa using h
 have hb:=d7 aF;have kr:IntKind.i64.wrap (s.many+s.bB)=s.many+s.bB:=aV (by omega);have mB:IntKind.i64.wrap (s.many+s.bB+1)=s.many+s.bB+1:=aV (by omega);refine ez h kr mB ?_;simp[tI,aF]
theorem Sc (s:cK):aR Tryz.prog 74 [.agg s.cs] (vI (tI s)) []:=by
 refine aA sQ false Tryz.f74 ?_;conv=>enter[1];reduce
 refine bf Tryz.f74 12 [.tmp 2] (by kernel_rfl) (by decide +kernel) rfl ?_;refine aw ?_;refine cz (As s) ?_;refine b8 (fun h=>?_) (fun h=>?_)
 ·refine aC h ?_;have h:fv s=false:=by simpa using h
  simp[tI,h]
 have aF:fv s=true:=by simpa using h
 have hb:=d7 aF;have kr:IntKind.i64.wrap (s.many+s.bB)=s.many+s.bB:=aV (by omega);have mB:IntKind.i64.wrap (s.many+s.bB+1)=s.many+s.bB+1:=aV (by omega);refine ez h kr mB ?_;simp[tI,aF]
def m7 (m:Int) (i:Nat):List aJ:=xn m++oO (fun _=>[zd m,tw 8]) i
theorem B8 (m:Int) (i:Nat):(m7 m i).length=2+2 * i:=by
 simp only[m7,List.length_append];rw[yn (fun _=>rfl)];rfl
def qT (s:cK) (n:Int):Bool:=fv s&&aT n 0 256
def jq (s:cK) (n:Int):List aJ:=if qT s n then m7 (tI s) (n+1).toNat else []
theorem Mx {s:cK}{n:Int}(h:qT s n=true):0≤n∧n≤256:=by
 simp only[qT,aT,Bool.and_eq_true,decide_eq_true_eq]at h;exact h.2
theorem afy (s:cK) (n:Int):aR Tryz.prog 67 [.agg s.cs,vI n] (.au 0 0 [] 4 0 (jq s n).length) [([],⟨4,(jq s n).map aJ.aO,2,false⟩)]:=by
 refine aA sQ false Tryz.f67 ?_;conv=>enter[1];reduce
 refine bf Tryz.f67 38 [.tmp 4] (by kernel_rfl) (by decide +kernel) rfl ?_;simp -implicitDefEqProofs only[go_sem]
 repeat' first|(refine aq.intro (by first|exact Dx s|exact e9 n 0 256|exact Sd s) ?_;try simp -implicitDefEqProofs only[go_sem])|(refine aD.intro (by first|exact Dx s|exact e9 n 0 256|exact Sd s) ?_;try simp -implicitDefEqProofs only[go_sem])|(refine ew (fun h=>?_) (fun h=>?_)<;>try simp -implicitDefEqProofs only[go_sem,h])|(refine b8 (fun h=>?_) (fun h=>?_)<;>try simp -implicitDefEqProofs only[go_sem,h])
 ·have h:fv s=false:=by simpa using h
  simp[jq,qT,h]
 ·have h:aT n 0 256=false:=by simpa using h
  simp[jq,qT,h]
 rename_i h1;have aF:qT s n=true:=by simp_all[qT]
 have hb:=Mx aF;clear h h1;generalize hm:tI s=m at *;refine eP (UN [] m (by simp)) ?_;refine cR (fun k z=>∃i:Nat,i≤(n+1).toNat∧k=(n+1).toNat - i∧z=⟨38,[(1,vI n),(5,.au 5 0 [] 4 0 (m7 m i).length),(6,vI m),(7,vI (i:Nat))],[(5,0,one ⟨4,(m7 m i).map aJ.aO,2,false⟩)],1⟩) (n+1).toNat ?_ ?_
 ·refine aw ?_;exact⟨0,aQ _,rfl,rfl⟩
 rintro k z ⟨i,hi,rfl,rfl⟩;rcases bm i (n+1).toNat with ab|bH
 ·have hle:(i:Int)≤n:=by omega
  have ha:∀x,_:=fun x=>du (E:=aJ.aO) (l:=m7 m i) (xs:=[x]) (b:=40) (n:=1000) (by rw[B8];simp;omega) (by omega) (by omega)
  have cA:∀x y,((m7 m i).map aJ.aO++[x]++[y]).length≤maxLen∧((m7 m i).map aJ.aO++[x]++[y]).length * 40≤140737488355328:=fun x y=>by
   rw[List.append_assoc];exact du (E:=aJ.aO) (l:=m7 m i) (b:=40) (n:=1000) (by rw[B8];simp;omega) (by omega) (by omega)
  refine ez hle ha cA ?_;exact⟨_,by omega,i+1,ab,rfl,by rw[aV (by omega)];simp[m7,oO,tw,zd,aJ.aO]⟩
 have hle:¬((i:Int)≤n):=by omega
 have hi:i=(n+1).toNat:=by omega
 refine aC hle ?_;subst hi;simp[jq,aF,hm]
theorem afw (s:cK) (n:Int):aR Tryz.prog 69 [.agg s.cs,vI n] (.au 0 0 [] 4 0 (jq s n).length) [([],⟨4,(jq s n).map aJ.aO,2,false⟩)]:=by
 refine aA sQ false Tryz.f69 ?_;conv=>enter[1];reduce
 refine bf Tryz.f69 34 [.tmp 4] (by kernel_rfl) (by decide +kernel) rfl ?_;simp -implicitDefEqProofs only[go_sem]
 repeat' first|(refine aq.intro (by first|exact As s|exact dG n 0 256|exact Sc s) ?_;try simp -implicitDefEqProofs only[go_sem])|(refine aD.intro (by first|exact As s|exact dG n 0 256|exact Sc s) ?_;try simp -implicitDefEqProofs only[go_sem])|(refine ew (fun h=>?_) (fun h=>?_)<;>try simp -implicitDefEqProofs only[go_sem,h])|(refine b8 (fun h=>?_) (fun h=>?_)<;>try simp -implicitDefEqProofs only[go_sem,h])
 ·have h:fv s=false:=by simpa using h
  simp[jq,qT,h]
 ·have h:aT n 0 256=false:=by simpa using h
  simp[jq,qT,h]
 rename_i h1;have aF:qT s n=true:=by simp_all[qT]
 have hb:=Mx aF;clear h h1;generalize hm:tI s=m at *;refine cR (fun k z=>∃i:Nat,i≤(n+1).toNat∧k=(n+1).toNat - i∧z=⟨34,[(1,vI (n - i)),(5,vI m),(6,.au 6 0 [] 4 0 (m7 m i).length)],[(6,0,one ⟨4,(m7 m i).map aJ.aO,2,false⟩)],1⟩) (n+1).toNat ?_ ?_
 ·refine aw ?_;exact⟨0,aQ _,rfl,by simp[m7,xn,oO,aJ.aO]⟩
 rintro k z ⟨i,hi,rfl,rfl⟩;rcases bm i (n+1).toNat with ab|bH
 ·have hle:n - (i:Int)≥0:=by omega
  have ha:∀x y,_:=fun x y=>du (E:=aJ.aO) (l:=m7 m i) (xs:=[x,y]) (b:=40) (n:=1000) (by rw[B8];simp;omega) (by omega) (by omega)
  refine cg hle ha ?_;exact⟨_,by omega,i+1,ab,rfl,by rw[aV (by omega)];simp[m7,oO,tw,zd,aJ.aO];omega⟩
 have hle:¬(n - (i:Int)≥0):=by omega
 have hi:i=(n+1).toNat:=by omega
 refine aC hle ?_;subst hi;refine cz (UO (m7 m (n+1).toNat) (by rw[B8];omega)) ?_;simp[jq,aF,hm]
theorem abB (s:cK) (n:Int):(jq s n).length≤1000:=by
 unfold jq;split
 ·rename_i aF;have hb:=Mx aF;rw[B8];omega
 simp
theorem afu (x:aJ):aR Tryz.prog 73 [.agg x.aO] (vB (fW x)) []:=by
 refine aA sQ false Tryz.f73 ?_;conv=>enter[1];reduce
 refine bf Tryz.f73 17 [.tmp 2] (by kernel_rfl) (by decide +kernel) rfl ?_;unfold fW;refine aw ?_;refine aq.intro (dG _ _ _) ?_;cases h1:aT x.kind 1 13 with
 | false=>
  refine od ?_
  first|exact True.intro|(simp;done)|trace_state
 | true=>
  refine od ?_;refine aq.intro (dG _ _ _) ?_;cases h2:aT x.node 0 20 with
  | false=>
   refine od ?_
   first|exact True.intro|(simp;done)|trace_state
  | true=>
   refine od ?_
   first|exact True.intro|(simp;done)|trace_state
theorem agM (x:aJ):aR Tryz.prog 129 [.agg x.aO] (vB (fW x)) []:=by
 refine aA sQ false Tryz.f129 ?_;conv=>enter[1];reduce
 refine bf Tryz.f129 17 [.tmp 2] (by kernel_rfl) (by decide +kernel) rfl ?_;unfold fW;refine aw ?_;refine aq.intro (e9 _ _ _) ?_;cases h1:aT x.kind 1 13 with
 | false=>
  refine od ?_
  first|exact True.intro|(simp;done)|trace_state
 | true=>
  refine od ?_;refine aq.intro (e9 _ _ _) ?_;cases h2:aT x.node 0 20 with
  | false=>
   refine od ?_
   first|exact True.intro|(simp;done)|trace_state
  | true=>
   refine od ?_
   first|exact True.intro|(simp;done)|trace_state
section
def Mn:bX:=⟨[(79,.cm [false]),(80,.cm [true,false]),(130,.cm [false,false]),(131,.cm [true,false]),(132,.cm [false,false]),(133,.cm [false,false]),(134,.cm [true]),(135,.cm [true,false]),(138,.cm [true]),(139,.cm [true,false])],[9,10,11],[24,26,30,44,47,50,51,52,57,58,59,62,76,88,138,185,186,187,253,254,297,311],false⟩
attribute [-go_sem] ei
def ai.rv (w:ai):AV:=.agg ([vI w.set.many,vI w.set.eK,vI w.set.bB,vI w.set.room,vI w.set.inbox,.ro 1 (w.log.map cY),.ro 15 (w.ah.map bE.rc),.ro 15 (w.cls.map bu.rc)]++(w.cD.rc++
 [.ro 1 (w.up.map dq),.ro 1 (w.bx.map fun b=>[AV.ro 3 b]),vI w.room,.ro 3 (w.bj.map aB.cs),.ro 16 (w.book.map dy.cs),vB w.stop]))
attribute [go_sem] ai.rv Nn
theorem Wn {α:Type}(p:α→Bool) (l:List α) {i:Nat}(h:i<l.length):(l.take (i+1)).all p=((l.take i).all p&&p l[i]):=by
 rw[List.take_succ_eq_append_getElem h,List.all_append];simp
theorem Wo {α:Type}{p:α→Bool}{l:List α}{i:Nat}(h:i<l.length) (hp:p l[i]=false):l.all p=false:=by
 cases e:l.all p with
 | false=>rfl
 | true=>rw[List.all_eq_true.1 e _ (List.getElem_mem h)]at hp;cases hp
theorem afr (l:List aJ) (hl:l.length≤maxLen):aR Tryz.prog 78 [.ro 4 (l.map aJ.aO)] (vB (decide (l.length≤600)&&l.all fW)) []:=by
 refine aA Mn false Tryz.f78 ?_;conv=>enter[1];reduce
 refine bf Tryz.f78 19 [.tmp 2] (by kernel_rfl) (by decide +kernel) rfl ?_;by_cases h6:l.length≤600
 ·have uf:¬((l.length:Int)>600):=by omega
  rw[decide_eq_true h6,Bool.true_and];refine aC uf ?_;refine cR (fun m s=>∃(i:Nat),(i≤l.length∧(l.take i).all fW=true)∧m=l.length - i∧s=⟨19,[(0,.ro 4 (l.map aJ.aO)),(3,vI i)],[],1⟩) l.length ?_ ?_
  ·refine aw ?_;exact⟨0,⟨aQ _,rfl⟩,rfl,rfl⟩
  rintro m s ⟨i,⟨hi,ha⟩,rfl,rfl⟩;rcases bm i l.length with ab|bH
  ·have ae:(i:Int)<(l.length:Int):=by omega
   have hg:l[i]?=some l[i]:=bz ab;have hw:=df ab hl;have m8:=agM l[i];have cj:=Wn fW l ab;cases aF:fW l[i] with
   | true=>
    rw[aF]at m8;rw[ha,aF]at cj;refine ez ae hg hw ?_;refine jm m8 hw ?_;exact⟨_,by omega,i+1,⟨ab,cj⟩,rfl,rfl⟩
   | false=>
    rw[aF]at m8;rw[Wo ab aF];refine ez ae hg hw ?_;refine aq.intro m8 ?_;exact er hw
  have hi:i=l.length:=by omega
  subst hi;have ae:¬((l.length:Int)<(l.length:Int)):=by omega
  rw[List.take_length]at ha;rw[ha];exact er ae
 have uf:(l.length:Int)>600:=by omega
 rw[decide_eq_false h6,Bool.false_and];exact er uf
theorem Yz (w:ai) (x:aJ) (h:w.wf) (aE:w.stop=true):bb Tryz.prog 80 (gm w) [vA w 1000000,.agg x.aO] (vA (fF w x) 0) (eJ (fF w x)):=by
 have e:fF w x=w:=if_pos aE;rw[e];refine aA Mn false Tryz.f80 ?_;conv=>enter[1];reduce
 refine bT Tryz.f80 141 [.cell 4 64] (by kernel_rfl) (by decide +kernel) rfl ?_;have hx:=h.hx;exact dk aE hx
theorem YA (w:ai) (x:aJ) (h:w.wf) (aF:fW x=true) (hb:w.book.length≤3500000000):bb Tryz.prog 80 (gm w) [vA w 1000000,.agg x.aO] (vA (fF w x) 0) (eJ (fF w x)):=by
 cases aE:w.stop with
 | true=>exact Yz w x h aE
 | false=>exact afp w x h aF aE hb
theorem Tt (s:cK) (l:List aJ) {i:Nat}(h:i<l.length):(l.take (i+1)).foldl fF (gU s)=fF ((l.take i).foldl fF (gU s)) l[i]:=by
 rw[List.take_succ_eq_append_getElem h,List.foldl_append];rfl
theorem Hx (s:cK) (l:List aJ) (hl:l.length≤maxLen):bb Tryz.prog 34 [] [.agg s.cs,.ro 4 (l.map aJ.aO)] (gn s l).rv []:=by
 refine aA Mn false Tryz.f34 ?_;conv=>enter[1];reduce
 refine qV Tryz.f34 31 [.cell 4 64] (by kernel_rfl) (by decide +kernel) rfl rfl ?_;have m8:=Dx s;have aE:=afr l hl;unfold gn FV;cases h1:fv s with
 | false=>
  rw[h1]at m8;rw[Bool.false_and,if_neg (by decide)];refine aw ?_;refine aq.intro m8 ?_;refine od ?_;refine dK.intro (aI.refl _) ?_;refine aw ?_
  first|exact True.intro|rfl|exact⟨rfl,rfl⟩
 | true=>
  rw[h1]at m8;rw[Bool.true_and];cases h2:(decide (l.length≤600)&&l.all fW) with
  | false=>
   rw[h2]at aE;rw[if_neg (by decide)];refine aw ?_;refine aq.intro m8 ?_;refine od ?_;refine aq.intro aE ?_;refine od ?_;refine dK.intro (aI.refl _) ?_;refine aw ?_
   first|exact True.intro|rfl|exact⟨rfl,rfl⟩
  | true=>
   rw[h2]at aE;rw[if_pos rfl];simp only[Bool.and_eq_true,decide_eq_true_eq,List.all_eq_true]at h2;have ga:=BT h1;have vf:=ga.hx;have bO:=afq s h1;refine aw ?_;refine aq.intro m8 ?_;refine od ?_;refine aq.intro aE ?_;refine od ?_;refine il bO vf ?_;refine iN (fun m z=>∃(i:Nat),i≤l.length∧m=l.length - i∧z=⟨31,[(1,.ro 4 (l.map aJ.aO)),(4,.ptr 4 0 [] 35 0 0),(5,.ptr 5 0 [] 35 0 0),(6,vI i)],(4,0,one ⟨35,[jL],0,false⟩)::(5,0,one ⟨35,[((l.take i).foldl fF (gU s)).cells 10005 10000],0,false⟩)::((l.take i).foldl fF (gU s)).rows 10005 10000,1⟩) l.length (cO.intro (aI.dm [] [1,4,5,6] _) ?_) ?_
   ·refine aC vf ?_;exact⟨0,aQ _,rfl,rfl⟩
   rintro m z ⟨i,hi,rfl,rfl⟩;have Cs:∀x∈l.take i,fW x=true:=fun x hx=>h2.2 x (List.mem_of_mem_take hx)
   have hv:=wu ga Cs;have gq:=(HR ga Cs).len;have iI:(gU s).book.length=0:=rfl;rw[List.length_take]at gq;rcases bm i l.length with ab|bH
   ·have ae:(i:Int)<(l.length:Int):=by omega
    have hg:l[i]?=some l[i]:=bz ab;have hw:=df ab hl;have lJ:=Tt s l ab;have Ss:=YA _ l[i] hv (h2.2 _ (List.getElem_mem ab)) (by omega);rw[←lJ]at Ss;have dQ:=wu (l:=l.take (i+1)) ga (fun x hx=>h2.2 x (List.mem_of_mem_take hx));generalize hU:(l.take (i+1)).foldl fF (gU s)=u at *;generalize (l.take i).foldl fF (gU s)=v at *;have aX:=hv.hx;have cr:=dQ.hx;refine eI ae hg hw aX ?_;refine mb Ss hw aX cr ?_;refine fh.intro (l.length - (i+1)) (by omega) (aI.dm [] [1,4,5,6] _) ?_;refine aC cr ?_;refine⟨i+1,ab,rfl,?_⟩;subst hU;rfl
   have hi:i=l.length:=by omega
   subst hi;have ae:¬((l.length:Int)<(l.length:Int)):=by omega
   rw[List.take_length]at *;generalize l.foldl fF (gU s)=v at *;have aX:=hv.hx;refine cg ae aX ?_;refine dK.step (aI.Tr (B:=40005) (g:=0) (sz:=3) (bs:=v.bx) rfl) ?_;have dR:=(de v).symm;refine dK.intro (aI.refl _) ?_;refine cg aX dR ?_
   first|exact True.intro|rfl|exact⟨rfl,rfl⟩
end
def Dn:bX:=⟨[],[9,10,11],[24,26,30,44,47,50,51,52,57,58,59,62,76,88,138,185,186,187,253,254,297,311],false⟩
def oX (b:List (List AV)):List AV:=[AV.ro 3 b]
theorem Tw (l:List (bE)):1≤dx (l.map bE.rc):=by
 induction l with
 | nil=>decide
 | cons a l ih=>
  show 1≤min (iz (bE.rc a)) (dx (l.map bE.rc))
  have:iz (bE.rc a)=1:=rfl;omega
theorem adV {l:List (bE)}(h:l≠[]):dx (l.map bE.rc)=1:=by
 cases l with
 | nil=>exact absurd rfl h
 | cons a l=>
  show min (iz (bE.rc a)) (dx (l.map bE.rc))=1
  have h1:iz (bE.rc a)=1:=rfl;have:=Tw l;omega
theorem Xj (l:List (bE)):fp 15 (l.map bE.rc)=true:=by
 induction l with
 | nil=>rfl
 | cons a l ih=>simp only[List.map_cons,fp,ih];rfl
theorem Ty (l:List (bu)):1≤dx (l.map bu.rc):=by
 induction l with
 | nil=>decide
 | cons a l ih=>
  show 1≤min (iz (bu.rc a)) (dx (l.map bu.rc))
  have:iz (bu.rc a)=1:=rfl;omega
theorem adX {l:List (bu)}(h:l≠[]):dx (l.map bu.rc)=1:=by
 cases l with
 | nil=>exact absurd rfl h
 | cons a l=>
  show min (iz (bu.rc a)) (dx (l.map bu.rc))=1
  have h1:iz (bu.rc a)=1:=rfl;have:=Ty l;omega
theorem Xl (l:List (bu)):fp 15 (l.map bu.rc)=true:=by
 induction l with
 | nil=>rfl
 | cons a l ih=>simp only[List.map_cons,fp,ih];rfl
theorem Tx (l:List (dy)):1≤dx (l.map dy.cs):=by
 induction l with
 | nil=>decide
 | cons a l ih=>
  show 1≤min (iz (dy.cs a)) (dx (l.map dy.cs))
  have:iz (dy.cs a)=1:=rfl;omega
theorem adW {l:List (dy)}(h:l≠[]):dx (l.map dy.cs)=1:=by
 cases l with
 | nil=>exact absurd rfl h
 | cons a l=>
  show min (iz (dy.cs a)) (dx (l.map dy.cs))=1
  have h1:iz (dy.cs a)=1:=rfl;have:=Tx l;omega
theorem Xk (l:List (dy)):fp 16 (l.map dy.cs)=true:=by
 induction l with
 | nil=>rfl
 | cons a l ih=>simp only[List.map_cons,fp,ih];rfl
theorem Tz (l:List (List (List AV))):1≤dx (l.map oX):=by
 induction l with
 | nil=>decide
 | cons a l ih=>
  show 1≤min (iz (oX a)) (dx (l.map oX))
  have:iz (oX a)=1:=rfl;omega
theorem adY {l:List (List (List AV))}(h:l≠[]):dx (l.map oX)=1:=by
 cases l with
 | nil=>exact absurd rfl h
 | cons a l=>
  show min (iz (oX a)) (dx (l.map oX))=1
  have h1:iz (oX a)=1:=rfl;have:=Tz l;omega
theorem Xm (l:List (List (List AV))):fp 1 (l.map oX)=true:=by
 induction l with
 | nil=>rfl
 | cons a l ih=>simp only[List.map_cons,fp,ih];rfl
theorem agQ (l:List (bE)) (hl:l.length * 136≤140737488355328):aR Tryz.prog 119 [.ro 15 (l.map bE.rc)] (.au 0 0 [] 15 0 l.length) [([],⟨15,l.map bE.rc,dx (l.map bE.rc),false⟩)]:=by
 refine aA Dn false Tryz.f119 ?_;conv=>enter[1];reduce
 refine bf Tryz.f119 14 [.tmp 2] (by kernel_rfl) (by decide +kernel) rfl ?_;have ss:=Xj l;refine aw ?_;refine b8 (fun h=>?_) (fun h=>?_)
 ·have:l=[]:=by simpa using h
  subst this;exact dt
 have hm:=mm hl (by omega);have bO:l≠[]:=by rintro rfl;exact absurd h (by decide)
 have jF:=adV bO;have hJ:((136:Nat):Int) * (l.length:Int)≤281474976710656∧(l.length:Int)≤9223372036854775807:=by unfold maxLen at hm;omega
 rw[jF];exact El h hJ ss jF
theorem agP (l:List (bu)) (hl:l.length * 136≤140737488355328):aR Tryz.prog 121 [.ro 15 (l.map bu.rc)] (.au 0 0 [] 15 0 l.length) [([],⟨15,l.map bu.rc,dx (l.map bu.rc),false⟩)]:=by
 refine aA Dn false Tryz.f121 ?_;conv=>enter[1];reduce
 refine bf Tryz.f121 14 [.tmp 2] (by kernel_rfl) (by decide +kernel) rfl ?_;have ss:=Xl l;refine aw ?_;refine b8 (fun h=>?_) (fun h=>?_)
 ·have:l=[]:=by simpa using h
  subst this;exact dt
 have hm:=mm hl (by omega);have bO:l≠[]:=by rintro rfl;exact absurd h (by decide)
 have jF:=adX bO;have hJ:((136:Nat):Int) * (l.length:Int)≤281474976710656∧(l.length:Int)≤9223372036854775807:=by unfold maxLen at hm;omega
 rw[jF];exact El h hJ ss jF
theorem afo (l:List (dy)) (hl:l.length * 144≤140737488355328):aR Tryz.prog 89 [.ro 16 (l.map dy.cs)] (.au 0 0 [] 16 0 l.length) [([],⟨16,l.map dy.cs,dx (l.map dy.cs),false⟩)]:=by
 refine aA Dn false Tryz.f89 ?_;conv=>enter[1];reduce
 refine bf Tryz.f89 14 [.tmp 2] (by kernel_rfl) (by decide +kernel) rfl ?_;have ss:=Xk l;refine aw ?_;refine b8 (fun h=>?_) (fun h=>?_)
 ·have:l=[]:=by simpa using h
  subst this;exact dt
 have hm:=mm hl (by omega);have bO:l≠[]:=by rintro rfl;exact absurd h (by decide)
 have jF:=adW bO;have hJ:((144:Nat):Int) * (l.length:Int)≤281474976710656∧(l.length:Int)≤9223372036854775807:=by unfold maxLen at hm;omega
 rw[jF];exact El h hJ ss jF
theorem agN (l:List (List (List AV))) (hl:l.length * 24≤140737488355328):aR Tryz.prog 125 [.ro 1 (l.map oX)] (.au 0 0 [] 1 0 l.length) [([],⟨1,l.map oX,dx (l.map oX),false⟩)]:=by
 refine aA Dn false Tryz.f125 ?_;conv=>enter[1];reduce
 refine bf Tryz.f125 14 [.tmp 2] (by kernel_rfl) (by decide +kernel) rfl ?_;have ss:=Xm l;refine aw ?_;refine b8 (fun h=>?_) (fun h=>?_)
 ·have:l=[]:=by simpa using h
  subst this;exact dt
 have hm:=mm hl (by omega);have bO:l≠[]:=by rintro rfl;exact absurd h (by decide)
 have jF:=adY bO;have hJ:((24:Nat):Int) * (l.length:Int)≤281474976710656∧(l.length:Int)≤9223372036854775807:=by unfold maxLen at hm;omega
 rw[jF];exact El h hJ ss jF
theorem ahh (l:List Bool):fp 1 (l.map dq)=true:=by
 induction l with
 | nil=>rfl
 | cons a l ih=>simp only[List.map_cons,fp,ih,dq];rfl
theorem ahi (l:List Bool):dx (l.map dq)=2:=by
 induction l with
 | nil=>rfl
 | cons a l ih=>simp only[List.map_cons,dx,ih,dq];rfl
attribute [go_sem] ahh ahi
theorem agO (l:List Bool) (hl:l.length * 1≤140737488355328):aR Tryz.prog 124 [.ro 1 (l.map dq)] (.au 0 0 [] 1 0 l.length) [([],⟨1,l.map dq,2,false⟩)]:=by
 refine aA Dn false Tryz.f124 ?_;conv=>enter[1];reduce
 refine bf Tryz.f124 14 [.tmp 2] (by kernel_rfl) (by decide +kernel) rfl ?_;refine aw ?_;refine b8 (fun h=>?_) (fun h=>?_)
 ·have:l=[]:=by simpa using h
  subst this;exact dt
 have hm:=mm hl (by omega);have hJ:((1:Nat):Int) * (l.length:Int)≤281474976710656∧(l.length:Int)≤9223372036854775807:=by unfold maxLen at hm;omega
 exact rN h hJ
theorem Hp {P:Program}{n sz fl:Nat}{es:List (List AV)}(fA:1≤fl) (h:aR P n [.ro sz es] (.au 0 0 [] sz 0 es.length) [([],⟨sz,es,fl,false⟩)]):bb P n [] [.ro sz es] (.ro sz es) []:=by
 have hf:∃σ,jg (kK [([],⟨sz,es,fl,false⟩)]) (.au 0 0 [] sz 0 es.length)=some (σ,.ro sz es):=by
  have h:(jg (kK [([],⟨sz,es,fl,false⟩)]) (.au 0 0 [] sz 0 es.length)).map (fun x=>x.2)=some (.ro sz es):=by
   simp -implicitDefEqProofs only[go_sem,jg,kK,lX,sub,decide_eq_true fA]
  obtain⟨⟨σ,v⟩,h1,h2⟩:=cJ h;cases h2;exact⟨σ,h1⟩
 obtain⟨σ,hf⟩:=hf;exact h.val rfl hf
def T6:bX:=⟨[],[9,10,11],[24,26,30,44,47,50,51,52,57,58,59,62,76,88,138,185,186,187,253,254,297,311],false⟩
theorem YE {A B:List aJ}(h:A.length+B.length≤1000000000000):(A.map aJ.aO++B.map aJ.aO).length≤maxLen∧(A.map aJ.aO++B.map aJ.aO).length * 40≤140737488355328:=du (E:=aJ.aO) (b:=40) (n:=1000000000000) (by simpa using h) (by omega) (by omega)
def EL (l:List aJ):List AV:=[.ro 4 (l.map aJ.aO)]
def lO (L:List (List aJ)):List aJ:=L.flatten
theorem afd (L:List (List aJ)) {i:Nat}(h:i<L.length):lO (L.take (i+1))=lO (L.take i)++L[i]:=by
 unfold lO;rw[List.take_succ_eq_append_getElem h,List.flatten_append];congr 1;exact List.append_nil _
theorem afe (L:List (List aJ)) (i:Nat):(lO (L.take i)).length≤(lO L).length:=by
 have:lO L=lO (L.take i)++lO (L.drop i):=by
  unfold lO;rw[←List.flatten_append,List.take_append_drop]
 rw[this,List.length_append];omega
theorem afx (L:List (List aJ)) (hL:L.length≤10) (hT:(lO L).length≤1000000000000):aR Tryz.prog 68 [.ro 1 (L.map EL)] (.au 0 0 [] 4 0 (lO L).length) [([],⟨4,(lO L).map aJ.aO,2,false⟩)]:=by
 refine aA T6 false Tryz.f68 ?_;conv=>enter[1];reduce
 refine bf Tryz.f68 17 [.tmp 2] (by kernel_rfl) (by decide +kernel) rfl ?_;have hm:L.length≤maxLen:=by unfold maxLen;omega
 refine aw ?_;refine jX [(3,4)] (fun m z=>∃(i:Nat),i≤L.length∧m=L.length - i∧z=⟨17,[(3,.au 3 0 [] 4 0 (lO (L.take i)).length),(6,.ro 1 (L.map EL)),(7,vI L.length),(8,vI i)],[(3,0,one ⟨4,(lO (L.take i)).map aJ.aO,2,false⟩)],1⟩) L.length ?_ ?_
 ·refine aw ?_;exact⟨0,aQ _,rfl,rfl⟩
 rintro m z ⟨i,hi,rfl,rfl⟩;rcases bm i L.length with ab|bH
 ·have ae:(i:Int)<(L.length:Int):=by omega
  have hg:L[i]?=some L[i]:=bz ab;have hw:=df ab hm;have jr:=afd L ab;have hle:=afe L (i+1);rw[jr,List.length_append]at hle;have ej:=YE (A:=lO (L.take i)) (B:=L[i]) (by omega);generalize L[i]=y at *;generalize lO (L.take i)=R at *;simp -implicitDefEqProofs only[go_sem,ae,hg,EL,hw,ej];refine⟨_,by omega,i+1,ab,rfl,?_⟩;rw[jr];simp only[List.map_append,List.length_append,List.length_map];try rfl
 have hi:i=L.length:=by omega
 cases hi;have ae:¬((L.length:Int)<(L.length:Int)):=by omega
 rw[List.take_length];generalize lO L=R at *;exact er ae
theorem MI (A B:List aJ) (hT:A.length+B.length≤1000000000000):aR Tryz.prog 68 [.ro 1 [[.ro 4 (A.map aJ.aO)],[.ro 4 (B.map aJ.aO)]]] (.au 0 0 [] 4 0 (A++B).length) [([],⟨4,(A++B).map aJ.aO,2,false⟩)]:=by
 have:=afx [A,B] (by simp) (by simpa[lO]using hT)
 simpa[lO,EL]using this
theorem O3 (l:List aJ) {i:Nat}(h:i<l.length):l.take (i+1)=l.take i++[l[i]]:=List.take_succ_eq_append_getElem h
theorem MJ (A B:List aJ) (hT:A.length+B.length≤1000000000000):aR Tryz.prog 66 [.ro 4 (A.map aJ.aO),.ro 4 (B.map aJ.aO)] (.au 0 0 [] 4 0 (A++B).length) [([],⟨4,(A++B).map aJ.aO,2,false⟩)]:=by
 refine aA T6 false Tryz.f66 ?_;conv=>enter[1];reduce
 refine bf Tryz.f66 36 [.tmp 4] (by kernel_rfl) (by decide +kernel) rfl ?_;have hmA:A.length≤maxLen:=by unfold maxLen;omega
 have Cy:B.length≤maxLen:=by unfold maxLen;omega
 refine aw ?_;refine cR (fun m z=>∃(i:Nat),i≤A.length∧m=A.length - i∧z=⟨36,[(0,.ro 4 (A.map aJ.aO)),(1,.ro 4 (B.map aJ.aO)),(5,.au 5 0 [] 4 0 (A.take i).length),(6,vI i)],[(5,0,one ⟨4,(A.take i).map aJ.aO,2,false⟩)],1⟩) A.length ?_ ?_
 ·refine aw ?_;exact⟨0,aQ _,rfl,rfl⟩
 rintro m z ⟨i,hi,rfl,rfl⟩;rcases bm i A.length with ab|bH
 ·have ae:(i:Int)<(A.length:Int):=by omega
  have hg:A[i]?=some A[i]:=bz ab;have hw:=df ab hmA;have jr:=O3 A ab;have ej:∀x,_:=fun x=>du (E:=aJ.aO) (l:=A.take i) (xs:=[x]) (b:=40) (n:=1000000000000) (by simp;omega) (by omega) (by omega)
  generalize A[i]=y at *;generalize A.take i=R at *;refine eI ae hg hw ej ?_;refine⟨_,by omega,i+1,ab,rfl,?_⟩;rw[jr];simp only[gj,aJ.aO];try rfl
 have hi:i=A.length:=by omega
 cases hi;have ae:¬((A.length:Int)<(A.length:Int)):=by omega
 rw[List.take_length];refine aC ae ?_;refine cR (fun m z=>∃(i:Nat),i≤B.length∧m=B.length - i∧z=⟨36,[(1,.ro 4 (B.map aJ.aO)),(5,.au 5 0 [] 4 0 (A++B.take i).length),(7,vI i)],[(5,0,one ⟨4,(A++B.take i).map aJ.aO,2,false⟩)],1⟩) B.length ?_ ?_
 ·refine aw ?_;exact⟨0,aQ _,rfl,by simp⟩
 rintro m z ⟨i,hi,rfl,rfl⟩;rcases bm i B.length with ab|bH
 ·have ae:(i:Int)<(B.length:Int):=by omega
  have hg:B[i]?=some B[i]:=bz ab;have hw:=df ab Cy;have jr:=O3 B ab;have ej:∀x,_:=fun x=>du (E:=aJ.aO) (l:=A++B.take i) (xs:=[x]) (b:=40) (n:=1000000000000) (by simp;omega) (by omega) (by omega)
  generalize B[i]=y at *;generalize hR:B.take i=R at *;have h5:A++(R++[y])=(A++R)++[y]:=by simp
  generalize A++R=Q at *;refine eI ae hg hw ej ?_;refine⟨_,by omega,i+1,ab,rfl,?_⟩;rw[jr,h5];simp only[gj,aJ.aO];try rfl
 have hi:i=B.length:=by omega
 cases hi;have ae:¬((B.length:Int)<(B.length:Int)):=by omega
 rw[List.take_length];generalize A++B=R at *;exact er ae
end Go.Proofs.YtobpfkgabdeefaaGreat.E
