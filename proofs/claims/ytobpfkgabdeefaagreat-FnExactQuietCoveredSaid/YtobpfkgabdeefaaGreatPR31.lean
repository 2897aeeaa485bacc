/- FnExactQuietCovered: for every input the law returns true, and the input reads as it did. No condition. -/
import Derived.Test.YtobpfkgabdeefaaGreatP46
import Derived.Test.YtobpfkgabdeefaaGreatRows
namespace Go.Proofs.YtobpfkgabdeefaaGreat.E
open Go Go.RowKit
theorem fM:gC Tryz.prog 3 1 (fun n:Int=>[vI n]) (fun n=>(Lit.int .i64 n).wf=true):=Fo Tryz.underlying3 (by kernel_rfl)
theorem wV:gC Tryz.prog 9 1 (fun n:ByteArray=>[.sc (.string n)]) (fun n=>n.size≤maxLen):=Fl Tryz.underlying9 (by kernel_rfl)
theorem wY:gC Tryz.prog 23 5 cK.cs (fun _=>True):=
 (uS Tryz.underlying23 (by kernel_rfl) (by kernel_rfl) (fE fM (fE fM (fE fM (fE fM (fE fM uT)))))).map
  (fun x=>(⟨x.1,x.2.1,x.2.2.1,x.2.2.2.1,x.2.2.2.2.1⟩:cK)) _ _ (fun s=>⟨rfl,by simp[gE,cK.cs]⟩) (fun _=>rfl) (fun _ _=>trivial)
theorem wX:gC Tryz.prog 97 4 aJ.aO (fun s=>s.text.size≤maxLen):=
 (uS Tryz.underlying97 (by kernel_rfl) (by kernel_rfl) (fE fM (fE fM (fE fM (fE wV uT))))).map
  (fun x=>(⟨x.1,x.2.1,x.2.2.1,x.2.2.2.1⟩:aJ)) _ _ (fun s=>⟨rfl,by simp[gE,aJ.aO]⟩) (fun _=>rfl) (fun _ h=>h.2.2.2.1)
theorem wW:gC Tryz.prog 24 1 (fun l:List aJ=>[.ro 4 (l.map aJ.aO)]) (fun l=>(∀s∈l,s.text.size≤maxLen)∧l.length≤maxLen):=
 Fm Tryz.underlying24 (by kernel_rfl) wX (by decide)
end Go.Proofs.YtobpfkgabdeefaaGreat.E
namespace Go.Proofs.YtobpfkgabdeefaaGreat.fnExactQuietCovered
open Go.ChangeShapes Go.WideShapes Go.ChangeAt Go.RowKit E
set_option linter.unusedVariables false
theorem own:ownKnob Tryz.prog.godebug=none:=by kernel_rfl
theorem laidOut:laidOutB Tryz.prog=true:=by kernel_rfl
set_option maxRecDepth 100000 in
theorem lifted (os:Os) (started:os.Started) (H:Type) (enc:TypeId × Value→H):
  ReturnsInHanded {} Tryz.checked os 5 .any (Rows.fnExactQuietCoveredSpec.pre6 enc Tryz.prog Tryz.f5 Rows.fnExactQuietCoveredRow.domain false) (Rows.fnExactQuietCoveredSpec.post enc Tryz.prog Tryz.f5 false true false false):=by
 refine returnsInHanded_of_change_sized (C:=Tryz.checked) own started (by kernel_rfl) Tryz.func5
  (ChangeSpec.witness6 (enc:=enc) (C:=Tryz.checked) false ⟨#[],#[.agg #[.int .i64 0,.int .i64 0,.int .i64 0,.int .i64 0,.int .i64 0],.slice none 0 0],[]⟩ 8 (by kernel_rfl) (by kernel_rfl) (by kernel_rfl) (by kernel_rfl)) ?_
 intro W base args ds gs before xN hW LA KO _
 have nM:∀(j:Nat) t v,Tryz.f5.params[j]?=some t→args[j]?=some v→Value.okWide Tryz.prog W .any base t v:=xN
 have yg:=hW
 obtain⟨p,q,yj,hV,rfl,gz,vm⟩:=hW
 have hA:DataW.TrodAll enc Tryz.prog W 0 (fun _=>true) true Tryz.f5.params.toList args.toList ds p:=yj
 rw[Tryz.params5]at hA nM
 obtain⟨v0,A9,d0,Mg,p0,q0,eY,rfl,rfl,h0,r0⟩:=trodAll_cons hA
 obtain⟨v1,qH,d1,Mf,p1,q1,rfl,rfl,rfl,h1,r1⟩:=trodAll_cons r0
 obtain⟨rfl,rfl,rfl⟩:=trodAll_nil r1
 obtain rfl:args=#[v0,v1]:=by cases args;simp_all
 obtain⟨rfl,rfl⟩:=trodVars_none hV
 have xp:∀x∈p0,x.block<W.heap.size:=by obtain⟨m,hm⟩:=h0;exact DataW.trod_lt m _ _ _ hm
 obtain⟨NG,rfl,-⟩:=okWide_struct Tryz.underlying23 (nM 0 23 v0 rfl rfl)
 obtain⟨a0,w0,x0⟩:=Fq wY h0
 have xo:∀x∈p1,x.block<W.heap.size:=by obtain⟨m,hm⟩:=h1;exact DataW.trod_lt m _ _ _ hm
 obtain⟨NQ,Ks,MD,rfl⟩:=okWide_slice Tryz.underlying24 (nM 1 24 v1 rfl rfl)
 obtain⟨a1,w1,x1⟩:=Fp wW rfl h1
 refine(Hu (afC a0 a1 w1.2) (PW.cons x0 (PW.cons x1 PW.nil))).mono fun e W' ⟨he,oa⟩=>?_
 subst he
 exact⟨_,rfl,_,_,_,[],_,[],yg,trodAll_mk1 (shut_bool Tryz.underlying4 _),(trodAll_cons_mk (Below.trod laidOut (by kernel_rfl) (of_decide_eq_true (by kernel_rfl)) h0 oa xp) (trodAll_cons_mk (Below.trod laidOut (by kernel_rfl) (of_decide_eq_true (by kernel_rfl)) h1 oa xo) trodAll_mk0)),rfl,oa.frame _,fun h=>by cases h⟩
theorem xE:laidOutB Tryz.pinned.checked.prog=true:=by kernel_rfl
theorem xD:mapsRowed Tryz.pinned.checked.prog=true:=by kernel_rfl
theorem xC:(Rows.fnExactQuietCoveredRow.inPlace==(Tryz.pinned.checked.prog).inPlace 5)=true:=by kernel_rfl
theorem xB:(Rows.fnExactQuietCoveredRow.unfollowed==(Tryz.pinned.checked.prog).unfollowed 5)=true:=by kernel_rfl
theorem xA:(Rows.fnExactQuietCoveredRow.recurses==(Tryz.pinned.checked.prog).recurses 5)=true:=by kernel_rfl
theorem xz:(Rows.fnExactQuietCoveredRow.named==(Tryz.pinned.checked.prog).varsNamed 5)=true:=by kernel_rfl
theorem xy:(Tryz.pinned.checked.prog).stopsHeard=true:=by kernel_rfl
theorem xx:(Tryz.pinned.checked.prog).mayEnter=true:=by kernel_rfl
theorem xw:(Rows.fnExactQuietCoveredRow.lifted==(Tryz.pinned.checked.prog).liftsFinal)=true:=by kernel_rfl
theorem xv:(Rows.fnExactQuietCoveredRow.plainKeys==(Tryz.pinned.checked.prog).plainKeys)=true:=by kernel_rfl
theorem closed:joinedFacts Tryz.pinned.checked.prog 5 Tryz.f5 Rows.fnExactQuietCoveredSpec Rows.fnExactQuietCoveredRow=true:=by
 unfold joinedFacts
 rw[xE,xD,xC,xB,xA,xz,xy,xx,xw,xv]
 kernel_rfl
theorem rY:Rows.fnExactQuietCoveredRow.holds Tryz.pinned (OpenSpec.ofChange Rows.fnExactQuietCoveredSpec):=
 OpenClaim.holds_of_wide 5 Tryz.f5 rfl rfl rfl rfl rfl rfl rfl ⟨rfl,rfl,rfl,rfl,rfl⟩ rfl rfl rfl rfl rfl (by kernel_rfl) Tryz.func5
  closed (of_decide_eq_true (by kernel_rfl)) (by unfold Func.isWrapper;first|(rw[if_pos (by decide +kernel)];kernel_rfl)|(rw[if_neg (by decide +kernel)];exact⟨rfl,rfl⟩))
  (fun os started H enc _=>lifted os started H enc)
end Go.Proofs.YtobpfkgabdeefaaGreat.fnExactQuietCovered
namespace Go.Proofs.YtobpfkgabdeefaaGreat
theorem fnExactQuietCovered_holds:Rows.FnExactQuietCoveredSaid:=fnExactQuietCovered.rY
#print axioms fnExactQuietCovered_holds
end Go.Proofs.YtobpfkgabdeefaaGreat
