/- FnWorldBounds: for every input the law returns true, and the input reads as it did. No condition. -/
import Derived.Test.YtobpfkgabdeefaaGreatQ47
import Derived.Test.YtobpfkgabdeefaaGreatRows
namespace Go.Proofs.YtobpfkgabdeefaaGreat.fnWorldBounds
open Go.ChangeShapes Go.WideShapes Go.ChangeAt Go.RowKit E
set_option linter.unusedVariables false
theorem own:ownKnob Tryz.prog.godebug=none:=by kernel_rfl
theorem laidOut:laidOutB Tryz.prog=true:=by kernel_rfl
set_option maxRecDepth 100000 in
theorem lifted (os:Os) (started:os.Started) (H:Type) (enc:TypeId × Value->H):
  ReturnsInHanded {} Tryz.checked os 7 .any (Rows.fnWorldBoundsSpec.pre6 enc Tryz.prog Tryz.f7 Rows.fnWorldBoundsRow.domain false) (Rows.fnWorldBoundsSpec.post enc Tryz.prog Tryz.f7 false true false false):=by
 refine returnsInHanded_of_change_sized (C:=Tryz.checked) own started (by kernel_rfl) Tryz.func7
  (ChangeSpec.witness6 (enc:=enc) (C:=Tryz.checked) false ⟨#[],#[.slice none 0 0],[]⟩ 8 (by kernel_rfl) (by kernel_rfl) (by kernel_rfl) (by kernel_rfl)) ?_
 intro W base args ds gs before acT hW aiX aiP _
 have So:∀(j:Nat) t v,Tryz.f7.params[j]?=some t->args[j]?=some v->Value.okWide Tryz.prog W .any base t v:=acT
 have hW':=hW
 obtain⟨p,q,hA0,hV,rfl,iG,Cw⟩:=hW
 have hA:DataW.TrodAll enc Tryz.prog W 0 (fun _=>true) true Tryz.f7.params.toList args.toList ds p:=hA0
 rw[Tryz.params7]at hA So
 obtain⟨v0,Om,d0,ds0,p0,q0,fL,rfl,rfl,h0,r0⟩:=trodAll_cons hA
 obtain⟨rfl,rfl,rfl⟩:=trodAll_nil r0
 obtain rfl:args=#[v0]:=by cases args;simp_all
 obtain⟨rfl,rfl⟩:=trodVars_none hV
 have lt0:∀x∈p0,x.block<W.heap.size:=by obtain⟨m,hm⟩:=h0;exact DataW.trod_lt m _ _ _ hm
 obtain⟨ad0,aiL,ajH,rfl⟩:=okWide_slice Tryz.underlying44 (So 0 44 v0 rfl rfl)
 obtain⟨a0,w0,x0⟩:=aaE aaP rfl h0
 refine(afx ((afK a0 w0.2)) (PW.cons x0 PW.nil)).mono fun e W' ⟨he,Wi⟩=>?_
 subst he
 exact⟨_,rfl,_,_,_,[],_,[],hW',trodAll_mk1 (shut_bool Tryz.underlying4 _),(trodAll_cons_mk (Below.trod laidOut (by kernel_rfl) (of_decide_eq_true (by kernel_rfl)) h0 Wi lt0) trodAll_mk0),rfl,Wi.frame _,fun h=>by cases h⟩
theorem jf0:laidOutB Tryz.pinned.checked.prog=true:=by kernel_rfl
theorem jf1:mapsRowed Tryz.pinned.checked.prog=true:=by kernel_rfl
theorem jf2:(Rows.fnWorldBoundsRow.inPlace==(Tryz.pinned.checked.prog).inPlace 7)=true:=by kernel_rfl
theorem jf3:(Rows.fnWorldBoundsRow.unfollowed==(Tryz.pinned.checked.prog).unfollowed 7)=true:=by kernel_rfl
theorem jf4:(Rows.fnWorldBoundsRow.recurses==(Tryz.pinned.checked.prog).recurses 7)=true:=by kernel_rfl
theorem jf5:(Rows.fnWorldBoundsRow.named==(Tryz.pinned.checked.prog).varsNamed 7)=true:=by kernel_rfl
theorem jf6:(Tryz.pinned.checked.prog).stopsHeard=true:=by kernel_rfl
theorem jf7:(Tryz.pinned.checked.prog).mayEnter=true:=by kernel_rfl
theorem jf8:(Rows.fnWorldBoundsRow.lifted==(Tryz.pinned.checked.prog).liftsFinal)=true:=by kernel_rfl
theorem jf9:(Rows.fnWorldBoundsRow.plainKeys==(Tryz.pinned.checked.prog).plainKeys)=true:=by kernel_rfl
theorem closed:joinedFacts Tryz.pinned.checked.prog 7 Tryz.f7 Rows.fnWorldBoundsSpec Rows.fnWorldBoundsRow=true:=by
 unfold joinedFacts
 rw[jf0,jf1,jf2,jf3,jf4,jf5,jf6,jf7,jf8,jf9]
 kernel_rfl
theorem Fs:Rows.fnWorldBoundsRow.holds Tryz.pinned (OpenSpec.ofChange Rows.fnWorldBoundsSpec):=
 OpenClaim.holds_of_wide 7 Tryz.f7 rfl rfl rfl rfl rfl rfl rfl ⟨rfl,rfl,rfl,rfl,rfl⟩ rfl rfl rfl rfl rfl (by kernel_rfl) Tryz.func7
  closed (of_decide_eq_true (by kernel_rfl)) (by unfold Func.isWrapper;first|(rw[if_pos (by decide +kernel)];kernel_rfl)|(rw[if_neg (by decide +kernel)];exact⟨rfl,rfl⟩))
  (fun os started H enc _=>lifted os started H enc)
end Go.Proofs.YtobpfkgabdeefaaGreat.fnWorldBounds
namespace Go.Proofs.YtobpfkgabdeefaaGreat
theorem fnWorldBounds_holds:Rows.FnWorldBoundsSaid:=fnWorldBounds.Fs
#print axioms fnWorldBounds_holds
end Go.Proofs.YtobpfkgabdeefaaGreat
