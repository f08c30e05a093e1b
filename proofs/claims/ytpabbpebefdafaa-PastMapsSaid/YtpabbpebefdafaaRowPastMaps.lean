import Derived.Test.YtpabbpebefdafaaRows
import Derived.Test.YtpabbpebefdafaaPMoPastMaps
import Derived.Test.YtpabbpebefdafaaPurePastMaps
import Derived.WalkKit
import Derived.ProofKit
import Derived.OpenShut
import Derived.ShutString
import Derived.ChangeOld
import Derived.Below
import Derived.SizedLaws
namespace Go.Proofs.Ytpabbpebefdafaa.pastMaps
open Go.ChangeShapes Go.WideShapes Go.ChangeAt Go.RowKit
open Go.ChangeMaps (open_string shut_string)
set_option linter.unusedVariables false
theorem own:ownKnob Try.prog.godebug=none:=by kernel_rfl
theorem laidOut:laidOutB Try.prog=true:=by kernel_rfl
set_option maxRecDepth 100000 in
theorem lifted(os:Os)(started:os.Started)(H:Type)(enc:TypeId × Value→H):
  ReturnsInHanded {} Try.checked os 5 .any (Rows.pastMapsSpec.pre6 enc Try.prog Try.f5 Rows.pastMapsRow.domain false) (Rows.pastMapsSpec.post enc Try.prog Try.f5 false true false false):=by
 refine returnsInHanded_of_change_sized (C:=Try.checked) own started (by kernel_rfl) Try.func5
  (ChangeSpec.witness6 (enc:=enc) (C:=Try.checked) false ⟨#[],#[.agg #[.int .i64 0,.int .i64 0,.int .i64 0,.int .i64 0,.slice none 0 0,.slice none 0 0,.slice none 0 0]],[]⟩ 8 (by kernel_rfl) (by kernel_rfl) (by kernel_rfl) (by kernel_rfl)) ?_
 intro W base args ds gs before hval0 hW hcnd hsz0 _
 have hsz:(DataW.weightsEach Try.prog (Try.f5.params.toList++Rows.pastMapsSpec.plain.varTypes Try.prog) (ds++gs)).all (·≤reachBytes)=true:=hsz0
 have hval:∀(j:Nat) t v,Try.f5.params[j]? = some t→args[j]? = some v→Value.okWide Try.prog W .any base t v:=hval0
 have hW':=hW
 obtain ⟨p,q,hA0,hV,rfl,hfz,hnd⟩:=hW
 have hA:DataW.TrodAll enc Try.prog W 0 (fun _=>true) true Try.f5.params.toList args.toList ds p:=hA0
 rw [Try.params5]at hA hval hsz
 obtain ⟨v0,vs0,d0,ds0,p0,q0,hargs,rfl,rfl,h0,r0⟩:=trodAll_cons hA
 obtain ⟨rfl,rfl,rfl⟩:=trodAll_nil r0
 obtain rfl:args = #[v0]:=by cases args; simp_all
 obtain ⟨rfl,rfl⟩:=trodVars_none hV
 obtain ⟨cs0,rfl,_⟩:=okWide_struct Try.underlying65 (hval 0 65 v0 rfl rfl)
 have k0:=h0
 have lt0:∀ x ∈ p0,x.block<W.heap.size:=by obtain ⟨m,hm⟩:=k0; exact DataW.trod_lt m _ _ _ hm
 obtain ⟨s0,⟨A0_4,c0_4,A0_5,c0_5,A0_6,c0_6,e0,g0_4,g0_5,g0_6⟩,w0⟩:=Sl.open_struct (PM.opens65 W) h0
 obtain ⟨cl0⟩:=cs0
 change cl0=_ at e0
 subst e0
 clear hA0 hval0 hsz0 hsz
 obtain ⟨k,hp⟩:=PM.purePastMaps s0 w0
 refine (PM.qo.calls k s0 _ _ _ _ _ _ true W W (Sl.Sub.refl _) g0_4 g0_5 g0_6 hp).mono fun e W' ⟨_,he,hQ⟩=>?_
 obtain ⟨_,rfl,hS⟩:=hQ
 have bel:=hS.below
 subst he
 exact ⟨_,rfl,_,_,_,[],_,[],hW',trodAll_mk1 (shut_bool Try.underlying4 _),(trodAll_cons_mk (Below.trod laidOut (by kernel_rfl) (of_decide_eq_true (by kernel_rfl)) k0 bel lt0) trodAll_mk0),rfl,bel.frame _,fun h=>by cases h⟩
theorem andI{a b:Bool}(h:a=true)(k:b=true):(a&&b)=true:=by rw [h,k]; rfl
theorem nm:Try.pinned.checked.prog.funcNamed Rows.pastMapsRow.func=some 5:=by kernel_rfl
set_option maxHeartbeats 4000000 in
theorem facts:joinedFacts Try.pinned.checked.prog 5 Try.f5 Rows.pastMapsSpec Rows.pastMapsRow=true:=by
 unfold joinedFacts
 repeat' with_reducible refine andI ?_ ?_
 all_goals as_aux_lemma=>kernel_rfl
theorem wrapper:Try.f5.isWrapper Try.pinned.checked.prog Rows.pastMapsRow.wrapper Rows.pastMapsRow.mainSum:=by unfold Func.isWrapper; first | (rw [if_pos (by decide +kernel)]; kernel_rfl) | (rw [if_neg (by decide +kernel)]; exact ⟨rfl,rfl⟩)
theorem over:Rows.pastMapsRow.holds Try.pinned (OpenSpec.ofChange Rows.pastMapsSpec) :=
 OpenClaim.holds_of_wide 5 Try.f5 rfl rfl rfl rfl rfl rfl rfl ⟨rfl,rfl,rfl,rfl,rfl⟩ rfl rfl rfl rfl rfl nm Try.func5 facts
  (of_decide_eq_true (by kernel_rfl)) wrapper
  (fun os started H enc _=>lifted os started H enc)
theorem proved:Rows.PastMapsSaid:=over
#print axioms proved
end Go.Proofs.Ytpabbpebefdafaa.pastMaps
namespace Go.Proofs.Ytpabbpebefdafaa
theorem pastMaps_holds:Rows.PastMapsSaid:=pastMaps.proved
end Go.Proofs.Ytpabbpebefdafaa
