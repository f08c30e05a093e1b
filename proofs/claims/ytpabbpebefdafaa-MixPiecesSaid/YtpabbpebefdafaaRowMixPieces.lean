import Derived.Test.YtpabbpebefdafaaRows
import Derived.Test.YtpabbpebefdafaaMIoMixPieces
import Derived.Test.YtpabbpebefdafaaPureMixPieces
import Derived.WalkKit
import Derived.ProofKit
import Derived.OpenShut
import Derived.ShutString
import Derived.ChangeOld
import Derived.Below
import Derived.SizedLaws
namespace Go.Proofs.Ytpabbpebefdafaa.mixPieces
open Go.ChangeShapes Go.WideShapes Go.ChangeAt Go.RowKit
open Go.ChangeMaps (open_string shut_string)
set_option linter.unusedVariables false
theorem own:ownKnob Try.prog.godebug=none:=by kernel_rfl
theorem laidOut:laidOutB Try.prog=true:=by kernel_rfl
set_option maxRecDepth 100000 in
theorem lifted(os:Os)(started:os.Started)(H:Type)(enc:TypeId × Value→H):
  ReturnsInHanded {} Try.checked os 3 .any (Rows.mixPiecesSpec.pre6 enc Try.prog Try.f3 Rows.mixPiecesRow.domain false) (Rows.mixPiecesSpec.post enc Try.prog Try.f3 false true false false):=by
 refine returnsInHanded_of_change_sized (C:=Try.checked) own started (by kernel_rfl) Try.func3
  (ChangeSpec.witness6 (enc:=enc) (C:=Try.checked) false ⟨#[],#[.int .u64 0,.string (⟨#[]⟩:ByteArray),.agg #[.int .u64 0,.int .u64 0]],[]⟩ 8 (by kernel_rfl) (by kernel_rfl) (by kernel_rfl) (by kernel_rfl)) ?_
 intro W base args ds gs before hval0 hW hcnd hsz0 _
 have hsz:(DataW.weightsEach Try.prog (Try.f3.params.toList++Rows.mixPiecesSpec.plain.varTypes Try.prog) (ds++gs)).all (·≤reachBytes)=true:=hsz0
 have hval:∀(j:Nat) t v,Try.f3.params[j]? = some t→args[j]? = some v→Value.okWide Try.prog W .any base t v:=hval0
 have hW':=hW
 obtain ⟨p,q,hA0,hV,rfl,hfz,hnd⟩:=hW
 have hA:DataW.TrodAll enc Try.prog W 0 (fun _=>true) true Try.f3.params.toList args.toList ds p:=hA0
 rw [Try.params3]at hA hval hsz
 obtain ⟨v0,vs0,d0,ds0,p0,q0,hargs,rfl,rfl,h0,r0⟩:=trodAll_cons hA
 obtain ⟨v1,vs1,d1,ds1,p1,q1,rfl,rfl,rfl,h1,r1⟩:=trodAll_cons r0
 obtain ⟨v2,vs2,d2,ds2,p2,q2,rfl,rfl,rfl,h2,r2⟩:=trodAll_cons r1
 obtain ⟨rfl,rfl,rfl⟩:=trodAll_nil r2
 obtain rfl:args = #[v0,v1,v2]:=by cases args; simp_all
 obtain ⟨rfl,rfl⟩:=trodVars_none hV
 obtain ⟨s0,rfl,rfl,rfl,w0⟩:=open_int Try.underlying22 (hval 0 22 v0 rfl rfl) h0
 obtain ⟨s1,rfl,rfl,rfl,w1⟩:=open_string Try.underlying9 (hval 1 9 v1 rfl rfl) h1
 obtain ⟨cs2,rfl,_⟩:=Sl.okWide_array Try.underlying23 (hval 2 23 v2 rfl rfl)
 have k2:=h2
 have lt2:∀ x ∈ p2,x.block<W.heap.size:=by obtain ⟨m,hm⟩:=k2; exact DataW.trod_lt m _ _ _ hm
 obtain ⟨s2,e2,w2⟩:=Sl.open_struct (MI.opens23 W) h2
 obtain ⟨cl2⟩:=cs2
 change cl2=_ at e2
 subst e2
 clear hA0 hval0 hsz0 hsz
 obtain ⟨k,hp⟩:=MI.pureMixPieces s0 s1 s2 w0 w1 w2
 refine (MI.qC.calls k s0 s1 s2 true W W (Sl.Sub.refl _) hp).mono fun e W' ⟨_,he,hQ⟩=>?_
 obtain ⟨_,rfl,hS⟩:=hQ
 have bel:=hS.below
 subst he
 exact ⟨_,rfl,_,_,_,[],_,[],hW',trodAll_mk1 (shut_bool Try.underlying4 _),(trodAll_cons_mk (shut_int Try.underlying22 w0) (trodAll_cons_mk (shut_string Try.underlying9 w1) (trodAll_cons_mk (Below.trod laidOut (by kernel_rfl) (of_decide_eq_true (by kernel_rfl)) k2 bel lt2) trodAll_mk0))),rfl,bel.frame _,fun h=>by cases h⟩
theorem andI{a b:Bool}(h:a=true)(k:b=true):(a&&b)=true:=by rw [h,k]; rfl
theorem nm:Try.pinned.checked.prog.funcNamed Rows.mixPiecesRow.func=some 3:=by kernel_rfl
set_option maxHeartbeats 4000000 in
theorem facts:joinedFacts Try.pinned.checked.prog 3 Try.f3 Rows.mixPiecesSpec Rows.mixPiecesRow=true:=by
 unfold joinedFacts
 repeat' with_reducible refine andI ?_ ?_
 all_goals as_aux_lemma=>kernel_rfl
theorem wrapper:Try.f3.isWrapper Try.pinned.checked.prog Rows.mixPiecesRow.wrapper Rows.mixPiecesRow.mainSum:=by unfold Func.isWrapper; first | (rw [if_pos (by decide +kernel)]; kernel_rfl) | (rw [if_neg (by decide +kernel)]; exact ⟨rfl,rfl⟩)
theorem over:Rows.mixPiecesRow.holds Try.pinned (OpenSpec.ofChange Rows.mixPiecesSpec) :=
 OpenClaim.holds_of_wide 3 Try.f3 rfl rfl rfl rfl rfl rfl rfl ⟨rfl,rfl,rfl,rfl,rfl⟩ rfl rfl rfl rfl rfl nm Try.func3 facts
  (of_decide_eq_true (by kernel_rfl)) wrapper
  (fun os started H enc _=>lifted os started H enc)
theorem proved:Rows.MixPiecesSaid:=over
#print axioms proved
end Go.Proofs.Ytpabbpebefdafaa.mixPieces
namespace Go.Proofs.Ytpabbpebefdafaa
theorem mixPieces_holds:Rows.MixPiecesSaid:=mixPieces.proved
end Go.Proofs.Ytpabbpebefdafaa
