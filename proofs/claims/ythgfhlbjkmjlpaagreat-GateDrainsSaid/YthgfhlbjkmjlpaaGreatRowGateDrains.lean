import Derived.Test.YthgfhlbjkmjlpaaGreatRows
import Derived.Test.YthgfhlbjkmjlpaaGreatGDoGateDrains
import Derived.Test.YthgfhlbjkmjlpaaGreatPureGateDrains
import Derived.WalkKit
import Derived.ProofKit
import Derived.OpenShut
import Derived.ShutString
import Derived.ChangeOld
import Derived.Below
import Derived.SizedLaws
namespace Go.Proofs.YthgfhlbjkmjlpaaGreat.gateDrains
open Go.ChangeShapes Go.WideShapes Go.ChangeAt Go.RowKit
open Go.ChangeMaps (open_string shut_string)
set_option linter.unusedVariables false
theorem own:ownKnob Tryz.prog.godebug=none:=by kernel_rfl
theorem laidOut:laidOutB Tryz.prog=true:=by kernel_rfl
set_option maxRecDepth 100000 in
theorem lifted(os:Os)(started:os.Started)(H:Type)(enc:TypeId × Value->H):
  ReturnsInHanded {} Tryz.checked os 9 .any (Rows.gateDrainsSpec.pre6 enc Tryz.prog Tryz.f9 Rows.gateDrainsRow.domain false) (Rows.gateDrainsSpec.post enc Tryz.prog Tryz.f9 false true false false):=by
 refine returnsInHanded_of_change_sized (C:=Tryz.checked) own started (by kernel_rfl) Tryz.func9
  (ChangeSpec.witness6 (enc:=enc) (C:=Tryz.checked) false ⟨#[],#[.agg #[.int .i64 0,.int .i64 0,.int .i64 0,.int .i64 0,.slice none 0 0,.slice none 0 0,.slice none 0 0],.agg #[.int .i64 0,.int .i64 0,.int .i64 0,.int .i64 0,.int .i64 0]],[]⟩ 8 (by kernel_rfl) (by kernel_rfl) (by kernel_rfl) (by kernel_rfl)) ?_
 intro W base args ds gs before hval0 hW hcnd hsz0 _
 have hsz:(DataW.weightsEach Tryz.prog (Tryz.f9.params.toList++Rows.gateDrainsSpec.plain.varTypes Tryz.prog) (ds++gs)).all (·<=reachBytes)=true:=hsz0
 have hval:∀(j:Nat) t v,Tryz.f9.params[j]? = some t->args[j]? = some v->Value.okWide Tryz.prog W .any base t v:=hval0
 have hW':=hW
 obtain ⟨p,q,hA0,hV,rfl,hfz,hnd⟩:=hW
 have hA:DataW.TrodAll enc Tryz.prog W 0 (fun _=>true) true Tryz.f9.params.toList args.toList ds p:=hA0
 rw [Tryz.params9]at hA hval hsz
 obtain ⟨v0,vs0,d0,ds0,p0,q0,hargs,rfl,rfl,h0,r0⟩:=trodAll_cons hA
 obtain ⟨v1,vs1,d1,ds1,p1,q1,rfl,rfl,rfl,h1,r1⟩:=trodAll_cons r0
 obtain ⟨rfl,rfl,rfl⟩:=trodAll_nil r1
 obtain rfl:args = #[v0,v1]:=by cases args; simp_all
 obtain ⟨rfl,rfl⟩:=trodVars_none hV
 obtain ⟨cs0,rfl,_⟩:=okWide_struct Tryz.underlying26 (hval 0 26 v0 rfl rfl)
 have k0:=h0
 have lt0:∀ x ∈ p0,x.block<W.heap.size:=by obtain ⟨m,hm⟩:=k0; exact DataW.trod_lt m _ _ _ hm
 obtain ⟨s0,⟨A0_4,c0_4,A0_5,c0_5,A0_6,c0_6,e0,g0_4,g0_5,g0_6⟩,w0⟩:=Sl.open_struct (GD.opens26 W) h0
 obtain ⟨cl0⟩:=cs0
 change cl0=_ at e0
 subst e0
 obtain ⟨cs1,rfl,_⟩:=okWide_struct Tryz.underlying65 (hval 1 65 v1 rfl rfl)
 have k1:=h1
 have lt1:∀ x ∈ p1,x.block<W.heap.size:=by obtain ⟨m,hm⟩:=k1; exact DataW.trod_lt m _ _ _ hm
 obtain ⟨s1,e1,w1⟩:=Sl.open_struct (GD.opens65 W) h1
 obtain ⟨cl1⟩:=cs1
 change cl1=_ at e1
 subst e1
 clear hA0 hval0 hsz0 hsz
 obtain ⟨k,hp⟩:=GD.pureGateDrains s0 s1 w0 w1
 refine (GD.qN.calls k s0 s1 _ _ _ _ _ _ true W W (Sl.Sub.refl _) g0_4 g0_5 g0_6 hp).mono fun e W' ⟨_,he,hQ⟩=>?_
 obtain ⟨_,rfl,hS⟩:=hQ
 have bel:=hS.below
 subst he
 exact ⟨_,rfl,_,_,_,[],_,[],hW',trodAll_mk1 (shut_bool Tryz.underlying4 _),(trodAll_cons_mk (Below.trod laidOut (by kernel_rfl) (of_decide_eq_true (by kernel_rfl)) k0 bel lt0) (trodAll_cons_mk (Below.trod laidOut (by kernel_rfl) (of_decide_eq_true (by kernel_rfl)) k1 bel lt1) trodAll_mk0)),rfl,bel.frame _,fun h=>by cases h⟩
theorem andI{a b:Bool}(h:a=true)(k:b=true):(a&&b)=true:=by rw [h,k]; rfl
theorem nm:Tryz.pinned.checked.prog.funcNamed Rows.gateDrainsRow.func=some 9:=by kernel_rfl
set_option maxHeartbeats 4000000 in
theorem facts:joinedFacts Tryz.pinned.checked.prog 9 Tryz.f9 Rows.gateDrainsSpec Rows.gateDrainsRow=true:=by
 unfold joinedFacts
 repeat' with_reducible refine andI ?_ ?_
 all_goals as_aux_lemma=>kernel_rfl
theorem wrapper:Tryz.f9.isWrapper Tryz.pinned.checked.prog Rows.gateDrainsRow.wrapper Rows.gateDrainsRow.mainSum:=by unfold Func.isWrapper; first | (rw [if_pos (by decide +kernel)]; kernel_rfl) | (rw [if_neg (by decide +kernel)]; exact ⟨rfl,rfl⟩)
theorem over:Rows.gateDrainsRow.holds Tryz.pinned (OpenSpec.ofChange Rows.gateDrainsSpec) :=
 OpenClaim.holds_of_wide 9 Tryz.f9 rfl rfl rfl rfl rfl rfl rfl ⟨rfl,rfl,rfl,rfl,rfl⟩ rfl rfl rfl rfl rfl nm Tryz.func9 facts
  (of_decide_eq_true (by kernel_rfl)) wrapper
  fun os started H enc _=>lifted os started H enc
theorem proved:Rows.GateDrainsSaid:=over
#print axioms proved
end Go.Proofs.YthgfhlbjkmjlpaaGreat.gateDrains
namespace Go.Proofs.YthgfhlbjkmjlpaaGreat
theorem gateDrains_holds:Rows.GateDrainsSaid:=gateDrains.proved
end Go.Proofs.YthgfhlbjkmjlpaaGreat
