import Derived.Test.YthgfhlbjkmjlpaaGreatRows
import Derived.Test.YthgfhlbjkmjlpaaGreatGNoGateNext
import Derived.Test.YthgfhlbjkmjlpaaGreatPureGateNext
import Derived.WalkKit
import Derived.ProofKit
import Derived.OpenShut
import Derived.ShutString
import Derived.ChangeOld
import Derived.Below
import Derived.SizedLaws
namespace Go.Proofs.YthgfhlbjkmjlpaaGreat.gateNext
open Go.ChangeShapes Go.WideShapes Go.ChangeAt Go.RowKit
open Go.ChangeMaps (open_string shut_string)
set_option linter.unusedVariables false
theorem own:ownKnob Tryz.prog.godebug=none:=by kernel_rfl
theorem laidOut:laidOutB Tryz.prog=true:=by kernel_rfl
set_option maxRecDepth 100000 in
theorem lifted(os:Os)(started:os.Started)(H:Type)(enc:TypeId × Value→H):
  ReturnsInHanded {} Tryz.checked os 6 .any (Rows.gateNextSpec.pre6 enc Tryz.prog Tryz.f6 Rows.gateNextRow.domain false) (Rows.gateNextSpec.post enc Tryz.prog Tryz.f6 false true false false):=by
 refine returnsInHanded_of_change_sized (C:=Tryz.checked) own started (by kernel_rfl) Tryz.func6
  (ChangeSpec.witness6 (enc:=enc) (C:=Tryz.checked) false ⟨#[],#[.agg #[.slice none 0 0,.int .i64 0,.int .i64 0],.agg #[.int .i64 0,.int .i64 0,.int .i64 0,.int .i64 0,.slice none 0 0,.slice none 0 0,.slice none 0 0],.slice none 0 0],[]⟩ 8 (by kernel_rfl) (by kernel_rfl) (by kernel_rfl) (by kernel_rfl)) ?_
 intro W base args ds gs before hval0 hW hcnd hsz0 _
 have hsz:(DataW.weightsEach Tryz.prog (Tryz.f6.params.toList++Rows.gateNextSpec.plain.varTypes Tryz.prog) (ds++gs)).all (·≤reachBytes)=true:=hsz0
 have hval:∀(j:Nat) t v,Tryz.f6.params[j]? = some t→args[j]? = some v→Value.okWide Tryz.prog W .any base t v:=hval0
 have hW':=hW
 obtain ⟨p,q,hA0,hV,rfl,hfz,hnd⟩:=hW
 have hA:DataW.TrodAll enc Tryz.prog W 0 (fun _=>true) true Tryz.f6.params.toList args.toList ds p:=hA0
 rw [Tryz.params6]at hA hval hsz
 obtain ⟨v0,vs0,d0,ds0,p0,q0,hargs,rfl,rfl,h0,r0⟩:=trodAll_cons hA
 obtain ⟨v1,vs1,d1,ds1,p1,q1,rfl,rfl,rfl,h1,r1⟩:=trodAll_cons r0
 obtain ⟨v2,vs2,d2,ds2,p2,q2,rfl,rfl,rfl,h2,r2⟩:=trodAll_cons r1
 obtain ⟨rfl,rfl,rfl⟩:=trodAll_nil r2
 obtain rfl:args = #[v0,v1,v2]:=by cases args; simp_all
 obtain ⟨rfl,rfl⟩:=trodVars_none hV
 obtain ⟨cs0,rfl,_⟩:=okWide_struct Tryz.underlying50 (hval 0 50 v0 rfl rfl)
 have k0:=h0
 have lt0:∀ x ∈ p0,x.block<W.heap.size:=by obtain ⟨m,hm⟩:=k0; exact DataW.trod_lt m _ _ _ hm
 obtain ⟨s0,⟨A0_0,c0_0,e0,g0_0⟩,w0⟩:=Sl.open_struct (GN.opens50 W) h0
 obtain ⟨cl0⟩:=cs0
 change cl0=_ at e0
 subst e0
 obtain ⟨cs1,rfl,_⟩:=okWide_struct Tryz.underlying26 (hval 1 26 v1 rfl rfl)
 have k1:=h1
 have lt1:∀ x ∈ p1,x.block<W.heap.size:=by obtain ⟨m,hm⟩:=k1; exact DataW.trod_lt m _ _ _ hm
 obtain ⟨s1,⟨A1_4,c1_4,A1_5,c1_5,A1_6,c1_6,e1,g1_4,g1_5,g1_6⟩,w1⟩:=Sl.open_struct (GN.opens26 W) h1
 obtain ⟨cl1⟩:=cs1
 change cl1=_ at e1
 subst e1
 obtain ⟨A2,len2,cap2,rfl⟩:=okWide_slice Tryz.underlying30 (hval 2 30 v2 rfl rfl)
 have k2:=h2
 have lt2:∀ x ∈ p2,x.block<W.heap.size:=by obtain ⟨m,hm⟩:=k2; exact DataW.trod_lt m _ _ _ hm
 obtain ⟨s2,hn2,g2,w2⟩:=Sl.open_row (Sl.opens_slice Tryz.underlying30 (Sl.opens_bool Tryz.underlying4) (by kernel_rfl)) h2
 subst hn2
 clear hA0 hval0 hsz0 hsz
 obtain ⟨k,hp⟩:=GN.pureGateNext s0 s1 s2 w0 w1 w2
 refine (GN.qP.calls k s0 s1 s2 _ _ _ _ _ _ _ _ _ _ true W W (Sl.Sub.refl _) g0_0 g1_4 g1_5 g1_6 g2 hp).mono fun e W' ⟨_,he,hQ⟩=>?_
 obtain ⟨_,rfl,hS⟩:=hQ
 have bel:=hS.below
 subst he
 exact ⟨_,rfl,_,_,_,[],_,[],hW',trodAll_mk1 (shut_bool Tryz.underlying4 _),(trodAll_cons_mk (Below.trod laidOut (by kernel_rfl) (of_decide_eq_true (by kernel_rfl)) k0 bel lt0) (trodAll_cons_mk (Below.trod laidOut (by kernel_rfl) (of_decide_eq_true (by kernel_rfl)) k1 bel lt1) (trodAll_cons_mk (Below.trod laidOut (by kernel_rfl) (of_decide_eq_true (by kernel_rfl)) k2 bel lt2) trodAll_mk0))),rfl,bel.frame _,fun h=>by cases h⟩
theorem andI{a b:Bool}(h:a=true)(k:b=true):(a&&b)=true:=by rw [h,k]; rfl
theorem nm:Tryz.pinned.checked.prog.funcNamed Rows.gateNextRow.func=some 6:=by kernel_rfl
set_option maxHeartbeats 4000000 in
theorem facts:joinedFacts Tryz.pinned.checked.prog 6 Tryz.f6 Rows.gateNextSpec Rows.gateNextRow=true:=by
 unfold joinedFacts
 repeat' with_reducible refine andI ?_ ?_
 all_goals as_aux_lemma=>kernel_rfl
theorem wrapper:Tryz.f6.isWrapper Tryz.pinned.checked.prog Rows.gateNextRow.wrapper Rows.gateNextRow.mainSum:=by unfold Func.isWrapper; first | (rw [if_pos (by decide +kernel)]; kernel_rfl) | (rw [if_neg (by decide +kernel)]; exact ⟨rfl,rfl⟩)
theorem over:Rows.gateNextRow.holds Tryz.pinned (OpenSpec.ofChange Rows.gateNextSpec) :=
 OpenClaim.holds_of_wide 6 Tryz.f6 rfl rfl rfl rfl rfl rfl rfl ⟨rfl,rfl,rfl,rfl,rfl⟩ rfl rfl rfl rfl rfl nm Tryz.func6 facts
  (of_decide_eq_true (by kernel_rfl)) wrapper
  (fun os started H enc _=>lifted os started H enc)
theorem proved:Rows.GateNextSaid:=over
#print axioms proved
end Go.Proofs.YthgfhlbjkmjlpaaGreat.gateNext
namespace Go.Proofs.YthgfhlbjkmjlpaaGreat
theorem gateNext_holds:Rows.GateNextSaid:=gateNext.proved
end Go.Proofs.YthgfhlbjkmjlpaaGreat
