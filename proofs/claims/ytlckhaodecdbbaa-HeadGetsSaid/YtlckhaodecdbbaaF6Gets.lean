/- The statement HeadGets: the walk, laid into the row's frame. Written by frame.py (wip). -/
import Derived.Test.YtlckhaodecdbbaaL6g
import Derived.Test.YtlckhaodecdbbaaRb
set_option linter.unusedVariables false
set_option linter.unusedSimpArgs false
namespace Go.Proofs.Ytlckhaodecdbbaa.headGetsDone
open Go.ChangeShapes Go.WideShapes Go.ChangeAt Go.RowKit Go.Cx

theorem own0 : ownKnob Try.prog.godebug = none := by kernel_rfl
theorem laidOut : laidOutB Try.prog = true := by kernel_rfl

set_option maxHeartbeats 4000000 in
set_option maxRecDepth 100000 in
theorem lifted (os : Os) (started : os.Started) (H : Type) (enc : TypeId × Value → H) :
    ReturnsInHanded {} Try.checked os 11 .any (Rows.headGetsSpec.pre6 enc Try.prog Try.f11 Rows.headGetsRow.domain false) (Rows.headGetsSpec.post enc Try.prog Try.f11 false true false false) := by
  refine returnsInHanded_of_change_sized (C := Try.checked) own0 started (by kernel_rfl) Try.func11
    (ChangeSpec.witness6 (enc := enc) (C := Try.checked) false ⟨#[], #[.agg (List.replicate 128 (.int .u8 0)).toArray, .agg (List.replicate 128 (.int .u8 0)).toArray, .int .u64 0, .slice none 0 0], []⟩ 8 (by kernel_rfl) (by kernel_rfl) (by kernel_rfl) (by kernel_rfl)) ?_
  intro W base args ds gs before hval0 hW hcnd hsz _
  have hval : ∀ (j : Nat) t v, Try.f11.params[j]? = some t → args[j]? = some v → Value.okWide Try.prog W .any base t v := hval0
  have hW' := hW
  obtain ⟨p, q, hA0, hV, rfl, hfz, hnd⟩ := hW
  have hA : DataW.TrodAll enc Try.prog W 0 (fun _ => true) true Try.f11.params.toList args.toList ds p := hA0
  rw [Try.params11] at hA hval
  obtain ⟨v0, vs0, d0, ds0, p0, q0, hargs, rfl, rfl, h0, r0⟩ := trodAll_cons hA
  obtain ⟨v1, vs1, d1, ds1, p1, q1, rfl, rfl, rfl, h1, r1⟩ := trodAll_cons r0
  obtain ⟨v2, vs2, d2, ds2, p2, q2, rfl, rfl, rfl, h2, r2⟩ := trodAll_cons r1
  obtain ⟨v3, vs3, d3, ds3, p3, q3, rfl, rfl, rfl, h3, r3⟩ := trodAll_cons r2
  obtain ⟨rfl, rfl, rfl⟩ := trodAll_nil r3
  obtain rfl : args = #[v0, v1, v2, v3] := by cases args; simp_all
  obtain ⟨rfl, rfl⟩ := trodVars_none hV
  have k0 := h0
  have lt0 : ∀ x ∈ p0, x.block < W.heap.size := by obtain ⟨m, hm⟩ := k0; exact DataW.trod_lt m _ _ _ hm
  obtain ⟨q0, rfl, hq0⟩ := okWide_array Try.underlying29 (hval 0 29 v0 rfl rfl)
  obtain ⟨m0, h0⟩ := h0
  obtain ⟨b0, wb0, e0⟩ := rec_block Try.underlying29 Try.underlying5 (by kernel_rfl) (by kernel_rfl) _ _ _ h0
  obtain rfl : q0 = (cb b0).toArray := by rw [← e0]; simp [Value.cells]
  have k1 := h1
  have lt1 : ∀ x ∈ p1, x.block < W.heap.size := by obtain ⟨m, hm⟩ := k1; exact DataW.trod_lt m _ _ _ hm
  obtain ⟨q1, rfl, hq1⟩ := okWide_array Try.underlying29 (hval 1 29 v1 rfl rfl)
  obtain ⟨m1, h1⟩ := h1
  obtain ⟨b1, wb1, e1⟩ := rec_block Try.underlying29 Try.underlying5 (by kernel_rfl) (by kernel_rfl) _ _ _ h1
  obtain rfl : q1 = (cb b1).toArray := by rw [← e1]; simp [Value.cells]
  have k2 := h2
  have lt2 : ∀ x ∈ p2, x.block < W.heap.size := by obtain ⟨m, hm⟩ := k2; exact DataW.trod_lt m _ _ _ hm
  obtain ⟨a2, rfl, -, -, w2⟩ := open_int Try.underlying44 (hval 2 44 v2 rfl rfl) h2
  have w2' := wf_u64 w2
  obtain ⟨n2, rfl⟩ : ∃ n : Nat, a2 = n := ⟨a2.toNat, by omega⟩
  have k3 := h3
  have lt3 : ∀ x ∈ p3, x.block < W.heap.size := by obtain ⟨m, hm⟩ := k3; exact DataW.trod_lt m _ _ _ hm
  obtain ⟨a3, len3, cap3, rfl⟩ := okWide_slice Try.underlying45 (hval 3 45 v3 rfl rfl)
  obtain ⟨m3, h3⟩ := h3
  have s3 := sized_rows hsz Try.underlying45 h3 3 rfl rfl
  rw [show Try.checked.prog.bytesOf 5 = 1 by kernel_rfl, Nat.mul_one] at s3
  obtain ⟨b3, l3, c3, e3, g3, y3, z3, u3, x3⟩ := open_rows (sz := 1) Try.underlying45 (by kernel_rfl) (by decide) (rec_byte Try.underlying5) h3
  simp [Value.cells] at e3
  obtain ⟨rfl, rfl, rfl⟩ := e3
  rw [rows_bytes, Nat.mul_one] at x3
  clear hA0 hval0
  refine (((gets6_c b0 b1 wb0 wb1 n2 (by simp only [top]; omega) l3 (by omega) a3 cap3).law x3)).mono fun e W' ⟨he, bel⟩ => ?_
  subst he
  exact ⟨_, rfl, _, _, _, [], _, [], hW', trodAll_mk1 (shut_bool Try.underlying4 _), (trodAll_cons_mk (Below.trod laidOut (by kernel_rfl) (of_decide_eq_true (by kernel_rfl)) k0 bel lt0) (trodAll_cons_mk (Below.trod laidOut (by kernel_rfl) (of_decide_eq_true (by kernel_rfl)) k1 bel lt1) (trodAll_cons_mk (Below.trod laidOut (by kernel_rfl) (of_decide_eq_true (by kernel_rfl)) k2 bel lt2) (trodAll_cons_mk (Below.trod laidOut (by kernel_rfl) (of_decide_eq_true (by kernel_rfl)) k3 bel lt3) trodAll_mk0)))), rfl, bel.frame _, fun h => by cases h⟩

theorem over : Rows.headGetsRow.holds Try.pinned (OpenSpec.ofChange Rows.headGetsSpec) :=
  OpenClaim.holds_of_wide 11 Try.f11 rfl rfl rfl rfl rfl rfl rfl ⟨rfl, rfl, rfl, rfl, rfl⟩ rfl rfl rfl rfl rfl (by kernel_rfl) Try.func11 (by kernel_rfl)
    (of_decide_eq_true (by kernel_rfl)) (by unfold Func.isWrapper; first | (rw [if_pos (by decide +kernel)]; kernel_rfl) | (rw [if_neg (by decide +kernel)]; exact ⟨rfl, rfl⟩))
    (fun os started H enc _ => lifted os started H enc)

theorem proved : Rows.HeadGetsSaid := over
#print axioms proved
end Go.Proofs.Ytlckhaodecdbbaa.headGetsDone
