/- What a reading of an argument tells of the memory. No program in sight. -/
import Derived.Test.YtlckhaodecdbbaaCg
import Derived.OpenShut
import Derived.ShutString
import Derived.ChangeOld
import Derived.Below
import Derived.WalkKit
import Derived.ProofKit
import Derived.Deep.Slices
import Derived.ChangeSame
set_option linter.unusedVariables false
set_option linter.unusedSimpArgs false
namespace Go.Cx
theorem rows_ints (k : IntKind) (l : List Int) : rows (fun z => [Value.int k z]) l = l.map (Value.int k) := by
  induction l with
  | nil => rfl
  | cons x l ih => simp only [rows, List.map_cons, List.flatten_cons] at ih ⊢; rw [ih]; rfl
theorem okWide_array {P : Program} {w : World} {r : Reach} {base : Nat} {t e : TypeId} {n : Nat} {v : Value} (ht : P.underlying t = some (.array n e)) (h : Value.okWide P w r base t v) : ∃ cs, v = .agg cs ∧ cs.size = P.cellsOf t := by
  unfold Value.okWide at h
  simp only [ht] at h
  obtain ⟨cs, h1, h2, _⟩ := h
  exact ⟨cs, h1, h2⟩
theorem agg_cells {q : Array Value} {l : List Value} (h : (Value.agg q).cells.toList = l) : Value.agg q = .agg l.toArray := by
  rw [← h]; rfl
theorem Ctr.law {P : Program} {f : FuncId} {args : List Value} {pre : PH → Prop} (C : Ctr P f args [] pre (fun v M => v = .bool true ∧ M = [])) {W : World} (hp : pre W.ph) :
    Calls P f args.toArray W fun e w' => e = .returned (.bool true) ∧ Go.RowKit.Below W.heap.size W w' :=
  (C W.ph W ⟨fun _ => true, by
    show Le W.ph _
    intro b o e; simp [PH.only, e], trivial⟩ hp).mono fun e w' h => by
      obtain ⟨v, H, ⟨rfl, rfl⟩, rfl, hs, he⟩ := h
      obtain ⟨S, a, _⟩ := hs
      exact ⟨rfl, below_of_exact (Le.trans a (only_le _ _)) he⟩
section
variable {H : Type} (enc : TypeId × Value → H) (P : Program) (w : World) (base : Nat) (spare : Nat → Bool) (held : Bool)
/-- Cells that may be read as of a type are those of something that is good. -/
def Rec {α : Type} (e : TypeId) (good : α → Prop) (f : α → List Value) : Prop :=
  ∀ n cs x, DataW.trod enc P w base spare held n e cs = some x → ∃ y, good y ∧ cs = f y
variable {enc P w base spare held}
theorem rec_int {t : TypeId} {k : IntKind} (ht : P.underlying t = some (.int k)) : Rec enc P w base spare held t (fun z : Int => (Lit.int k z).wf = true) (fun z => [.int k z]) := fun n cs x h => by
  obtain ⟨z, rfl, _, hw⟩ := DataW.trod_int ht h
  exact ⟨z, hw, rfl⟩
theorem wf_u8 {z : Int} (h : (Lit.int .u8 z).wf = true) : 0 ≤ z ∧ z < 256 := by
  simp [Lit.wf, IntKind.min, IntKind.max, IntKind.signed, IntKind.bits] at h; omega
theorem wf_u32 {z : Int} (h : (Lit.int .u32 z).wf = true) : 0 ≤ z ∧ z < 4294967296 := by
  simp [Lit.wf, IntKind.min, IntKind.max, IntKind.signed, IntKind.bits] at h; omega
theorem wf_u64 {z : Int} (h : (Lit.int .u64 z).wf = true) : 0 ≤ z ∧ z < 18446744073709551616 := by
  simp [Lit.wf, IntKind.min, IntKind.max, IntKind.signed, IntKind.bits] at h; omega
theorem wf_i64 {z : Int} (h : (Lit.int .i64 z).wf = true) : -9223372036854775808 ≤ z ∧ z ≤ 9223372036854775807 := by
  simp [Lit.wf, IntKind.min, IntKind.max, IntKind.signed, IntKind.bits] at h; omega
theorem rec_u8 {t : TypeId} (ht : P.underlying t = some (.int .u8)) : Rec enc P w base spare held t (fun z : Nat => z < 256) (fun z => [.int .u8 (z : Int)]) := fun n cs x h => by
  obtain ⟨z, hw, rfl⟩ := rec_int ht n cs x h
  have := wf_u8 hw
  exact ⟨z.toNat, by omega, by congr 2; omega⟩
theorem rec_block {t e : TypeId} (ht : P.underlying t = some (.array 128 e)) (he : P.underlying e = some (.int .u8)) (hc : P.cellsOf t = 128) (hd : P.cellsOf e = 1) : Rec enc P w base spare held t WB cb := fun n cs x h => by
  obtain ⟨xs, m, _, _, hl, hx, hi⟩ := DataW.trod_array ht h
  rw [hc] at hl
  have key : ∀ i (hi : i < cs.length), ∃ z : Nat, z < 256 ∧ cs[i] = .int .u8 (z : Int) := fun i hlt => by
    have := hi i (by omega)
    rw [hd, List.getElem?_eq_getElem (by omega)] at this
    obtain ⟨z, hz, e⟩ := rec_u8 he _ _ _ this
    refine ⟨z, hz, ?_⟩
    rw [Nat.mul_one] at e
    have h2 : ((cs.drop i).take 1)[0]? = some cs[i] := by simp [hlt]
    rw [e] at h2
    simpa using h2.symm
  refine ⟨cs.map fun v => match v with | .int .u8 z => UInt8.ofNat z.toNat | _ => 0, by simp [WB, hl], ?_⟩
  apply List.ext_getElem
  · simp
  · intro i h1 h2
    obtain ⟨z, hz, e⟩ := key i h1
    simp only [cb, ib, List.getElem_map, e]
    congr 1
    simp
    omega
theorem rec_struct2 {t : TypeId} {f0 f1 : Field} {α β : Type} {ga : α → Prop} {gb : β → Prop} {fa : α → List Value} {fb : β → List Value} (ht : P.underlying t = some (.struct #[f0, f1])) {s0 s1 : Nat}
    (h0 : f0.offset = 0) (h1 : f1.offset = s0) (c0 : P.cellsOf f0.type = s0) (c1 : P.cellsOf f1.type = s1) (ct : P.cellsOf t = s0 + s1)
    (ra : Rec enc P w base spare held f0.type ga fa) (rb : Rec enc P w base spare held f1.type gb fb) : Rec enc P w base spare held t (fun p : α × β => ga p.1 ∧ gb p.2) (fun p => fa p.1 ++ fb p.2) := fun n cs x h => by
  obtain ⟨y0, y1, m, _, hl, e0, e1⟩ := Go.ChangeShapes.trod_struct2 ht h
  obtain ⟨a, ga', ea⟩ := ra _ _ _ e0
  obtain ⟨b, gb', eb⟩ := rb _ _ _ e1
  refine ⟨(a, b), ⟨ga', gb'⟩, ?_⟩
  rw [h0, c0, List.drop_zero] at ea
  rw [h1, c1, List.take_of_length_le (by simp; omega)] at eb
  simp only [← ea, ← eb, List.take_append_drop]
theorem trod_fields {t : TypeId} {fs : Array Field} {fuel : Nat} {cs : List Value} {x : DataW H × List MemPlace} (ht : P.underlying t = some (.struct fs)) (h : DataW.trod enc P w base spare held fuel t cs = some x) :
    cs.length = P.cellsOf t ∧ ∃ m, ∀ (i : Nat) (f : Field), fs[i]? = some f → ∃ y, DataW.trod enc P w base spare held m f.type ((cs.drop f.offset).take (P.cellsOf f.type)) = some y := by
  obtain ⟨xs, m, _, _, hl, hx, hf⟩ := DataW.trod_struct ht h
  refine ⟨hl, m, fun i f hi => ?_⟩
  have : i < xs.length := by rw [hx]; exact (Array.getElem?_eq_some_iff.1 hi).1
  exact ⟨xs[i], by rw [hf i f hi, List.getElem?_eq_getElem this]⟩
theorem drop_part (cs : List Value) (a k : Nat) {p : List Value} (h : (cs.drop a).take k = p) : cs.drop a = p ++ cs.drop (a + k) := by
  rw [← h, ← List.drop_drop]; exact (List.take_append_drop k _).symm
/-- A slice's elements. -/
theorem open_rows {t e : TypeId} {α : Type} {good : α → Prop} {f : α → List Value} {sz fuel : Nat} {cs : List Value} {x : DataW H × List MemPlace} (ht : P.underlying t = some (.slice e)) (hc : P.cellsOf e = sz) (hpos : 0 < sz)
    (hE : Rec enc P w base spare held e good f) (h : DataW.trod enc P w base spare held fuel t cs = some x) :
    ∃ (a : Option Addr) (l : List α) (cap : Nat), cs = [.slice a l.length cap] ∧ (∀ y ∈ l, good y ∧ (f y).length = sz) ∧ (a = none → l = [] ∧ cap = 0) ∧ l.length ≤ cap ∧ cap ≤ maxLen ∧ rdx a (l.length * sz) (rows f l) w.ph := by
  rcases Go.Deep.open_slice ht h with ⟨rfl, _⟩ | ⟨a, len, cap, m, n, D, Pl, rfl, hb, hl, hm, hmm, _, hx⟩
  · exact ⟨none, [], 0, rfl, by simp, fun _ => ⟨rfl, rfl⟩, Nat.le_refl _, Nat.zero_le _, .inl (by simp)⟩
  have hmle : len ≤ m := by rw [hmm]; split <;> omega
  have key : ∀ i, i < len → ∃ y, good y ∧ (f y).length = sz ∧ ∀ j, j < sz → w.cell? ((a.add (i * sz)).add j) = (f y)[j]? := fun i hi => by
    obtain ⟨cs', h1, h2⟩ := hx i (by omega)
    obtain ⟨y, gy, e⟩ := hE _ _ _ h2
    obtain ⟨_, h3, h4⟩ := World.cells?_some h1
    rw [hc] at h3 h4
    exact ⟨y, gy, by rw [← e]; exact h3, fun j hj => by rw [← e]; exact h4 j hj⟩
  have : ∀ k, k ≤ len → ∃ l : List α, l.length = k ∧ (∀ y ∈ l, good y ∧ (f y).length = sz) ∧ ∀ i (hi : i < l.length) j, j < sz → w.cell? ((a.add (i * sz)).add j) = (f l[i])[j]? := by
    intro k
    induction k with
    | zero => intro _; exact ⟨[], rfl, by simp, fun i hi => by simp at hi⟩
    | succ k ih =>
      intro hk
      obtain ⟨l, e1, e2, e3⟩ := ih (by omega)
      obtain ⟨y, gy, ly, cy⟩ := key k (by omega)
      refine ⟨l ++ [y], by simp [e1], fun z hz => ?_, fun i hi j hj => ?_⟩
      · simp only [List.mem_append, List.mem_singleton] at hz
        rcases hz with hz | rfl
        · exact e2 z hz
        · exact ⟨gy, ly⟩
      · simp only [List.length_append, List.length_singleton] at hi
        by_cases hik : i < l.length
        · rw [List.getElem_append_left hik]; exact e3 i hik j hj
        · obtain rfl : i = l.length := by omega
          simp only [List.getElem_append_right (Nat.le_refl _), Nat.sub_self, List.getElem_cons_zero]
          rw [e1]; exact cy j hj
  obtain ⟨l, e1, e2, e3⟩ := this len (Nat.le_refl _)
  refine ⟨some a, l, cap, by rw [e1], e2, (fun h => by cases h), by omega, hm, ?_⟩
  by_cases h0 : l.length = 0
  · exact .inl (by simp [h0])
  right
  obtain ⟨b, o, sp⟩ := a
  have hp : 0 < l.length := by omega
  have h00 := e3 0 hp 0 hpos
  have hlen0 : 0 < (f l[0]).length := by rw [(e2 _ (by simp)).2]; exact hpos
  rw [List.getElem?_eq_getElem hlen0] at h00
  have hsp := World.cell?_spot h00
  have hsp' : sp = none := by simpa [Addr.add] using hsp
  subst hsp'
  simp only [addr_add] at e3 h00
  have hobj : ∃ c ty fr, w.heap[b]? = some (.cells c ty fr) := by
    unfold World.cell? at h00
    split at h00
    · rename_i c ty fr hh; exact ⟨c, ty, fr, hh⟩
    · cases h00
  obtain ⟨c, ty, fr, hh⟩ := hobj
  refine ⟨b, o, c, ty, fr, rfl, hh, fun j u hj => ?_⟩
  have hjl : j < l.length * sz := by
    have := (List.getElem?_eq_some_iff.1 hj).1
    rw [length_rows f sz l fun y hy => (e2 y hy).2] at this; exact this
  have hdm : j = (j / sz) * sz + j % sz := by rw [Nat.mul_comm]; exact (Nat.div_add_mod j sz).symm
  have hd : j / sz < l.length := (Nat.div_lt_iff_lt_mul hpos).2 hjl
  have hr := rows_at f sz l (fun y hy => (e2 y hy).2) (j / sz) hd (j % sz) (Nat.mod_lt _ hpos)
  rw [← hdm] at hr
  rw [hr] at hj
  have := e3 (j / sz) hd (j % sz) (Nat.mod_lt _ hpos)
  rw [hj] at this
  unfold World.cell? at this
  simp only [hh] at this
  rw [show o + j / sz * sz + j % sz = o + j by omega] at this
  simpa using this
end
end Go.Cx
