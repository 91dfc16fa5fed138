/- Stepping: rows of bytes. No program in sight. -/
import Derived.Test.YtlckhaodecdbbaaSt
import Derived.Test.YtlckhaodecdbbaaOp
set_option linter.unusedVariables false
set_option linter.unusedSimpArgs false
namespace Go.Cx
theorem one_all {vs : List Value} (h : vs.all (·.oneCell') = true) : ∀ u ∈ vs, u.oneCell' = true := fun u hu => List.all_eq_true.1 h u hu
theorem cb_at (B : Blk) (j : Nat) (hj : j < B.length) : (cb B)[j * 1]? = some (.int .u8 (B[j].toNat : Int)) := by rw [Nat.mul_one]; exact cb_get B j hj
theorem cb_set (B : Blk) (j : Nat) (hj : j < B.length) (c : UInt8) : setL (cb B) (j * 1) [.int .u8 (c.toNat : Int)] = cb (B.set j c) := by
  rw [Nat.mul_one, setL_one _ _ _ (by simpa using hj)]
  simp [cb, ib, List.map_set]
theorem cb_set0 (B : Blk) (j : Nat) (hj : j < B.length) (c : UInt8) : setL (cb B) (0 + j * 1) [.int .u8 (c.toNat : Int)] = cb (B.set j c) := by rw [Nat.zero_add]; exact cb_set B j hj c
theorem rdx_some {a : Option Addr} {len : Nat} {vs : List Value} {x : PH} (h : rdx a len vs x) (h0 : 0 < len) : ∃ g off, a = some ⟨g, off, none⟩ := by
  rcases h with h | ⟨g, off, cs, t, fr, rfl, _⟩
  · omega
  · exact ⟨g, off, rfl⟩
theorem CellAt.rd {L L' : List Assn} {x : PH} {g off len j : Nat} {B : Blk} (p : Pick (Cx.exact x) L L') (h : rdx (some ⟨g, off, none⟩) len (cb B) x) (hl : len = B.length) (hj : j < B.length) : CellAt L g (off + j * 1) (.int .u8 (B[j].toNat : Int)) := by
  rcases h with h | ⟨g', off', cs, t, fr, e, hx, hc⟩
  · omega
  · simp only [Option.some.injEq, Addr.mk.injEq, and_true] at e
    obtain ⟨rfl, rfl⟩ := e
    exact CellAt.exact p ⟨cs, t, fr, hx, hc _ _ (cb_at B j hj)⟩
theorem CellAt.ownB {L L' : List Assn} {e n cap g j : Nat} {B : Blk} (p : Pick (Cx.own e 1 (some ⟨g, 0, none⟩) n cap (cb B)) L L') (hj : j < B.length) : CellAt L g (j * 1) (.int .u8 (B[j].toNat : Int)) := CellAt.own p (cb_at B j hj)
theorem CellAt.bkB {L L' : List Assn} {b t j : Nat} {B : Blk} (p : Pick (bk b t (cb B)) L L') (hj : j < B.length) : CellAt L b (0 + j * 1) (.int .u8 (B[j].toNat : Int)) := CellAt.pick p (by rw [Nat.zero_add]; exact cb_at B j hj)
/-- A row of equal parts that can be read: a part of it. -/
theorem CellAt.row {α : Type} {f : α → List Value} {k : Nat} {l : List α} {L L' : List Assn} {x : PH} {g off n i j : Nat} {v : Value} (p : Pick (Cx.exact x) L L') (h : rdx (some ⟨g, off, none⟩) n (rows f l) x) (h0 : 0 < n) (hf : ∀ y ∈ l, (f y).length = k) (hi : i < l.length)
    (hv : (f l[i])[j]? = some v) : CellAt L g (off + i * k + j) v := by
  rcases h with h | ⟨g', off', cs, t, fr, e, hx, hc⟩
  · omega
  · simp only [Option.some.injEq, Addr.mk.injEq, and_true] at e
    obtain ⟨rfl, rfl⟩ := e
    have hj : j < k := by have := (List.getElem?_eq_some_iff.1 hv).1; rw [hf _ (by simp)] at this; exact this
    have := rows_at f k l hf i hi j hj
    refine CellAt.exact p ⟨cs, t, fr, hx, ?_⟩
    rw [Nat.add_assoc]; exact hc _ v (by rw [this]; exact hv)
theorem CellsAt.row {α : Type} {f : α → List Value} {k : Nat} {l : List α} {L L' : List Assn} {x : PH} {g off n i : Nat} (p : Pick (Cx.exact x) L L') (h : rdx (some ⟨g, off, none⟩) n (rows f l) x) (h0 : 0 < n) (hf : ∀ y ∈ l, (f y).length = k) (hi : i < l.length) : CellsAt L g (off + i * k) (f l[i]) := by
  rcases h with h | ⟨g', off', cs, t, fr, e, hx, hc⟩
  · omega
  · simp only [Option.some.injEq, Addr.mk.injEq, and_true] at e
    obtain ⟨rfl, rfl⟩ := e
    refine CellsAt.exact p ⟨cs, t, fr, hx, fun j v hj => ?_⟩
    have hjk : j < k := by have := (List.getElem?_eq_some_iff.1 hj).1; rw [hf _ (by simp)] at this; exact this
    have := rows_at f k l hf i hi j hjk
    rw [Nat.add_assoc]; exact hc _ v (by rw [this]; exact hj)
theorem CellAt.row1 {α : Type} {f : α → List Value} {l : List α} {L L' : List Assn} {x : PH} {g off n i : Nat} {v : Value} (p : Pick (Cx.exact x) L L') (h : rdx (some ⟨g, off, none⟩) n (rows f l) x) (h0 : 0 < n) (hf : ∀ y ∈ l, (f y).length = 1) (hi : i < l.length)
    (hv : f l[i] = [v]) : CellAt L g (off + i * 1) v := CellAt.row (j := 0) p h h0 hf hi (by rw [hv]; rfl)
theorem CellAt.ints {L L' : List Assn} {x : PH} {g off n i : Nat} {l : List Int} (p : Pick (Cx.exact x) L L') (h : rdx (some ⟨g, off, none⟩) n (l.map (Value.int .i64)) x) (hi : i < l.length) (h0 : 0 < n) : CellAt L g (off + i * 1) (.int .i64 l[i]) := by
  rw [← rows_ints] at h
  exact CellAt.row1 (f := fun z => [Value.int .i64 z]) p h h0 (fun _ _ => rfl) hi rfl
/-- A part of what can be read can be read. -/
theorem rdx_part {a : Option Addr} {len g off : Nat} {B : Blk} {x : PH} (ha : a = some ⟨g, off, none⟩) (h : rdx a len (cb B) x) (hl : len = B.length) (i m : Nat) (hm : i + m ≤ B.length) : rdx (some ⟨g, off + i, none⟩) m (cb ((B.drop i).take m)) x := by
  subst ha
  rcases h with h | ⟨g', off', cs, t, fr, e, hx, hc⟩
  · exact .inl (by omega)
  · simp only [Option.some.injEq, Addr.mk.injEq, and_true] at e
    obtain ⟨rfl, rfl⟩ := e
    refine .inr ⟨g, off + i, cs, t, fr, rfl, hx, fun j u hu => ?_⟩
    rw [← cb_take, ← cb_drop, List.getElem?_take, List.getElem?_drop] at hu
    split at hu
    · rw [Nat.add_assoc]; exact hc _ _ hu
    · cases hu
theorem RdS.rdx {L L' : List Assn} {x : PH} {a : Option Addr} {len : Nat} {B : Blk} (p : Pick (Cx.exact x) L L') (h : Cx.rdx a len (cb B) x) (hl : len = B.length) : RdS L a len (cb B) :=
  RdS.exact p (one_cb B) (by simp [hl]) h
theorem rdx_own {L L' : List Assn} {e n cap : Nat} {a : Option Addr} {B : Blk} (p : Pick (own e 1 a n cap (cb B)) L L') (hn : n = B.length) : ∀ y, Sep L y → rdx a n (cb B) y := by
  subst hn; exact rdx_RdS (RdS.own p (one_cb B) (by simp))
theorem rdx_bk {L L' : List Assn} {b t : Nat} {B : Blk} (p : Pick (bk b t (cb B)) L L') (o m : Nat) (hm : o + m ≤ B.length) : ∀ y, Sep L y → rdx (some ⟨b, o, none⟩) m (cb ((B.drop o).take m)) y :=
  rdx_RdS (RdS.pick p (by simp; omega) (one_cb _) (by rw [cb_drop, cb_take]))
theorem rdx_ex {L L' : List Assn} {x : PH} (p : Pick (Cx.exact x) L L') {a : Option Addr} {len : Nat} {vs : List Value} (h : rdx a len vs x) : ∀ y, Sep L y → rdx a len vs y := fun y hy => rdx_mono h (p.ok hy)
theorem own_fact {e sz m cap : Nat} {a : Option Addr} {xs : List Value} {L L' : List Assn} (p : Pick (own e sz a m cap xs) L L') (h0 : 0 < m) : ∀ h, Sep L h → m ≤ cap ∧ ∃ b, a = some ⟨b, 0, none⟩ := fun h hs => by
  refine ⟨(own_ok.1 (p.ok hs)).2.1, ?_⟩
  rcases own_some (p.ok hs) with ⟨_, h1, _⟩ | h1
  · omega
  · exact h1
theorem rdx_pre {g off len : Nat} {B : Blk} {y : PH} (h : rdx (some ⟨g, off, none⟩) len (cb B) y) (hl : len = B.length) (k : Nat) (hk : k ≤ B.length) : rdx (some ⟨g, off, none⟩) k (cb (B.take k)) y := by
  have := rdx_part rfl h hl 0 k (by omega)
  simpa using this
theorem flat_at {S : List Blk} (h : ∀ b ∈ S, WB b) {k : Nat} (hk : k < S.length) : ((flat S).drop (k * 128)).take 128 = cb S[k] := by
  have := rows_get cb 128 S (fun x hx => by rw [length_cb]; exact h x hx) k hk 0 128 (by omega)
  rw [Nat.add_zero] at this
  rw [flat, this, List.drop_zero, List.take_of_length_le]
  have := h S[k] (by simp)
  rw [length_cb, this]; exact Nat.le_refl _
theorem boE {b c : Bool} (h : b = c) : some (Value.bool b) = some (Value.bool c) := by rw [h]
/-- The first cells of what can be read. -/
theorem rdx_front {a : Option Addr} {len : Nat} {B : Blk} {y : PH} (h : rdx a len (cb B) y) (hl : len = B.length) (k : Nat) (hk : k ≤ B.length) : rdx a k (cb (B.take k)) y := by
  rcases Nat.eq_zero_or_pos k with rfl | h0
  · exact .inl rfl
  · obtain ⟨g, off, rfl⟩ := rdx_some h (by omega)
    have := rdx_part rfl h hl 0 k (by omega)
    simpa using this
theorem own_max {e sz m cap : Nat} {a : Option Addr} {xs : List Value} {L L' : List Assn} (p : Pick (own e sz a m cap xs) L L') {h : PH} (hs : Sep L h) : cap ≤ 9223372036854775807 := by
  have := (own_ok.1 (p.ok hs)).2.2.1
  simp only [maxLen] at this; omega
theorem two_set0 {X Y Z : Blk} (w : WB X) (z : WB Z) : setL (cb X ++ cb Y) (0 + 0 * 128) (cb Z) = cb Z ++ cb Y := by
  have h1 : (cb X).length = 128 := w.len
  have h2 : (cb Z).length = 128 := z.len
  simp only [setL, Nat.zero_mul, Nat.zero_add, List.take_zero, List.nil_append, h2]
  rw [List.drop_append, List.drop_of_length_le (by omega), h1]; simp
theorem two_set1 {X Y Z : Blk} (w : WB X) (y : WB Y) (z : WB Z) : setL (cb X ++ cb Y) (0 + 1 * 128) (cb Z) = cb X ++ cb Z := by
  have h1 : (cb X).length = 128 := w.len
  have h2 : (cb Z).length = 128 := z.len
  have h3 : (cb Y).length = 128 := y.len
  simp only [setL, Nat.one_mul, Nat.zero_add, h2]
  rw [List.drop_of_length_le (by rw [List.length_append]; omega), List.append_nil, List.take_append_of_le_length (by omega), List.take_of_length_le (by omega)]
theorem two_z : (List.replicate 256 (Value.int .u8 0)) = cb zblk ++ cb zblk := by rw [cb_z, List.replicate_append_replicate]
theorem two_part {L L' : List Assn} {q t i : Nat} {A B : Blk} (p : Pick (bk q t (cb A ++ cb B)) L L') (hA : WB A) (hi : i < 2) : CellsAt L q (0 + i * 128) (cb (if i = 0 then A else B)) := by
  have h1 : (cb A).length = 128 := hA.len
  rcases (show i = 0 ∨ i = 1 by omega) with rfl | rfl
  · exact CellsAt.pick p (by simp)
  · exact CellsAt.pick p (by
      rw [List.drop_append, List.drop_of_length_le (by omega), h1, Nat.zero_add, Nat.one_mul, Nat.sub_self, List.drop_zero, List.nil_append]
      exact List.take_length)
theorem fillL_cons {place : Nat → Option (Nat × Nat)} {i off size : Nat} {v : Value} {rest : List (Nat × Value)} {cells out : List Value} (hp : place i = some (off, size)) (hs : v.cells.size = size) (hl : off + size ≤ cells.length)
    (h : fillL place (setL cells off v.cells.toList) rest = some out) : fillL place cells ((i, v) :: rest) = some out := by
  unfold fillL
  rw [hp]
  dsimp only
  rw [if_pos ⟨hs, by omega⟩]; exact h
theorem fill_two {A B : Blk} (hA : WB A) (hB : WB B) : fillL (fun i => some (i * 128, 128)) (List.replicate 256 (Value.int .u8 0)) [(0, .agg (cb A).toArray), (1, .agg (cb B).toArray)] = some (cb A ++ cb B) := by
  have s0 : (Value.agg (cb A).toArray).cells.size = 128 := by show (cb A).toArray.size = 128; rw [List.size_toArray]; exact hA.len
  have s1 : (Value.agg (cb B).toArray).cells.size = 128 := by show (cb B).toArray.size = 128; rw [List.size_toArray]; exact hB.len
  have e0 : setL (cb zblk ++ cb zblk) (0 * 128) (Value.agg (cb A).toArray).cells.toList = cb A ++ cb zblk := by
    have := two_set0 (Y := zblk) WB_z hA
    rw [Nat.zero_add] at this; exact this
  have e1 : setL (cb A ++ cb zblk) (1 * 128) (Value.agg (cb B).toArray).cells.toList = cb A ++ cb B := by
    have := two_set1 hA WB_z hB
    rw [Nat.zero_add] at this; exact this
  have l0 : (cb zblk ++ cb zblk).length = 256 := by rw [← two_z, List.length_replicate]
  have l1 : (cb A ++ cb zblk).length = 256 := by rw [List.length_append, hA.len, WB_z.len]
  rw [two_z]
  refine fillL_cons (off := 0 * 128) (size := 128) rfl s0 (by rw [l0]; omega) ?_
  rw [e0]
  refine fillL_cons (off := 1 * 128) (size := 128) rfl s1 (by rw [l1]; omega) ?_
  rw [e1]
  rfl
theorem two_at0 {L L' : List Assn} {q t : Nat} {X Y : Blk} (p : Pick (bk q t (cb X ++ cb Y)) L L') : CellsAt L q (0 + 0 * 128) (cb X) := CellsAt.pick p (by simp)
theorem two_at1 {L L' : List Assn} {q t : Nat} {X Y : Blk} (p : Pick (bk q t (cb X ++ cb Y)) L L') (w : WB X) : CellsAt L q (0 + 1 * 128) (cb Y) := CellsAt.pick p (by
  have : (cb X).length = 128 := w.len
  rw [List.drop_append, List.drop_of_length_le (by omega), this, Nat.zero_add, Nat.one_mul, Nat.sub_self, List.drop_zero, List.nil_append, List.take_length])
theorem own_front {e n c : Nat} {a : Option Addr} {Z : Blk} {L : List Assn} {h : PH} (hn : n ≤ c) (hZ : Z.length = c) (s : Sep (own e 1 a c c (cb Z) :: L) h) : Sep (own e 1 a n c (cb (Z.take n)) :: L) h := by
  obtain ⟨S, o, r⟩ := s
  refine ⟨S, ?_, r⟩
  obtain ⟨h1, h2, h3, h4⟩ := own_ok.1 o
  refine own_ok.2 ⟨by simp; omega, hn, h3, ?_⟩
  rcases h4 with h4 | ⟨g, cur, e1, e2, e3, e4⟩
  · exact .inl h4
  · refine .inr ⟨g, cur, e1, e2, e3, ?_⟩
    rw [← cb_take, ← e4, List.take_take]
    congr 1; omega
theorem Ctr.conseq {P : Program} {f : FuncId} {args : List Value} {H : List Assn} {pre : PH → Prop} {post post' : Value → List Assn → Prop} (S : Ctr P f args H pre post)
    (hq : ∀ v M, post v M → ∃ M', post' v M' ∧ ∀ x h, Sep (M ++ [exact x]) h → Sep (M' ++ [exact x]) h) : Ctr P f args H pre post' := fun x w hs h =>
  (S x w hs h).mono fun e w' ⟨v, M, a, b, c, d⟩ => by
    obtain ⟨M', q1, q2⟩ := hq v M a
    exact ⟨v, M', q1, b, q2 x _ c, d⟩
section
variable {P : Program} {ops : Array Oper} {Q : Exit → Act → World → Prop} {n : Nat} {e0 : World} {env : Env} {L : List Assn} {rest : List Oper}
variable {dst : Option Tmp} {ty : TypeId} {pos : String} {aft : Array Edge} {g : Option (Nat × Bool)}
theorem CX.index0 {t e sz : Nat} [E : ElemA P t e sz] {x y : Operand} {b len cap : Nat} (j : Nat) {k : IntKind} {i : Int} (hl : j < len) (h : CX P ops Q n e0 (putE env dst (.pointer (some ⟨b, j * sz, none⟩))) L rest)
    (hg : gd ops n env g = some true := by rfl) (hx : ev n env x = some (.slice (some ⟨b, 0, none⟩) len cap) := by rfl) (hy : ev n env y = some (.int k i) := by rfl) (hi : i = (j : Int) := by first | rfl | omega) :
    CX P ops Q n e0 env L (⟨dst, .indexAddr t x y, ty, pos, aft, g⟩ :: rest) := CX.ps (PS.indexAddr hg hx hy hi hl) (by rw [Nat.zero_add]; exact h)
theorem CX.storeOB {t e : TypeId} [Z : SzT P t 1] {x y : Operand} {b k cap : Nat} {B : Blk} {M : List Assn} (j : Nat) (c : UInt8) (hj : j < B.length) (hk : k = B.length)
    (h : CX P ops Q n e0 (putE env dst undef) (own e 1 (some ⟨b, 0, none⟩) k cap (cb (B.set j c)) :: M) rest) (hg : gd ops n env g = some true := by rfl) (hx : ev n env x = some (.pointer (some ⟨b, j * 1, none⟩)) := by rfl)
    (hy : ev n env y = some (.int .u8 (c.toNat : Int)) := by rfl) (p : Pick (own e 1 (some ⟨b, 0, none⟩) k cap (cb B)) L M := by repeat (first | exact .head _ | apply Pick.tail | apply Upd.tail)) : CX P ops Q n e0 env L (⟨dst, .store t x y, ty, pos, aft, g⟩ :: rest) := by
  refine CX.storeOwn (Z := Z) (v := .int .u8 (c.toNat : Int)) hg hx hy rfl (by intro u hu; simp [Value.cells] at hu; rw [hu]; rfl) p (by omega) ?_
  have e : setL (cb B) (j * 1) (Value.int .u8 (c.toNat : Int)).cells.toList = cb (B.set j c) := cb_set B j hj c
  rw [e]; exact h
theorem CX.storeBB {t bt : TypeId} [Z : SzT P t 1] {x y : Operand} {b : Nat} {B : Blk} {L' : List Assn} (j : Nat) (c : UInt8) (hj : j < B.length)
    (h : CX P ops Q n e0 (putE env dst undef) L' rest) (hg : gd ops n env g = some true := by rfl) (hx : ev n env x = some (.pointer (some ⟨b, 0 + j * 1, none⟩)) := by rfl)
    (hy : ev n env y = some (.int .u8 (c.toNat : Int)) := by rfl) (hu : Upd (bk b bt (cb B)) (bk b bt (cb (B.set j c))) L L' := by repeat (first | exact .head _ | apply Pick.tail | apply Upd.tail)) : CX P ops Q n e0 env L (⟨dst, .store t x y, ty, pos, aft, g⟩ :: rest) := by
  refine CX.storeC (Z := Z) (v := .int .u8 (c.toNat : Int)) (cs := cb B) (bt := bt) hg hx hy rfl (by intro u hu; simp [Value.cells] at hu; rw [hu]; rfl) ?_ (by simp; omega) h
  have e : setL (cb B) (0 + j * 1) (Value.int .u8 (c.toNat : Int)).cells.toList = cb (B.set j c) := cb_set0 B j hj c
  rw [e]; exact hu
/-- A slice of a byte, and its append. -/
theorem CX.appB {t e by_ : Nat} {z : Value} [E : ElemA P t e 1] [Z : ZeroA P e z] [I : InfA P e 1 by_ z] {y x : Operand} {d1 : Tmp} {ty2 : TypeId} {pos2 : String} {aft2 : Array Edge} {g2 : Option (Nat × Bool)} {dst2 : Option Tmp} {a : Option Addr} {k cap : Nat} {B : Blk} {M : List Assn} (c : UInt8)
    (hk : (k + 1) * by_ ≤ 140737488355328) (hz : z.cells.size = 1) (h : ∀ bq a' cap', CX P ops Q n e0 (putE (putE env (some d1) (.slice (some ⟨bq, 0, none⟩) 1 1)) dst2 (.slice a' (k + 1) cap')) (own e 1 a' (k + 1) cap' (cb (B ++ [c])) :: M) rest)
    (hg : gd ops n env g = some true := by rfl) (hg2 : ∀ v, gd ops n (putE env (some d1) v) g2 = some true := by intro v; rfl) (hy : ev n env y = some (.int .u8 (c.toNat : Int)) := by rfl) (hx : ∀ v, ev n (putE env (some d1) v) x = some (.slice a k cap) := by intro v; rfl) (hd : ∀ v, ev n (putE env (some d1) v) (.tmp d1) = some v := by intro v; rfl)
    (p : Pick (own e 1 a k cap (cb B)) L M := by repeat (first | exact .head _ | apply Pick.tail | apply Upd.tail)) :
    CX P ops Q n e0 env L (⟨some d1, .buildSlice t 1 #[(0, y)], ty, pos, aft, g⟩ :: ⟨dst2, .call ⟨.builtin .append, #[x, .tmp d1], #[t, t]⟩, ty2, pos2, aft2, g2⟩ :: rest) := by
  have hf : fillL (fun i => some (i * 1, 1)) ((Array.range (1 * 1)).map (z.cells[· % z.cells.size]!)).toList [(0, .int .u8 (c.toNat : Int))] = some [.int .u8 (c.toNat : Int)] := by
    simp [fillL, Value.cells, setL]
  refine CX.buildSl (parts := [(0, y)]) (vs := [(0, .int .u8 (c.toNat : Int))]) (out := [.int .u8 (c.toNat : Int)]) hg (by simp [evp, hy]) (by decide) hf fun bq => ?_
  refine CX.append (I := I) (m := 1) (news := [.int .u8 (c.toNat : Int)]) (hg2 _) (hx _) (hd _) (.tail p) (RdS.pick (.head _) rfl (by simp [Value.oneCell']) rfl) hk (fun hh => by cases hh) fun a' cap' => ?_
  have ea : cb B ++ [.int .u8 (c.toNat : Int)] = cb (B ++ [c]) := by simp [cb, ib]
  rw [ea]
  exact CX.mem (fun _ s => Sep.cons_mono (fun _ => Sep.tail) s) (h bq a' cap')
theorem CX.makeB {t e by_ : Nat} [E : ElemA P t e 1] [I : InfA P e 1 by_ (.int .u8 0)] {x y : Operand} {k k' : IntKind} {i : Int} (l : Nat) (hb : by_ * l ≤ 281474976710656) (h : ∀ b, CX P ops Q n e0 (putE env dst (.slice (some ⟨b, 0, none⟩) l l)) (own e 1 (some ⟨b, 0, none⟩) l l (cb (List.replicate l 0)) :: L) rest)
    (hg : gd ops n env g = some true := by rfl) (hx : ev n env x = some (.int k i) := by rfl) (hy : ev n env y = some (.int k' i) := by rfl) (hi : i = (l : Int) := by first | rfl | omega) : CX P ops Q n e0 env L (⟨dst, .makeSlice t x y, ty, pos, aft, g⟩ :: rest) := by
  refine CX.makeSl (I := I) (l := l) hg hx hy hi hb fun b => ?_
  have e : (madeCells (Value.int .u8 0).cells (l * 1)).toList = cb (List.replicate l 0) := by
    have := made_rep (.int .u8 0) 1 (l * 1) (by omega)
    rw [Nat.mul_one] at this ⊢
    simpa [Value.cells, cb, ib] using this
  rw [e]; exact h b
/-- Bytes behind an empty slice: new memory, of which all is known. -/
theorem CX.appendF {t e by_ : Nat} [E : ElemA P t e 1] [I : InfA P e 1 by_ (.int .u8 0)] {x y : Operand} {b0 m c : Nat} {b : Option Addr} {C : Blk} (hC : C.length = m) (h0 : 0 < m) (hb : m * by_ ≤ 140737488355328) (hr : RdS L b m (cb C))
    (h : ∀ q cap Z, m ≤ cap → Z.length = cap → Z.take m = C → CX P ops Q n e0 (putE env dst (.slice (some ⟨q, 0, none⟩) m cap)) (own e 1 (some ⟨q, 0, none⟩) cap cap (cb Z) :: L) rest)
    (hg : gd ops n env g = some true := by rfl) (hx : ev n env x = some (.slice (some ⟨b0, 0, none⟩) 0 0) := by rfl) (hy : ev n env y = some (.slice b m c) := by rfl) :
    CX P ops Q n e0 env L (⟨dst, .call ⟨.builtin .append, #[x, y], #[t, t]⟩, ty, pos, aft, g⟩ :: rest) := by
  refine CX.step hg fun w0 w hf hs he K hK => ?_
  obtain ⟨i, hi, hz, hsz, hby⟩ := info_parts I.inf
  obtain ⟨h1, hrd⟩ := hr
  obtain ⟨hl, hcell⟩ := hrd _ hs
  have hbp := I.bpos
  have hm63 : m ≤ m * by_ := Nat.le_mul_of_pos_right _ hbp
  rcases hcell with hc0 | ⟨q, off, cs, bt, fr, rfl, hq, hc⟩
  · omega
  have hrun := run_append_grow (P := P) w t ty e i (.int .u8 0) E.under hi hz ⟨b0, 0, none⟩ 0 0 [] (by simp) (by intro j v hj; simp at hj) ⟨q, off, none⟩ m c (cb C) (by rw [hsz, Nat.mul_one, length_cb, hC])
    (fun j v hj => by rw [addr_add]; exact cell_ph hq (hc j v hj)) (by omega) (by omega) (growslice_fits (by omega) (by rw [hby, Nat.zero_add]; exact hb))
  simp only [Nat.zero_add] at hrun
  have hge := grownCap_ge w m 0 e
  have hcm : grownCap w m 0 e ≤ maxLen := grownCap_le_maxLen w m 0 e (by unfold maxLen; omega)
  generalize grownCap w m 0 e = cap at hrun hge hcm
  have hr2 : (execOp w0.eval ⟨dst, .call ⟨.builtin .append, #[x, y], #[t, t]⟩, ty, pos, aft, g⟩).run P w = .ok (.value (.slice (some ⟨w.heap.size, 0, none⟩) m cap)) (w.drew.alloc (.cells ((cb (C ++ List.replicate (cap - m) 0)).toArray) e)) := by
    have ec : (([] : List Value).toArray ++ (cb C).toArray ++ Builtin.zeroCells (Value.int .u8 0).cells (cap - m)) = (cb (C ++ List.replicate (cap - m) 0)).toArray := by
      have ez : (Builtin.zeroCells (Value.int .u8 0).cells (cap - m)).toList = List.replicate (cap - m) (Value.int .u8 0) := by
        apply List.ext_getElem
        · simp [Builtin.zeroCells, Value.cells]
        · intro i h1 h2
          simp [Builtin.zeroCells, Value.cells, Nat.mod_one]
      apply Array.ext'
      simp [cb_append, ez]
      simp [cb, ib]
    rw [ec] at hrun
    simp [execOp, resolve, invoke, builtin, hf.eval hx, hf.eval hy, hrun]
  unfold Oper.wp
  rw [hr2]
  refine hK _ _ (h w.heap.size cap (C ++ List.replicate (cap - m) 0) hge (by simp; omega) (by rw [List.take_append_of_le_length (by omega), List.take_of_length_le (by omega)]) _ _ (hf.put dst _) ?_ (he.trans ⟨rfl, rfl, rfl⟩))
  rw [ph_alloc]
  refine Sep.push (ph_size w) (fun k hk => own_ok.2 ⟨by simp; omega, Nat.le_refl _, hcm, .inr ⟨_, _, rfl, hk, by simp; omega, by rw [Nat.mul_one]; exact List.take_of_length_le (by simp; omega)⟩⟩) hs
/-- A block that is a slice's own row. -/
theorem CX.ownBk {b e sz m : Nat} {cs : List Value} {M : List Assn} (p : Pick (bk b e cs) L M) (hl : cs.length = m * sz) (hm : m ≤ maxLen) (h : CX P ops Q n e0 env (own e sz (some ⟨b, 0, none⟩) m m cs :: M) rest) : CX P ops Q n e0 env L rest :=
  CX.mem (fun hp s => by
    obtain ⟨S, a, r⟩ := p.sep s
    exact ⟨S, own_ok.2 ⟨hl, Nat.le_refl _, hm, .inr ⟨b, cs.toArray, rfl, bk_ok.1 a, by simp [hl], by simp [hl, List.take_of_length_le]⟩⟩, r⟩) h
end
end Go.Cx
