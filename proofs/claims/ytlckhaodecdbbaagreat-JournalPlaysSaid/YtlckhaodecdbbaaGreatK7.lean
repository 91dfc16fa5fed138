/- Part K7: L7a, L7p, Lp. -/
import Derived.Test.YtlckhaodecdbbaaGreatK6
set_option linter.unusedVariables false
set_option linter.unusedSimpArgs false
/-! What is done to a journal and to the document's one (desk.act), in the program. -/
namespace Go.Cx
/-- An act that is handed in. -/
structure A7V where
  z : Int
  n : Int
  q : Int
  y : UInt8
  b : SlB
  p : SlI
def a7c (A : A7V) : List Value := [.int .i64 A.z, .int .i64 A.n, .int .i64 A.q, .int .u8 (A.y.toNat : Int), .slice A.b.a A.b.b.length A.b.c, .slice A.p.a A.p.l.length A.p.c]
structure A7V.ok (x : PH) (A : A7V) : Prop where
  z : -9223372036854775808 ≤ A.z ∧ A.z ≤ 9223372036854775807
  n : -9223372036854775808 ≤ A.n ∧ A.n ≤ 9223372036854775807
  q : -9223372036854775808 ≤ A.q ∧ A.q ≤ 9223372036854775807
  b : A.b.ok x
  p : A.p.ok x
theorem read_sure {D E : DS} (c : Cx.Calm D) (e : Cx.Calm E) (h64 : 64 ≤ D.sure.length) (hs : E.sure = D.sure) {J : JM} (hm : J.h.may) : readM J E = readM J D := by
  rw [read_cont c hm h64, read_cont e hm (by rw [hs]; exact h64), hs]
theorem arm_calm {D : DS} (c : Cx.Calm D) (n : Int) : Cx.Calm (D.arm n).2 ∧ (D.arm n).2.sure = D.sure := by
  unfold DS.arm
  split
  · exact ⟨c, rfl⟩
  · split
    · exact ⟨c, rfl⟩
    · exact ⟨⟨c.lit, c.loose⟩, rfl⟩
theorem rot_calm {D : DS} (c : Cx.Calm D) (n q : Int) (y : UInt8) : Cx.Calm (D.rot n q y).2 ∧ (D.rot n q y).2.sure.length = D.sure.length := by
  unfold DS.rot
  split
  · exact ⟨c, rfl⟩
  · split
    · exact ⟨c, rfl⟩
    · exact ⟨⟨c.lit, c.loose⟩, by simp⟩
theorem dkR {L M : List Assn} {b q t t2 : Nat} {vs ws cs : List Value} (p : Sel L [bk b t (vs ++ ws), bk q t2 cs] M) : ∀ h, Sep L h → Sep [fst b vs, bk q t2 cs] h := fun h s => Sep.weak1 (.head _) bk_fst (p.sep s).left
theorem PJ.sure {i n N M : Nat} {D E : DS} {J : JM} {bs : List Blk} (p : PJ i n N D J bs) (w : E.wf M) (e : Cx.Calm E) (hs : E.sure = D.sure) : PJ i n M E J bs :=
  ⟨w, e, by rw [hs]; exact p.len, by rw [hs]; exact p.new, p.top, p.may, by rw [read_sure p.calm e p.wf.lo hs p.may]; exact p.rd⟩
end Go.Cx
namespace Go.Proofs.YtlckhaodecdbbaaGreat
open Go.Cx
attribute [local irreducible] Go.Cx.CX Go.Cx.CC Go.Cx.CQ Go.Cx.PS Go.Cx.Ctr Go.Cx.CH
set_option maxRecDepth 10000
structure AI (i n N : Nat) (s : Two) (D : DS) : Prop where
  wf : D.wf N
  calm : Cx.Calm D
  len : D.sure.length = n
  js : ∀ u, s = some u → ∃ bs, PJ i n N D u.2.2 bs
theorem AI.up {i j n N M : Nat} {s : Two} {D : DS} (a : AI i n N s D) (h : i ≤ j) (k : N ≤ M) : AI j n M s D := ⟨wf_up a.wf k, a.calm, a.len, fun u hu => by
  obtain ⟨bs, p⟩ := a.js u hu
  exact ⟨bs, p.up h k⟩⟩
theorem AI.opened {i n N : Nat} {s : Two} {D : DS} (w : D.wf N) (c : Cx.Calm D) (hl : D.sure.length = n) (o : Opened D s) : AI i n N s D := ⟨w, c, hl, fun u hu => by
  rcases o with ⟨rfl, -⟩ | ⟨p, q, rfl, h0⟩
  · cases hu
  · obtain rfl := Option.some.inj hu
    obtain ⟨bs, h⟩ := open_gen w c hl h0
    exact ⟨bs, h.up (Nat.zero_le _) (Nat.le_refl _)⟩⟩
/-- How an act ends. -/
def ActP (dk d r i n N : Nat) (v : Value) (M : List Assn) : Prop := v = .bool true ∧ ∃ s' D', M = [deskA dk d r s' D'] ∧ D'.wf (N + 2060) ∧ D'.sure.length = n ∧ (D'.dark = false → AI (i + 1) n (N + 2060) s' D')
theorem desk_fst {dk d r : Nat} {s : Two} {D : DS} (k : PH) (h : (deskA dk d r s D).ok k) : (fst dk [.pointer (some ⟨d, 0, none⟩), .pointer (some ⟨r, 0, none⟩)]).ok k := by
  rw [deskA_eq] at h
  obtain ⟨-, -, hs⟩ := exA_ok.1 h
  exact bk_fst (ws := [twoJ s, twoK s]) _ hs.head
theorem deskR {L M : List Assn} {dk d r q t2 : Nat} {s : Two} {D : DS} {cs : List Value} (p : Sel L [deskA dk d r s D, bk q t2 cs] M) : ∀ h, Sep L h → Sep [fst dk [.pointer (some ⟨d, 0, none⟩), .pointer (some ⟨r, 0, none⟩)], bk q t2 cs] h := fun h s => Sep.weak1 (.head _) desk_fst (p.sep s).left
theorem out_ai {i n N : Nat} {J : JM} {D : DS} {bs bs' : List Blk} {r : Int × JM × DS} {p q : Nat} (o : OutJ i n N J D bs r bs') (w : r.2.2.wf (N + 2060)) : r.2.2.sure.length = n ∧ (r.2.2.dark = false → AI (i + 1) n (N + 2060) (some (p, q, r.2.1)) r.2.2) := by
  rcases o with ⟨rfl, h⟩ | ⟨h0, h⟩ | ⟨h0, h1, h2⟩
  · exact ⟨h.len, fun _ => ⟨w, h.calm, h.len, fun u hu => by obtain rfl := Option.some.inj hu; exact ⟨bs, h.up (by omega) (by omega)⟩⟩⟩
  · exact ⟨h.len, fun _ => ⟨w, h.calm, h.len, fun u hu => by obtain rfl := Option.some.inj hu; exact ⟨bs', h⟩⟩⟩
  · exact ⟨h2, fun h => by rw [h1] at h; cases h⟩
theorem ai_of {i n N p q : Nat} {J : JM} {D : DS} {bs : List Blk} (h : PJ i n N D J bs) : AI i n N (some (p, q, J)) D := ⟨h.wf, h.calm, h.len, fun u hu => by obtain rfl := Option.some.inj hu; exact ⟨bs, h⟩⟩
theorem ai_none {i n N : Nat} {D : DS} (w : D.wf N) (c : Cx.Calm D) (hl : D.sure.length = n) : AI i n N none D := ⟨w, c, hl, fun u hu => by cases hu⟩
theorem new_of {i n N : Nat} {D : DS} {J : JM} {bs : List Blk} (p : PJ i n N D J bs) : newR D = (J.n, J.h, 0) := by
  have h64 := p.wf.lo
  have r0 : D.read 0 = (D.sure.getD 0 [], 0) := p.calm.read (k := 0) (by omega)
  have r1 : D.read 1 = (D.sure.getD 1 [], 0) := p.calm.read (k := 1) (by omega)
  unfold newR
  rw [r0, r1]; exact p.new
set_option maxHeartbeats 2000000 in
theorem act7_c (dk d r : Nat) (s : Two) (D : DS) (A : A7V) {i n N : Nat} (ai : AI i n N s D) (hi : i ≤ 100) (hN : N < 900000) : Ctr Tryz.prog 15 [.pointer (some ⟨dk, 0, none⟩), .agg (a7c A).toArray] [deskA dk d r s D] (fun x => A.ok x) (ActP dk d r i n N) := by
  have hw := ai.wf
  have hlit := ai.calm.lit
  have h64 := hw.lo
  have same : ∀ {s' : Two}, s' = s → ActP dk d r i n N (.bool true) [deskA dk d r s' D] := fun e => ⟨rfl, s, D, by rw [e], wf_up hw (by omega), ai.len, fun _ => ai.up (by omega) (by omega)⟩
  refine Ctr.intro Tryz.func15 rfl Tryz.ntmps15 rfl fun x w hp => ?_
  have hok : A.ok x := hp
  refine wk ?_
  (refine CX.boxA (vs := a7c A) ?_; intro q3)
  by_cases hbig : (20000 : Int) < (A.b.b.length : Int)
  · refine wk ?_
    (apply CQ.end1; (· rfl); (· exact .tmp rfl))
    · exact same rfl
    · exact selA
  have hbl : A.b.b.length ≤ 20000 := by omega
  have hbn : A.b.a = none → A.b.b.length = 0 ∧ A.b.c = 0 := fun h => by obtain ⟨e1, e2⟩ := hok.b.nil h; rw [e1]; exact ⟨rfl, e2⟩
  by_cases hz0 : A.z = 0
  · rcases s with _ | ⟨p, q, J⟩
    · refine CX.openL (deskA_eq dk d r _ D) (by first | exact pickA | exact updA) ?_
      rintro ⟨⟩ -
      simp only [dks, dkc, twoJ, twoK, Option.map]
      refine wk ?_
      refine CC.draw [(0, 0), (1, 0), (2, 0), (3, 1), (4, 0), (5, 0), (6, 0), (7, 0), (8, 0), (9, 1), (10, 0), (11, 1), (13, 0), (14, 0), (15, 0), (16, 1), (17, 0), (18, 1), (12, 2), (19, 2), (20, 0), (21, 0), (22, 0)] mixed rfl (by kernel_rfl) (by kernel_rfl) [bk dk 44 ([.pointer (some ⟨d, 0, none⟩), .pointer (some ⟨r, 0, none⟩)] ++ [.pointer none, .pointer none]), bk q3 53 (a7c A)] ?_
      refine hwk ?_
      refine wk ?_
      refine CQ.shutL (deskA_eq dk d r none D) () trivial (by simp only [dks, dkc, twoJ, twoK, Option.map]; exact selA) ?_
      (apply CQ.end1; (· rfl); (· exact .tmp rfl))
      · exact same rfl
      · exact selA
    · obtain ⟨bs, pj⟩ := ai.js _ rfl
      dsimp only at pj
      have htop := pj.top
      have hja := japp_c p d J (by omega) pj.may D hw (by omega) A.b.b (by omega) A.b.a A.b.c hbn
      have hra := r7app_c q r J (by omega) pj.may D hw (by omega) pj.calm (new_of pj) (by rw [bank_eq]; exact pj.room) A.b.b (by omega) A.b.a A.b.c hbn
      have hout := fun w => pj.append (b := A.b.b) (by omega) (by omega) w
      unfold DoneP at hja
      generalize appendM J D A.b.b = u at *
      refine CX.openL (deskA_eq dk d r _ D) (by first | exact pickA | exact updA) ?_
      rintro ⟨⟩ -
      simp only [dks, dkc, twoJ, twoK, Option.map]
      refine wk ?_
      refine CC.draw [(0, 0), (1, 0), (2, 0), (3, 1), (4, 0), (5, 0), (6, 0), (7, 0), (8, 0), (9, 1), (10, 0), (11, 1), (13, 0), (14, 0), (15, 0), (16, 1), (17, 0), (18, 1), (12, 2), (19, 2), (20, 0), (21, 0), (22, 0)] mixed rfl (by kernel_rfl) (by kernel_rfl) [bk dk 44 ([.pointer (some ⟨d, 0, none⟩), .pointer (some ⟨r, 0, none⟩)] ++ [.pointer (some ⟨p, 0, none⟩), .pointer (some ⟨q, 0, none⟩)]), bk q3 53 (a7c A)] ?_
      refine hwk ?_
      refine CH.chain rfl fun K hK => ?_
      refine CX.callA (hja) ?_ (hpre := by exact rdx_ex (by first | exact pickA | exact updA) hok.b.r)
      rintro _ _ ⟨rfl, rfl, hwf⟩
      (refine CX.nil ?_; refine CQ.thenK ?_; apply hK; (· exact selA); clear hK K)
      refine CH.chain rfl fun K hK => ?_
      refine CX.callA (hra) ?_ (hpre := by exact rdx_ex (by first | exact pickA | exact updA) hok.b.r)
      rintro _ _ ⟨rfl, rfl⟩
      (refine CX.nil ?_; refine CQ.thenK ?_; apply hK; (· exact selA); clear hK K)
      refine hwk ?_
      refine wk ?_
      refine CQ.shutL (deskA_eq dk d r (some (p, q, u.2.1)) u.2.2) () trivial (by simp only [dks, dkc, twoJ, twoK, Option.map]; exact selA) ?_
      (apply CQ.end1; (· rfl); (· exact .tmp rfl))
      · exact ⟨rfl, some (p, q, u.2.1), u.2.2, rfl, hwf, out_ai (hout hwf) hwf⟩
      · exact selA
  by_cases hz1 : A.z = 1
  · rcases s with _ | ⟨p, q, J⟩
    · refine CX.openL (deskA_eq dk d r _ D) (by first | exact pickA | exact updA) ?_
      rintro ⟨⟩ -
      simp only [dks, dkc, twoJ, twoK, Option.map]
      refine wk ?_
      refine CC.draw [(0, 0), (1, 0), (2, 0), (3, 1), (4, 0), (5, 0), (6, 0), (7, 0), (8, 0), (9, 1), (10, 0), (11, 1), (13, 0), (14, 0), (15, 0), (16, 1), (17, 0), (18, 1), (12, 2), (19, 2), (20, 0), (21, 0), (22, 0)] mixed rfl (by kernel_rfl) (by kernel_rfl) [bk dk 44 ([.pointer (some ⟨d, 0, none⟩), .pointer (some ⟨r, 0, none⟩)] ++ [.pointer none, .pointer none]), bk q3 53 (a7c A)] ?_
      refine hwk ?_
      refine wk ?_
      refine CQ.shutL (deskA_eq dk d r none D) () trivial (by simp only [dks, dkc, twoJ, twoK, Option.map]; exact selA) ?_
      (apply CQ.end1; (· rfl); (· exact .tmp rfl))
      · exact same rfl
      · exact selA
    · obtain ⟨bs, pj⟩ := ai.js _ rfl
      dsimp only at pj
      have htop := pj.top
      have hja := jrep_c p d J (by omega) pj.may D hw (by omega) A.b.b (by omega) A.b.a A.b.c hbn
      have hra := r7rep_c q r J (by omega) pj.may D hw (by omega) pj.calm (new_of pj) A.b.b (by omega) A.b.a A.b.c hbn
      have hout := fun w => pj.replace (b := A.b.b) (by omega) (by omega) w
      unfold DoneP at hja
      generalize replaceM J D A.b.b = u at *
      refine CX.openL (deskA_eq dk d r _ D) (by first | exact pickA | exact updA) ?_
      rintro ⟨⟩ -
      simp only [dks, dkc, twoJ, twoK, Option.map]
      refine wk ?_
      refine CC.draw [(0, 0), (1, 0), (2, 0), (3, 1), (4, 0), (5, 0), (6, 0), (7, 0), (8, 0), (9, 1), (10, 0), (11, 1), (13, 0), (14, 0), (15, 0), (16, 1), (17, 0), (18, 1), (12, 2), (19, 2), (20, 0), (21, 0), (22, 0)] mixed rfl (by kernel_rfl) (by kernel_rfl) [bk dk 44 ([.pointer (some ⟨d, 0, none⟩), .pointer (some ⟨r, 0, none⟩)] ++ [.pointer (some ⟨p, 0, none⟩), .pointer (some ⟨q, 0, none⟩)]), bk q3 53 (a7c A)] ?_
      refine hwk ?_
      refine CH.chain rfl fun K hK => ?_
      refine CX.callA (hja) ?_ (hpre := by exact rdx_ex (by first | exact pickA | exact updA) hok.b.r)
      rintro _ _ ⟨rfl, rfl, hwf⟩
      (refine CX.nil ?_; refine CQ.thenK ?_; apply hK; (· exact selA); clear hK K)
      refine CH.chain rfl fun K hK => ?_
      refine CX.callA (hra) ?_ (hpre := by exact rdx_ex (by first | exact pickA | exact updA) hok.b.r)
      rintro _ _ ⟨rfl, rfl⟩
      (refine CX.nil ?_; refine CQ.thenK ?_; apply hK; (· exact selA); clear hK K)
      refine hwk ?_
      refine wk ?_
      refine CQ.shutL (deskA_eq dk d r (some (p, q, u.2.1)) u.2.2) () trivial (by simp only [dks, dkc, twoJ, twoK, Option.map]; exact selA) ?_
      (apply CQ.end1; (· rfl); (· exact .tmp rfl))
      · exact ⟨rfl, some (p, q, u.2.1), u.2.2, rfl, hwf, out_ai (hout hwf) hwf⟩
      · exact selA
  by_cases hz2 : A.z = 2
  · refine wk ?_
    refine CX.callA (open7_c dk d r s D hw (by omega) hlit) ?_
    rintro _ _ ⟨rfl, s', rfl, hs'⟩
    refine wk ?_
    (apply CQ.end1; (· rfl); (· exact .tmp rfl))
    · exact ⟨rfl, s', D, rfl, wf_up hw (by omega), ai.len, fun _ => (AI.opened hw ai.calm ai.len hs').up (Nat.le_refl _) (by omega)⟩
    · exact selA
  by_cases hz3 : A.z = 3
  · have hjm := jmake_c d D hw (by omega)
    have hrm := r7make_c r D hw (by omega) ai.calm
    have hmg := make_gen hw ai.calm ai.len
    unfold MadeP at hjm
    unfold RMadeP at hrm
    generalize makeM D = u at *
    rcases s with _ | ⟨p, q, J⟩
    all_goals
      refine CX.openL (deskA_eq dk d r _ D) (by first | exact pickA | exact updA) ?_
      rintro ⟨⟩ -
      simp only [dks, dkc, twoJ, twoK, Option.map]
      refine wk ?_
      refine CX.callA (hjm) ?_
      rintro _ _ ⟨-, hj⟩
      obtain ⟨hwf, hj1, hj2⟩ := hj hlit
      have hmg' := hmg hwf
      by_cases he : u.1 = 0
      · obtain ⟨p', rfl, rfl⟩ := hj2 he
        have pj := (hmg'.resolve_right fun h => by omega).2
        refine wk ?_
        refine CX.callA (hrm) ?_
        rintro _ _ ⟨-, hr2⟩
        obtain ⟨q', rfl, rfl⟩ := hr2 he
        refine wk ?_
        (refine CX.ps (PS.eqlBool true ?_ Tryz.underlying4 rfl rfl rfl) ?_; (· rfl))
        refine wk ?_
        refine CQ.shutL (deskA_eq dk d r (some (p', q', u.2.1)) u.2.2) () trivial (by simp only [dks, dkc, twoJ, twoK, Option.map]; exact selA) ?_
        (apply CQ.end1; (· rfl); (· exact .tmp rfl))
        · exact ⟨rfl, some (p', q', u.2.1), u.2.2, rfl, hwf, pj.len, fun _ => ai_of (pj.up (Nat.zero_le _) (Nat.le_refl _))⟩
        · exact selA
      · obtain ⟨rfl, rfl⟩ := hj1 he
        obtain ⟨h9, hdk, hln⟩ := hmg'.resolve_left fun h => he h.1
        rw [h9] at hrm ⊢
        refine wk ?_
        refine CX.callA (hrm) ?_
        rintro _ _ ⟨hr1, -⟩
        obtain ⟨rfl, rfl⟩ := hr1 (by decide)
        refine wk ?_
        (refine CX.ps (PS.eqlBool true ?_ Tryz.underlying4 rfl rfl rfl) ?_; (· rfl))
        refine wk ?_
        refine CQ.shutL (deskA_eq dk d r none u.2.2) () trivial (by simp only [dks, dkc, twoJ, twoK, Option.map]; exact selA) ?_
        (apply CQ.end1; (· rfl); (· exact .tmp rfl))
        · exact ⟨rfl, none, u.2.2, rfl, hwf, hln, fun h => by rw [hdk] at h; cases h⟩
        · exact selA
  by_cases hz4 : A.z = 4
  · have hac := arm_calm ai.calm A.n
    have haw : (D.arm A.n).2.wf (N + 1) := act_wf hw 3 A.n 0 0 zblk WB_z hok.n.2 []
    have hja := arm_c d D A.n
    have hra := rarm_c r D A.n (by omega)
    generalize D.arm A.n = u at *
    rcases s with _ | ⟨p, q, J⟩
    · refine CX.openL (deskA_eq dk d r _ D) (by first | exact pickA | exact updA) ?_
      rintro ⟨⟩ -
      simp only [dks, dkc, twoJ, twoK, Option.map]
      refine wk ?_
      refine CC.draw [(0, 0), (1, 0), (2, 0), (3, 1), (4, 0), (5, 1), (7, 0), (8, 0), (9, 0), (10, 1), (11, 0), (12, 1), (6, 2), (13, 2), (14, 0), (15, 0)] mixed rfl (by kernel_rfl) (by kernel_rfl) [bk dk 44 ([.pointer (some ⟨d, 0, none⟩), .pointer (some ⟨r, 0, none⟩)] ++ [.pointer none, .pointer none]), bk q3 53 (a7c A)] ?_
      refine hwk ?_
      refine CH.chain rfl fun K hK => ?_
      refine CX.callA (hja) ?_
      rintro _ _ ⟨rfl, rfl⟩
      (refine CX.nil ?_; refine CQ.thenK ?_; apply hK; (· exact selA); clear hK K)
      refine CH.chain rfl fun K hK => ?_
      refine CX.callA (hra) ?_
      rintro _ _ ⟨rfl, rfl⟩
      (refine CX.nil ?_; refine CQ.thenK ?_; apply hK; (· exact selA); clear hK K)
      refine hwk ?_
      refine wk ?_
      refine CQ.shutL (deskA_eq dk d r none u.2) () trivial (by simp only [dks, dkc, twoJ, twoK, Option.map]; exact selA) ?_
      (apply CQ.end1; (· rfl); (· exact .tmp rfl))
      · exact ⟨rfl, none, u.2, rfl, wf_up haw (by omega), by rw [hac.2]; exact ai.len, fun _ => ai_none (wf_up haw (by omega)) hac.1 (by rw [hac.2]; exact ai.len)⟩
      · exact selA
    · obtain ⟨bs, pj⟩ := ai.js _ rfl
      dsimp only at pj
      refine CX.openL (deskA_eq dk d r _ D) (by first | exact pickA | exact updA) ?_
      rintro ⟨⟩ -
      simp only [dks, dkc, twoJ, twoK, Option.map]
      refine wk ?_
      refine CC.draw [(0, 0), (1, 0), (2, 0), (3, 1), (4, 0), (5, 1), (7, 0), (8, 0), (9, 0), (10, 1), (11, 0), (12, 1), (6, 2), (13, 2), (14, 0), (15, 0)] mixed rfl (by kernel_rfl) (by kernel_rfl) [bk dk 44 ([.pointer (some ⟨d, 0, none⟩), .pointer (some ⟨r, 0, none⟩)] ++ [.pointer (some ⟨p, 0, none⟩), .pointer (some ⟨q, 0, none⟩)]), bk q3 53 (a7c A)] ?_
      refine hwk ?_
      refine CH.chain rfl fun K hK => ?_
      refine CX.callA (hja) ?_
      rintro _ _ ⟨rfl, rfl⟩
      (refine CX.nil ?_; refine CQ.thenK ?_; apply hK; (· exact selA); clear hK K)
      refine CH.chain rfl fun K hK => ?_
      refine CX.callA (hra) ?_
      rintro _ _ ⟨rfl, rfl⟩
      (refine CX.nil ?_; refine CQ.thenK ?_; apply hK; (· exact selA); clear hK K)
      refine hwk ?_
      refine wk ?_
      refine CQ.shutL (deskA_eq dk d r (some (p, q, J)) u.2) () trivial (by simp only [dks, dkc, twoJ, twoK, Option.map]; exact selA) ?_
      (apply CQ.end1; (· rfl); (· exact .tmp rfl))
      · exact ⟨rfl, some (p, q, J), u.2, rfl, wf_up haw (by omega), by rw [hac.2]; exact ai.len, fun _ => ai_of ((pj.sure haw hac.1 hac.2).up (Nat.le_succ _) (by omega))⟩
      · exact selA
  have hrw : (D.rot A.n A.q A.y).2.wf (N + 1) := act_wf hw 6 A.n A.q A.y zblk WB_z hok.n.2 []
  obtain ⟨hrc, hrl⟩ := rot_calm ai.calm A.n A.q A.y
  rw [ai.len] at hrl
  have hjr := rot_c d D A.n A.q A.y hw (by omega)
  have hrr := rrot_c r D A.n A.q A.y hw (by omega)
  have hop := fun s => open7_c dk d r s (D.rot A.n A.q A.y).2 hrw (by omega) hrc.lit
  generalize D.rot A.n A.q A.y = u at *
  rcases s with _ | ⟨p, q, J⟩
  · refine CX.openL (deskA_eq dk d r _ D) (by first | exact pickA | exact updA) ?_
    rintro ⟨⟩ -
    simp only [dks, dkc, twoJ, twoK, Option.map]
    refine wk ?_
    refine CC.draw [(0, 0), (1, 0), (2, 0), (3, 1), (4, 0), (5, 1), (6, 0), (7, 1), (8, 0), (9, 1), (11, 0), (12, 0), (13, 0), (14, 1), (15, 0), (16, 1), (17, 0), (18, 1), (19, 0), (20, 1), (10, 2), (21, 2), (22, 0), (23, 0), (24, 0), (25, 2), (26, 0), (27, 0)] mixed rfl (by kernel_rfl) (by kernel_rfl) [fst dk [.pointer (some ⟨d, 0, none⟩), .pointer (some ⟨r, 0, none⟩)], bk q3 53 (a7c A)] ?_
    refine hwk ?_
    refine CH.readW (PS.load (v := .pointer (some ⟨d, 0, none⟩)) rfl rfl (CellAt.fst (by first | exact pickA | exact updA) rfl)) (dkR (by exact selA)) ?_
    refine hwk ?_
    refine CH.readW (PS.load (v := .int .i64 A.n) rfl rfl (CellAt.pick (by first | exact pickA | exact updA) rfl)) (dkR (by exact selA)) ?_
    refine hwk ?_
    refine CH.readW (PS.load (v := .int .i64 A.q) rfl rfl (CellAt.pick (by first | exact pickA | exact updA) rfl)) (dkR (by exact selA)) ?_
    refine hwk ?_
    refine CH.readW (PS.load (v := .int .u8 (A.y.toNat : Int)) rfl rfl (CellAt.pick (by first | exact pickA | exact updA) rfl)) (dkR (by exact selA)) ?_
    refine hwk ?_
    refine CH.readW (PS.load (v := .pointer (some ⟨r, 0, none⟩)) rfl rfl (CellAt.fst (by first | exact pickA | exact updA) rfl)) (dkR (by exact selA)) ?_
    refine hwk ?_
    refine CH.readW (PS.load (v := .int .i64 A.n) rfl rfl (CellAt.pick (by first | exact pickA | exact updA) rfl)) (dkR (by exact selA)) ?_
    refine hwk ?_
    refine CH.readW (PS.load (v := .int .i64 A.q) rfl rfl (CellAt.pick (by first | exact pickA | exact updA) rfl)) (dkR (by exact selA)) ?_
    refine hwk ?_
    refine CH.readW (PS.load (v := .int .u8 (A.y.toNat : Int)) rfl rfl (CellAt.pick (by first | exact pickA | exact updA) rfl)) (dkR (by exact selA)) ?_
    refine CH.chainW fun K hK => ?_
    refine CX.callA (hjr) ?_
    rintro _ _ ⟨rfl, rfl⟩
    (refine CX.nil ?_; refine CQ.thenK ?_; apply hK; (· exact dkR (by exact selA)); clear hK K)
    refine CH.chainW fun K hK => ?_
    refine CX.callA (hrr) ?_
    rintro _ _ ⟨rfl, rfl⟩
    (refine CX.nil ?_; refine CQ.thenK ?_; apply hK; (· exact dkR (by exact selA)); clear hK K)
    refine hwk ?_
    refine CH.chainW fun K hK => ?_
    refine CX.shutL (deskA_eq dk d r none u.2) () trivial (by simp only [dks, dkc, twoJ, twoK, Option.map]; exact selA) ?_
    refine CX.callA (hop none) ?_
    rintro _ _ ⟨rfl, s', rfl, hs'⟩
    (refine CX.nil ?_; refine CQ.thenK ?_; apply hK; (· exact deskR (by exact selA)); clear hK K)
    refine hwk ?_
    refine wk ?_
    (apply CQ.end1; (· rfl); (· exact .tmp rfl))
    · exact ⟨rfl, s', u.2, rfl, wf_up hrw (by omega), hrl, fun _ => (AI.opened hrw hrc hrl hs').up (Nat.le_refl _) (by omega)⟩
    · exact selA
  · refine CX.openL (deskA_eq dk d r _ D) (by first | exact pickA | exact updA) ?_
    rintro ⟨⟩ -
    simp only [dks, dkc, twoJ, twoK, Option.map]
    refine wk ?_
    refine CC.draw [(0, 0), (1, 0), (2, 0), (3, 1), (4, 0), (5, 1), (6, 0), (7, 1), (8, 0), (9, 1), (11, 0), (12, 0), (13, 0), (14, 1), (15, 0), (16, 1), (17, 0), (18, 1), (19, 0), (20, 1), (10, 2), (21, 2), (22, 0), (23, 0), (24, 0), (25, 2), (26, 0), (27, 0)] mixed rfl (by kernel_rfl) (by kernel_rfl) [fst dk [.pointer (some ⟨d, 0, none⟩), .pointer (some ⟨r, 0, none⟩)], bk q3 53 (a7c A)] ?_
    refine hwk ?_
    refine CH.readW (PS.load (v := .pointer (some ⟨d, 0, none⟩)) rfl rfl (CellAt.fst (by first | exact pickA | exact updA) rfl)) (dkR (by exact selA)) ?_
    refine hwk ?_
    refine CH.readW (PS.load (v := .int .i64 A.n) rfl rfl (CellAt.pick (by first | exact pickA | exact updA) rfl)) (dkR (by exact selA)) ?_
    refine hwk ?_
    refine CH.readW (PS.load (v := .int .i64 A.q) rfl rfl (CellAt.pick (by first | exact pickA | exact updA) rfl)) (dkR (by exact selA)) ?_
    refine hwk ?_
    refine CH.readW (PS.load (v := .int .u8 (A.y.toNat : Int)) rfl rfl (CellAt.pick (by first | exact pickA | exact updA) rfl)) (dkR (by exact selA)) ?_
    refine hwk ?_
    refine CH.readW (PS.load (v := .pointer (some ⟨r, 0, none⟩)) rfl rfl (CellAt.fst (by first | exact pickA | exact updA) rfl)) (dkR (by exact selA)) ?_
    refine hwk ?_
    refine CH.readW (PS.load (v := .int .i64 A.n) rfl rfl (CellAt.pick (by first | exact pickA | exact updA) rfl)) (dkR (by exact selA)) ?_
    refine hwk ?_
    refine CH.readW (PS.load (v := .int .i64 A.q) rfl rfl (CellAt.pick (by first | exact pickA | exact updA) rfl)) (dkR (by exact selA)) ?_
    refine hwk ?_
    refine CH.readW (PS.load (v := .int .u8 (A.y.toNat : Int)) rfl rfl (CellAt.pick (by first | exact pickA | exact updA) rfl)) (dkR (by exact selA)) ?_
    refine CH.chainW fun K hK => ?_
    refine CX.callA (hjr) ?_
    rintro _ _ ⟨rfl, rfl⟩
    (refine CX.nil ?_; refine CQ.thenK ?_; apply hK; (· exact dkR (by exact selA)); clear hK K)
    refine CH.chainW fun K hK => ?_
    refine CX.callA (hrr) ?_
    rintro _ _ ⟨rfl, rfl⟩
    (refine CX.nil ?_; refine CQ.thenK ?_; apply hK; (· exact dkR (by exact selA)); clear hK K)
    refine hwk ?_
    refine CH.chainW fun K hK => ?_
    refine CX.shutL (deskA_eq dk d r (some (p, q, J)) u.2) () trivial (by simp only [dks, dkc, twoJ, twoK, Option.map]; exact selA) ?_
    refine CX.callA (hop (some (p, q, J))) ?_
    rintro _ _ ⟨rfl, s', rfl, hs'⟩
    (refine CX.nil ?_; refine CQ.thenK ?_; apply hK; (· exact deskR (by exact selA)); clear hK K)
    refine hwk ?_
    refine wk ?_
    (apply CQ.end1; (· rfl); (· exact .tmp rfl))
    · exact ⟨rfl, s', u.2, rfl, wf_up hrw (by omega), hrl, fun _ => (AI.opened hrw hrc hrl hs').up (Nat.le_refl _) (by omega)⟩
    · exact selA
end Go.Proofs.YtlckhaodecdbbaaGreat
/-! The statement JournalPlays, in the program. -/
namespace Go.Cx
theorem a7_len (l : List A7V) : ∀ y ∈ l, (a7c y).length = 6 := fun _ _ => rfl
theorem a7_mono {x y : PH} {A : A7V} (h : A.ok x) (l : Le x y) : A.ok y := ⟨h.z, h.n, h.q, h.b.mono l, ⟨h.p.le, h.p.max, h.p.rng, rdx_mono h.p.r l⟩⟩
theorem crash_calm (D : DS) (picks : List Int) : Cx.Calm (D.crash picks) ∧ (D.crash picks).sure.length = D.sure.length := ⟨⟨rfl, rfl⟩, by show (settleL D.sure picks 0 0 D.loose).length = _; rw [length_settleL]⟩
theorem crash_wf2 {D : DS} {N : Nat} (h : D.wf N) (picks : List Int) : (D.crash picks).wf N := by
  have ws := settle_wf h picks 0
  exact ⟨ws.lo, ws.hi, ws.wb, ws.lb, by simp [DS.crash], by simp [DS.crash], ws.steps, ws.loose⟩
end Go.Cx
namespace Go.Proofs.YtlckhaodecdbbaaGreat
open Go.Cx
attribute [local irreducible] Go.Cx.CX Go.Cx.CC Go.Cx.CQ Go.Cx.PS Go.Cx.Ctr Go.Cx.CH
set_option maxRecDepth 10000
/-- The desk but for the two disks. -/
@[irreducible] def restA (dk d r : Nat) (s : Two) : Assn := exA (X := Unit) (fun _ => True) fun _ => bk dk 44 (dkc d r s) :: dks d r s
theorem restA_eq (dk d r : Nat) (s : Two) : restA dk d r s = exA (X := Unit) (fun _ => True) fun _ => bk dk 44 (dkc d r s) :: dks d r s := by unfold restA; rfl
theorem sel_app : ∀ (H L : List Assn), Sel (H ++ L) H L
  | [], L => .nil L
  | A :: H, L => .cons (.head _) (sel_app H L)
theorem desk_open {dk d r : Nat} {s : Two} {D : DS} {L L' : List Assn} (p : Pick (deskA dk d r s D) L L') : ∀ h, Sep L h → Sep (disk d D :: rdisk r D :: restA dk d r s :: L') h := fun h hs => by
  rw [deskA_eq] at p
  obtain ⟨-, -, h1⟩ := Sep.open p hs
  have h2 : Sep (disk d D :: rdisk r D :: bk dk 44 (dkc d r s) :: (dks d r s ++ L')) h := Sep.cons_mono (fun _ => Sep.swap) (Sep.swap h1)
  refine Sep.cons_mono (fun _ => Sep.cons_mono fun _ h3 => ?_) h2
  rw [restA_eq]
  exact Sep.shut () trivial (sel_app (bk dk 44 (dkc d r s) :: dks d r s) L') h3
theorem desk_shut {dk d r : Nat} {s : Two} {D : DS} {L L' : List Assn} (p : Sel L [disk d D, rdisk r D, restA dk d r s] L') : ∀ h, Sep L h → Sep (deskA dk d r s D :: L') h := fun h hs => by
  have h1 : Sep (disk d D :: rdisk r D :: restA dk d r s :: L') h := p.sep hs
  have h2 : Sep (disk d D :: rdisk r D :: bk dk 44 (dkc d r s) :: (dks d r s ++ L')) h := by
    refine Sep.cons_mono (fun _ => Sep.cons_mono fun _ h3 => ?_) h1
    rw [restA_eq] at h3
    obtain ⟨-, -, h4⟩ := Sep.open (.head _) h3
    exact h4
  have h3 : Sep (bk dk 44 (dkc d r s) :: disk d D :: rdisk r D :: (dks d r s ++ L')) h := Sep.swap (Sep.cons_mono (fun _ => Sep.swap) h2)
  rw [deskA_eq]
  exact Sep.shut () trivial (sel_app (bk dk 44 (dkc d r s) :: disk d D :: rdisk r D :: dks d r s) L') h3
theorem alike_of {i n N : Nat} {s : Two} {D : DS} (ai : AI i n N s D) : ∀ u, s = some u → u.2.2.h.may ∧ newR D = (u.2.2.n, u.2.2.h, 0) ∧ (readM u.2.2 D).2 = 0 := fun u hu => by
  obtain ⟨bs, pj⟩ := ai.js u hu
  exact ⟨pj.may, new_of pj, by rw [pj.rd]⟩
set_option maxHeartbeats 1000000 in
theorem plays7_c (n : Nat) (hn : n < 256) (l : List A7V) (a : Option Addr) (c : Nat) : Ctr Tryz.prog 4 [.int .u8 (n : Int), .slice a l.length c] [] (fun x => rdx a (l.length * 6) (rows a7c l) x ∧ ∀ A ∈ l, A.ok x) (fun v M => v = .bool true ∧ M = []) := by
  refine Ctr.intro Tryz.func4 rfl Tryz.ntmps4 rfl fun x w hp => ?_
  obtain ⟨hp, hoks⟩ := hp
  refine wk ?_
  refine CX.callA (new_c ((64 : Int) + (n : Int))) ?_
  rw [show ((64 : Int) + (n : Int)).toNat = 64 + n by omega]
  rintro _ _ (⟨-, -, d, rfl, rfl⟩ | ⟨h, -, -⟩)
  rotate_left
  · omega
  refine wk ?_
  refine CX.callA (rnew_c ((64 : Int) + (n : Int))) ?_
  rw [show ((64 : Int) + (n : Int)).toNat = 64 + n by omega]
  rintro _ _ (⟨-, -, r, rfl, rfl⟩ | ⟨h, -, -⟩)
  rotate_left
  · omega
  refine wk ?_
  refine CX.ps (PS.build (vs := [(0, .pointer (some ⟨d, 0, none⟩)), (1, .pointer (some ⟨r, 0, none⟩))]) (out := dkc d r none) rfl rfl rfl) ?_
  (refine CX.boxA (vs := dkc d r none) ?_; intro dk)
  refine wk ?_
  refine CC.shutL (deskA_eq dk d r none (DS.new (64 + n))) () trivial (by simp only [dks]; exact selA) ?_
  have hw0 := new_wf (k := 64 + n) (by omega) (by omega)
  refine CC.loop (X := Nat × Two × DS) (fun s => [(11, .int .i64 (s.1 : Int)), (1, .slice a l.length c), (5, .int .i64 (64 + (n : Int))), (6, .pointer (some ⟨d, 0, none⟩)), (8, .pointer (some ⟨r, 0, none⟩)), (10, .pointer (some ⟨dk, 0, none⟩))])
    (fun s => [deskA dk d r s.2.1 s.2.2, exact x]) (fun s => s.1 ≤ 30 ∧ AI s.1 (64 + n) (s.1 * 2060) s.2.1 s.2.2) (fun s => 30 - s.1) (0, none, DS.new (64 + n)) ⟨Nat.zero_le _, ai_none hw0 ⟨rfl, rfl⟩ (new_len _)⟩ ⟨rfl, rfl, rfl, rfl, rfl, rfl, trivial⟩ (by exact selA) ?_
  rintro ⟨i, s, D⟩ ⟨hi, ai⟩
  dsimp only at hi ai ⊢
  by_cases h1 : i < l.length ∧ i < 30
  rotate_left
  · have hw := ai.wf
    have hlen := ai.len
    refine CC.mem (desk_open (by first | exact pickA | exact updA)) ?_
    by_cases h2 : i < l.length
    · have h3 : ¬ (i : Int) < 30 := by omega
      refine wk ?_
      refine CC.loop (X := Nat) (fun k => [(12, .int .i64 (k : Int)), (5, .int .i64 (64 + (n : Int))), (6, .pointer (some ⟨d, 0, none⟩)), (8, .pointer (some ⟨r, 0, none⟩))]) (fun k => [disk d D, rdisk r D, exact x]) (fun k => k ≤ 64 + n) (fun k => 64 + n - k) 0 (Nat.zero_le _) ⟨rfl, rfl, rfl, rfl, trivial⟩ (by exact selA) ?_
      intro k hk
      by_cases h4 : k < 64 + n
      · have h5 : (k : Int) < 64 + (n : Int) := by omega
        have hX := sureAt_WB hw (k : Int)
        have hs1 := sure_c d D (k : Int) hw
        have hs2 := rsure_c r D (k : Int) hw
        generalize D.sureAt (k : Int) = X at *
        refine wk ?_
        refine CX.callA (hs1) ?_
        rintro _ _ ⟨rfl, rfl⟩
        refine wk ?_
        refine CX.allocZ (cb zblk) ?_
        intro q13
        (apply CX.storeAll; (· rfl); (· rfl); (· rfl); (· first | exact pickA | exact updA); (· exact hX.len); (· exact WB_z.len); (· exact one_cb _))
        refine wk ?_
        refine CX.callA (hs2) ?_
        rintro _ _ ⟨rfl, rfl⟩
        refine wk ?_
        refine CX.allocZ (cb zblk) ?_
        intro q15
        (apply CX.storeAll; (· rfl); (· rfl); (· rfl); (· first | exact pickA | exact updA); (· exact hX.len); (· exact WB_z.len); (· exact one_cb _))
        refine wk ?_
        (apply CX.ps; (· apply PS.loadG (vs := cb X.1); (· rfl); (· rfl); (· exact CellsAt.all (by first | exact pickA | exact updA)); (· exact hX.len)))
        (apply CX.ps; (· apply PS.loadG (vs := cb X.1); (· rfl); (· rfl); (· exact CellsAt.all (by first | exact pickA | exact updA)); (· exact hX.len)))
        (apply CX.ps; (· refine PS.toF (PS.neqB (a := X.1) (b := X.1) ?_ ?_ ?_ ?_ ?_) ?_; (· rfl); (· rfl); (· rfl); (· exact hX); (· exact hX); (· simp)))
        refine wk ?_
        exact CQ.round (k + 1) h4 (by omega) ⟨eqI (by omega), rfl, rfl, rfl, trivial⟩ (by exact selA)
      · have h5 : ¬ (k : Int) < 64 + (n : Int) := by omega
        refine wk ?_
        refine CX.callA (steps_c d D) ?_
        rintro _ _ ⟨rfl, rfl⟩
        refine wk ?_
        refine CX.callA (rsteps_c r D) ?_
        rintro _ _ ⟨rfl, rfl⟩
        refine wk ?_
        refine CX.callA (lives7_c) ?_
        rintro _ _ ⟨rfl, rfl⟩
        refine wk ?_
        ((apply CQ.end1; (· rfl); (· exact .tmp rfl)); (· exact ⟨rfl, rfl⟩); (· exact selA))
    · refine wk ?_
      refine CC.loop (X := Nat) (fun k => [(12, .int .i64 (k : Int)), (5, .int .i64 (64 + (n : Int))), (6, .pointer (some ⟨d, 0, none⟩)), (8, .pointer (some ⟨r, 0, none⟩))]) (fun k => [disk d D, rdisk r D, exact x]) (fun k => k ≤ 64 + n) (fun k => 64 + n - k) 0 (Nat.zero_le _) ⟨rfl, rfl, rfl, rfl, trivial⟩ (by exact selA) ?_
      intro k hk
      by_cases h4 : k < 64 + n
      · have h5 : (k : Int) < 64 + (n : Int) := by omega
        have hX := sureAt_WB hw (k : Int)
        have hs1 := sure_c d D (k : Int) hw
        have hs2 := rsure_c r D (k : Int) hw
        generalize D.sureAt (k : Int) = X at *
        refine wk ?_
        refine CX.callA (hs1) ?_
        rintro _ _ ⟨rfl, rfl⟩
        refine wk ?_
        refine CX.allocZ (cb zblk) ?_
        intro q13
        (apply CX.storeAll; (· rfl); (· rfl); (· rfl); (· first | exact pickA | exact updA); (· exact hX.len); (· exact WB_z.len); (· exact one_cb _))
        refine wk ?_
        refine CX.callA (hs2) ?_
        rintro _ _ ⟨rfl, rfl⟩
        refine wk ?_
        refine CX.allocZ (cb zblk) ?_
        intro q15
        (apply CX.storeAll; (· rfl); (· rfl); (· rfl); (· first | exact pickA | exact updA); (· exact hX.len); (· exact WB_z.len); (· exact one_cb _))
        refine wk ?_
        (apply CX.ps; (· apply PS.loadG (vs := cb X.1); (· rfl); (· rfl); (· exact CellsAt.all (by first | exact pickA | exact updA)); (· exact hX.len)))
        (apply CX.ps; (· apply PS.loadG (vs := cb X.1); (· rfl); (· rfl); (· exact CellsAt.all (by first | exact pickA | exact updA)); (· exact hX.len)))
        (apply CX.ps; (· refine PS.toF (PS.neqB (a := X.1) (b := X.1) ?_ ?_ ?_ ?_ ?_) ?_; (· rfl); (· rfl); (· rfl); (· exact hX); (· exact hX); (· simp)))
        refine wk ?_
        exact CQ.round (k + 1) h4 (by omega) ⟨eqI (by omega), rfl, rfl, rfl, trivial⟩ (by exact selA)
      · have h5 : ¬ (k : Int) < 64 + (n : Int) := by omega
        refine wk ?_
        refine CX.callA (steps_c d D) ?_
        rintro _ _ ⟨rfl, rfl⟩
        refine wk ?_
        refine CX.callA (rsteps_c r D) ?_
        rintro _ _ ⟨rfl, rfl⟩
        refine wk ?_
        refine CX.callA (lives7_c) ?_
        rintro _ _ ⟨rfl, rfl⟩
        refine wk ?_
        ((apply CQ.end1; (· rfl); (· exact .tmp rfl)); (· exact ⟨rfl, rfl⟩); (· exact selA))
  obtain ⟨h1, h2⟩ := h1
  obtain ⟨g, off, rfl⟩ := rdx_some hp (by omega)
  have hok := hoks l[i] (List.getElem_mem h1)
  have hcs : ∀ {L L' : List Assn}, Pick (exact x) L L' → CellsAt L g (off + i * 6) (a7c l[i]) := fun pk => CellsAt.row pk hp (by omega) (a7_len l) h1
  generalize l[i] = A at *
  have hcp : ∀ {L L' : List Assn}, Pick (exact x) L L' → CellAt L g (off + i * 6 + 5) (.slice A.p.a A.p.l.length A.p.c) := fun pk y hy => by
    obtain ⟨cs, t, fr, e, hc⟩ := hcs pk y hy
    exact ⟨cs, t, fr, e, hc 5 _ rfl⟩
  refine wk ?_
  (refine CX.indexA (i) ?_ ?_; (· exact h1))
  (apply CX.ps; (· apply PS.loadG (vs := a7c A); (· rfl); (· rfl); (· exact hcs (by first | exact pickA | exact updA)); (· rfl)))
  have hact := act7_c dk d r s D A ai (by omega) (by omega)
  unfold ActP at hact
  refine CX.callA (hact) ?_ (hpre := by exact fun y hy => a7_mono hok (Pick.ok (show Pick (exact x) _ _ from by first | exact pickA | exact updA) hy))
  rintro _ _ ⟨rfl, s', D', rfl, hw', hl', ha'⟩
  refine CX.mem (desk_open (by first | exact pickA | exact updA)) ?_
  refine wk ?_
  refine CX.callA (dark_c d D') ?_
  have hoc := open7_c dk d r s' (D'.crash A.p.l) (crash_wf2 hw' A.p.l) (by omega) rfl
  cases hd : D'.dark with
  | false =>
    have ai' := ha' hd
    rintro _ _ ⟨rfl, rfl⟩
    refine wk ?_
    refine CX.callA (rdark_c r D') ?_
    rw [hd]
    rintro _ _ ⟨rfl, rfl⟩
    (refine CX.ps (PS.neqBool false ?_ Tryz.underlying4 rfl rfl rfl) ?_; (· rfl))
    refine wk ?_
    refine CC.draw [(0, 0), (1, 2), (2, 0), (3, 0), (4, 0), (5, 0), (6, 0), (7, 0), (8, 1), (10, 0), (11, 0), (12, 0), (13, 0), (14, 0), (15, 1), (9, 2), (16, 2), (17, 0), (18, 0), (19, 0), (20, 2), (21, 0), (22, 0), (23, 0)] mixed rfl (by kernel_rfl) (by kernel_rfl) [exact x] ?_
    refine hwk ?_
    refine CH.chain rfl fun K hK => ?_
    refine CX.callA (dark_c d D') ?_
    rw [hd]
    rintro _ _ ⟨rfl, rfl⟩
    (refine CX.nil ?_; refine CQ.thenK ?_; apply hK; (· exact selA); clear hK K)
    refine hwk ?_
    refine wk ?_
    refine CX.mem (desk_shut (by exact selA)) ?_
    refine CX.callA (alike7_c dk d r s' D' hw' (by omega) hd (alike_of ai')) ?_
    rintro _ _ ⟨rfl, rfl⟩
    refine wk ?_
    exact CQ.round (x := (i, s, D)) (i + 1, s', D') ⟨by dsimp only; omega, ai'.up (Nat.le_refl _) (by omega)⟩ (by dsimp only; omega) ⟨eqI (by omega), rfl, rfl, rfl, rfl, rfl, trivial⟩ (by exact selA)
  | true =>
    obtain ⟨hcc, hcl⟩ := crash_calm D' A.p.l
    have hcw := crash_wf2 hw' A.p.l
    rintro _ _ ⟨rfl, rfl⟩
    refine wk ?_
    refine CX.callA (rdark_c r D') ?_
    rw [hd]
    rintro _ _ ⟨rfl, rfl⟩
    (refine CX.ps (PS.neqBool false ?_ Tryz.underlying4 rfl rfl rfl) ?_; (· rfl))
    refine wk ?_
    refine CC.draw [(0, 0), (1, 2), (2, 0), (3, 0), (4, 0), (5, 0), (6, 0), (7, 0), (8, 1), (10, 0), (11, 0), (12, 0), (13, 0), (14, 0), (15, 1), (9, 2), (16, 2), (17, 0), (18, 0), (19, 0), (20, 2), (21, 0), (22, 0), (23, 0)] mixed rfl (by kernel_rfl) (by kernel_rfl) [exact x] ?_
    refine hwk ?_
    refine CH.chain rfl fun K hK => ?_
    refine CX.callA (dark_c d D') ?_
    rw [hd]
    rintro _ _ ⟨rfl, rfl⟩
    (refine CX.nil ?_; refine CQ.thenK ?_; apply hK; (· exact selA); clear hK K)
    refine hwk ?_
    refine CH.pure rfl (PS.indexAddr (j := i) rfl rfl rfl rfl h1) ?_
    refine hwk ?_
    (apply CH.read; (· rfl); (· apply PS.load (v := .slice A.p.a A.p.l.length A.p.c); (· rfl); (· rfl); (· exact hcp (by first | exact pickA | exact updA))); (· exact selA))
    refine hwk ?_
    refine CH.pure rfl (PS.indexAddr (j := i) rfl rfl rfl rfl h1) ?_
    refine hwk ?_
    (apply CH.read; (· rfl); (· apply PS.load (v := .slice A.p.a A.p.l.length A.p.c); (· rfl); (· rfl); (· exact hcp (by first | exact pickA | exact updA))); (· exact selA))
    refine CH.chain rfl fun K hK => ?_
    refine CX.callA (crash_c d D' A.p.l A.p.a A.p.c hw' (by omega)) ?_ (hpre := by exact rdx_ex (by first | exact pickA | exact updA) hok.p.r)
    rintro _ _ ⟨rfl, rfl⟩
    (refine CX.nil ?_; refine CQ.thenK ?_; apply hK; (· exact selA); clear hK K)
    refine CH.chain rfl fun K hK => ?_
    refine CX.callA (rcrash_c r D' A.p.l A.p.a A.p.c hw' (by omega)) ?_ (hpre := by exact rdx_ex (by first | exact pickA | exact updA) hok.p.r)
    rintro _ _ ⟨rfl, rfl⟩
    (refine CX.nil ?_; refine CQ.thenK ?_; apply hK; (· exact selA); clear hK K)
    refine hwk ?_
    refine CH.chain rfl fun K hK => ?_
    refine CX.mem (desk_shut (by exact selA)) ?_
    refine CX.callA (hoc) ?_
    rintro _ _ ⟨rfl, s2, rfl, hs2⟩
    (refine CX.nil ?_; refine CQ.thenK ?_; apply hK; (· exact selA); clear hK K)
    have ai' : AI (i + 1) (64 + n) (i * 2060 + 2060) s2 (D'.crash A.p.l) := AI.opened hcw hcc (by rw [hcl]; exact hl') hs2
    generalize D'.crash A.p.l = D2 at *
    refine hwk ?_
    refine wk ?_
    refine CX.callA (alike7_c dk d r s2 D2 hcw (by omega) hcc.lit (alike_of ai')) ?_
    rintro _ _ ⟨rfl, rfl⟩
    refine wk ?_
    exact CQ.round (x := (i, s, D)) (i + 1, s2, D2) ⟨by dsimp only; omega, ai'.up (Nat.le_refl _) (by omega)⟩ (by dsimp only; omega) ⟨eqI (by omega), rfl, rfl, rfl, rfl, rfl, trivial⟩ (by exact selA)
end Go.Proofs.YtlckhaodecdbbaaGreat
/-! What may be read of acts on a journal. -/
namespace Go.Proofs.YtlckhaodecdbbaaGreat
open Go.Cx
theorem rec_a7 {H : Type} {enc : TypeId × Value → H} {w : World} {base : Nat} {spare : Nat → Bool} {held : Bool} :
    Rec enc Tryz.prog w base spare held 53 (fun A : A7V => A.ok w.ph) a7c := fun n cs x h => by
  obtain ⟨hl, m, hf⟩ := trod_fields Tryz.underlying53 h
  have c0 : Tryz.prog.cellsOf 3 = 1 := by kernel_rfl
  have c1 : Tryz.prog.cellsOf 5 = 1 := by kernel_rfl
  have c2 : Tryz.prog.cellsOf 50 = 1 := by kernel_rfl
  have c3 : Tryz.prog.cellsOf 51 = 1 := by kernel_rfl
  have c5 : Tryz.prog.cellsOf 53 = 6 := by kernel_rfl
  obtain ⟨y0, e0⟩ : ∃ y, DataW.trod enc Tryz.prog w base spare held m 3 ((cs.drop 0).take (Tryz.prog.cellsOf 3)) = some y := hf 0 _ rfl
  rw [c0] at e0
  obtain ⟨y1, e1⟩ : ∃ y, DataW.trod enc Tryz.prog w base spare held m 3 ((cs.drop 1).take (Tryz.prog.cellsOf 3)) = some y := hf 1 _ rfl
  rw [c0] at e1
  obtain ⟨y2, e2⟩ : ∃ y, DataW.trod enc Tryz.prog w base spare held m 3 ((cs.drop 2).take (Tryz.prog.cellsOf 3)) = some y := hf 2 _ rfl
  rw [c0] at e2
  obtain ⟨y3, e3⟩ : ∃ y, DataW.trod enc Tryz.prog w base spare held m 5 ((cs.drop 3).take (Tryz.prog.cellsOf 5)) = some y := hf 3 _ rfl
  rw [c1] at e3
  obtain ⟨y4, e4⟩ : ∃ y, DataW.trod enc Tryz.prog w base spare held m 50 ((cs.drop 4).take (Tryz.prog.cellsOf 50)) = some y := hf 4 _ rfl
  rw [c2] at e4
  obtain ⟨y5, e5⟩ : ∃ y, DataW.trod enc Tryz.prog w base spare held m 51 ((cs.drop 5).take (Tryz.prog.cellsOf 51)) = some y := hf 5 _ rfl
  rw [c3] at e5
  obtain ⟨a, wa, f0⟩ := rec_int Tryz.underlying3 _ _ _ e0
  obtain ⟨b, wb, f1⟩ := rec_int Tryz.underlying3 _ _ _ e1
  obtain ⟨c, wc, f2⟩ := rec_int Tryz.underlying3 _ _ _ e2
  obtain ⟨y, wy, f3⟩ := rec_byte Tryz.underlying5 _ _ _ e3
  obtain ⟨bs, wbs, f4⟩ := rec_bytes Tryz.underlying50 Tryz.underlying5 (by kernel_rfl) _ _ _ e4
  obtain ⟨ps, wps, f5⟩ := rec_ints Tryz.underlying51 Tryz.underlying3 (by kernel_rfl) _ _ _ e5
  refine ⟨⟨a, b, c, y, bs, ps⟩, ⟨wf_i64 wa, wf_i64 wb, wf_i64 wc, wbs, wps⟩, ?_⟩
  have h0 : cs = cs.drop 0 := rfl
  have hend : cs.drop (5 + 1) = [] := List.drop_of_length_le (by rw [hl, c5]; omega)
  rw [h0, drop_part cs 0 1 f0, drop_part cs (0 + 1) 1 f1, drop_part cs (0 + 1 + 1) 1 f2, drop_part cs (0 + 1 + 1 + 1) 1 f3, drop_part cs (0 + 1 + 1 + 1 + 1) 1 f4, drop_part cs (0 + 1 + 1 + 1 + 1 + 1) 1 f5, show 0 + 1 + 1 + 1 + 1 + 1 + 1 = 5 + 1 by omega, hend]
  simp [a7c, byteC, SlB.cells, SlI.cells]
end Go.Proofs.YtlckhaodecdbbaaGreat
