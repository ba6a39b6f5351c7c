/- The bodies do what the plain functions tell. -/
import Derived.Test.YtampjnpnekekiaaGreatDoorK231
import Derived.Test.YtampjnpnekekiaaGreatDoorK238
import Derived.Test.YtampjnpnekekiaaGreatDoorK240
import Derived.Test.YtampjnpnekekiaaGreatDoorK241
namespace Go.Proofs.YtampjnpnekekiaaGreatDoor
open Go Go.RowKit
set_option linter.unusedVariables false
set_option linter.unusedSimpArgs false
set_option maxRecDepth 100000
set_option maxHeartbeats 4000000
open Ab Sh
namespace Gn
theorem r15_from_w {rec : Node → ByteArray → Int → Option (List Bool)} (hrec : ∀ {p0 : Node} {p1 : ByteArray} {p2 : Int} {r : List Bool}, rec p0 p1 p2 = some r → FunL Tryz.prog 50 [.agg [fI .i64 p0.kind, fI .u64 (p0.set.a.toNat : Int), fI .u64 (p0.set.b.toNat : Int), fI .u64 (p0.set.c.toNat : Int), fI .u64 (p0.set.d.toNat : Int), .t (.slc (rw _ nodeRow p0.kids)), fI .i64 p0.min, fI .i64 p0.max], fS p1, fI .i64 p2] 4 1 (rw _ cB r)) {N : Nat} {p0 : Node} {p1 : ByteArray} {p2 : List Bool} {r : List Bool} (h : r15_from_g rec N p0 p1 p2 = some r) : FunL Tryz.prog 80 [.agg [fI .i64 p0.kind, fI .u64 (p0.set.a.toNat : Int), fI .u64 (p0.set.b.toNat : Int), fI .u64 (p0.set.c.toNat : Int), fI .u64 (p0.set.d.toNat : Int), .t (.slc (rw _ nodeRow p0.kids)), fI .i64 p0.min, fI .i64 p0.max], fS p1, .t (.slc (rw _ cB p2))] 4 1 (rw _ cB r) := by
  refine list_w lay_ok Tryz.call80 Tryz.func80 rfl ?_
  intro A W E Q R hE hR hf hQ; rcases W with ⟨ar, cm, conj, cv, sl, sc, ct, sa, ss, ll, _, _, _, _, mi, mx, _, _, _⟩
  rw [← hR]
  unfold r15_from_g at h
  rw [q_ll hE, ← hR] at h
  cbv
  refine L_zro hE hR h (by decide) fun l1 e h => ?_; cbv at e; rw [e]; clear e
  refine L_for hE lay_ok 2 (fun g : Int × (List Bool) × Nat => [(7, .lst 1), (8, fI .i64 g.1), (13, .lst 1)]) (fun g => [(1, .list 4 1 (R _ cB g.2.1))]) (fun g => r15_from_l1 rec N p0 p1 p2 g.2.2 g.1 g.2.1 = some r) (fun g => g.2.2) (_, _, N) h ?_ ?_
  · (cbv; (try simp only [e_rnil hR]); repeat' (first | exact trivial | exact rfl | exact Or.inr trivial | apply And.intro))
  rintro ⟨v2, v3, m1⟩ h Q1 hN1 hT1 hX1
  have h : r15_from_l1 rec N p0 p1 p2 m1 v2 v3 = some r := h
  cases m1 with
  | zero => exact nomatch (show (none : Option _) = some _ from h)
  | succ m1 =>
  rw [r15_from_l1] at h
  rw [q_ar hE, q_cm hE, q_ll hE, ← hR] at h
  cbv
  refine L_if hE h (fun h => ?_) (fun h => ?_) <;> cbv
  · refine L_row hE hR h fun r4 h => ?_; cbv
    refine L_cdJ hE lay_ok h 2 (fun j6 : (List Bool) => []) (fun j6 => [(1, .list 4 1 (R _ cB j6))]) (fun j6 h => ?_) (fun j6 h => ?_) <;> cbv
    · refine L_if hE h (fun h => ?_) (fun h => ?_) <;> cbv
      · refine L_list hE hR h (fun _ e => hrec e) (by subst hR; rfl) rfl fun l5 h => ?_; cbv
        refine L_for hE lay_ok 3 (fun g : Int × (List Bool) × Nat => [(7, .lst 1), (9, .lst 2), (10, fI .i64 g.1), (13, .lst 1), (27, .lst 2)]) (fun g => [(1, .list 4 1 (R _ cB g.2.1))]) (fun g => r15_from_l2 l5 g.2.2 g.1 g.2.1 = some j6) (fun g => g.2.2) (_, _, N) h ?_ ?_
        · (cbv; (try simp only [e_rnil hR]); repeat' (first | exact trivial | exact rfl | exact Or.inr trivial | apply And.intro))
        rintro ⟨v6, v7, m2⟩ h Q2 hN2 hT2 hX2
        have h : r15_from_l2 l5 m2 v6 v7 = some j6 := h
        cases m2 with
        | zero => exact nomatch (show (none : Option _) = some _ from h)
        | succ m2 =>
        rw [r15_from_l2] at h
        rw [q_ar hE, q_cm hE, q_ll hE, ← hR] at h
        cbv
        refine L_if hE h (fun h => ?_) (fun h => ?_) <;> cbv
        · refine L_rgJ hE lay_ok h 3 (fun j5 : (List Bool) => []) (fun j5 => [(1, .list 4 1 (R _ cB j5))]) (fun j5 h => ?_) (fun j5 h => ?_) <;> cbv
          · refine L_row hE hR h fun r8 h => ?_; cbv
            refine L_row hE hR h fun r9 h => ?_; cbv
            refine L_if hE h (fun h => ?_) (fun h => ?_) <;> cbv
            · refine L_row hE hR h fun r10 h => ?_; cbv
              refine L_row hE hR h fun r11 h => ?_; cbv
              refine L_put hE hR h fun l12 e h => ?_; cbv at e; rw [e]; clear e
              cases h; (cbv; (try simp only [e_rnil hR]); repeat' (first | exact trivial | exact rfl | exact Or.inr trivial | apply And.intro))
            refine L_row hE hR h fun r13 h => ?_; cbv
            refine L_row hE hR h fun r14 h => ?_; cbv
            refine L_row hE hR h fun r15 h => ?_; cbv
            refine L_row hE hR h fun r16 h => ?_; cbv
            refine L_put hE hR h fun l17 e h => ?_; cbv at e; rw [e]; clear e
            cases h; (cbv; (try simp only [e_rnil hR]); repeat' (first | exact trivial | exact rfl | exact Or.inr trivial | apply And.intro))
          refine hN2 _ (_, _, m2) [] h (Nat.lt_succ_self _) trivial ?_; (cbv; (try simp only [e_rnil hR]); repeat' (first | exact trivial | exact rfl | exact Or.inr trivial | apply And.intro))
        refine hX2 _ _ ?_; cbv
        cases h; (cbv; (try simp only [e_rnil hR]); repeat' (first | exact trivial | exact rfl | exact Or.inr trivial | apply And.intro))
      cases h; (cbv; (try simp only [e_rnil hR]); repeat' (first | exact trivial | exact rfl | exact Or.inr trivial | apply And.intro))
    refine hN1 _ (_, _, m1) [] h (Nat.lt_succ_self _) trivial ?_; (cbv; (try simp only [e_rnil hR]); repeat' (first | exact trivial | exact rfl | exact Or.inr trivial | apply And.intro))
  refine hX1 _ _ ?_; cbv
  exact And.left (hQ _ _ rfl (.inl ⟨_, rfl, by cases h; subst hR; rfl⟩))
theorem r15_ends_w : ∀ {N : Nat} {p0 : Node} {p1 : ByteArray} {p2 : Int} {r : List Bool}, r15_ends_g N p0 p1 p2 = some r → FunL Tryz.prog 50 [.agg [fI .i64 p0.kind, fI .u64 (p0.set.a.toNat : Int), fI .u64 (p0.set.b.toNat : Int), fI .u64 (p0.set.c.toNat : Int), fI .u64 (p0.set.d.toNat : Int), .t (.slc (rw _ nodeRow p0.kids)), fI .i64 p0.min, fI .i64 p0.max], fS p1, fI .i64 p2] 4 1 (rw _ cB r) := by
  intro N
  induction N with
  | zero => intros; rename_i h; exact nomatch (show (none : Option _) = some _ from h)
  | succ N ih =>
  intro p0 p1 p2 r h
  refine list_w lay_ok Tryz.call50 Tryz.func50 rfl ?_
  intro A W E Q R hE hR hf hQ; rcases W with ⟨ar, cm, conj, cv, sl, sc, ct, sa, ss, ll, _, _, _, _, mi, mx, _, _, _⟩
  rw [← hR]
  rw [r15_ends_g] at h
  rw [q_ar hE, q_cm hE, q_cv hE, q_sl hE, q_sa hE] at h
  cbv
  refine L_zro hE hR h (by decide) fun l1 e h => ?_; cbv at e; rw [e]; clear e
  refine L_zro hE hR h (by decide) fun _ e h => ?_; clear e
  refine L_row hE hR h fun r3 h => ?_; cbv
  refine L_row hE hR h fun r4 h => ?_; cbv
  refine L_put hE hR h fun l5 e h => ?_; cbv at e; rw [e]; clear e
  refine L_if hE h (fun h => ?_) (fun h => ?_) <;> cbv
  · refine L_whole hE lay_ok (by kernel_rfl) (by kernel_rfl) ?_; cbv
    refine L_if hE h (fun h => ?_) (fun h => ?_) <;> cbv
    · refine L_if hE h (fun h => ?_) (fun h => ?_) <;> cbv
      · refine L_if hE h (fun h => ?_) (fun h => ?_) <;> cbv
        · refine L_if hE h (fun h => ?_) (fun h => ?_) <;> cbv
          · refine L_if hE h (fun h => ?_) (fun h => ?_) <;> cbv
            · refine L_sin hE h fun h => ?_
              refine L_if hE h (fun h => ?_) (fun h => ?_) <;> cbv
              · refine L_if hE h (fun h => ?_) (fun h => ?_) <;> cbv
                · refine L_pcall hE hR h (fun _ e => r12_Has_w e) rfl rfl fun a6 h => ?_; cbv
                  refine L_if hE h (fun h => ?_) (fun h => ?_) <;> cbv
                  · refine L_cdJ hE lay_ok h 16 (fun j1 : (List Bool) => []) (fun j1 => [(1, .list 4 1 (R _ cB j1))]) (fun j1 h => ?_) (fun j1 h => ?_) <;> cbv
                    · refine L_if hE h (fun h => ?_) (fun h => ?_) <;> cbv
                      · refine L_row hE hR h fun r7 h => ?_; cbv
                        refine L_row hE hR h fun r8 h => ?_; cbv
                        refine L_put hE hR h fun l9 e h => ?_; cbv at e; rw [e]; clear e
                        cases h; (cbv; (try simp only [e_rnil hR]); repeat' (first | exact trivial | exact rfl | exact Or.inr trivial | apply And.intro))
                      cases h; (cbv; (try simp only [e_rnil hR]); repeat' (first | exact trivial | exact rfl | exact Or.inr trivial | apply And.intro))
                    exact And.left (hQ _ _ rfl (.inl ⟨_, rfl, by cases h; subst hR; rfl⟩))
                  exact nomatch h
                exact nomatch h
              exact nomatch h
            exact nomatch h
          exact nomatch h
        exact nomatch h
      exact nomatch h
    refine L_if hE h (fun h => ?_) (fun h => ?_) <;> cbv
    · exact nomatch h
    refine L_if hE h (fun h => ?_) (fun h => ?_) <;> cbv
    · exact nomatch h
    refine L_if hE h (fun h => ?_) (fun h => ?_) <;> cbv
    · exact nomatch h
    refine L_if hE h (fun h => ?_) (fun h => ?_) <;> cbv
    · exact nomatch h
    refine L_if hE h (fun h => ?_) (fun h => ?_) <;> cbv
    · exact nomatch h
    refine L_if hE h (fun h => ?_) (fun h => ?_) <;> cbv
    · exact nomatch h
    refine L_if hE h (fun h => ?_) (fun h => ?_) <;> cbv
    · exact nomatch h
    refine L_cd hE lay_ok ?_; cbv
    refine L_f hE ?_; cbv
    exact And.left (hQ _ _ rfl (.inl ⟨_, rfl, by cases h; subst hR; rfl⟩))
  refine L_if hE h (fun h => ?_) (fun h => ?_) <;> cbv
  · refine L_for hE lay_ok 3 (fun g : Int × (List Bool) × Nat => [(7, .lst 1), (8, .lst 2), (9, fI .i64 g.1), (19, .lst 1)]) (fun g => [(2, .list 4 1 (R _ cB g.2.1))]) (fun g => r15_ends_l1 (r15_ends_g N) N p0 p1 g.2.2 g.1 g.2.1 = some r) (fun g => g.2.2) (_, _, N) h ?_ ?_
    · (cbv; (try simp only [e_rnil hR]); repeat' (first | exact trivial | exact rfl | exact Or.inr trivial | apply And.intro))
    rintro ⟨v10, v11, m1⟩ h Q1 hN1 hT1 hX1
    have h : r15_ends_l1 (r15_ends_g N) N p0 p1 m1 v10 v11 = some r := h
    cases m1 with
    | zero => exact nomatch (show (none : Option _) = some _ from h)
    | succ m1 =>
    rw [r15_ends_l1] at h
    rw [q_ar hE, q_cm hE, q_ll hE, ← hR] at h
    cbv
    refine L_if hE h (fun h => ?_) (fun h => ?_) <;> cbv
    · refine L_rowN hE hR h fun r12 h => ?_; cbv
      refine L_listB hE hR h (fun _ e => r15_from_w (fun e => ih e) e) rfl (by subst hR; rfl) flat_B fun l13 h => ?_; cbv
      refine hN1 _ (_, _, m1) [(2, 3)] h (Nat.lt_succ_self _) ⟨hf _, hf _, trivial⟩ ?_; (cbv; (try simp only [e_rnil hR]); repeat' (first | exact trivial | exact rfl | exact Or.inr trivial | apply And.intro))
    refine hX1 _ _ ?_; cbv
    exact And.left (hQ _ _ rfl (.inl ⟨_, rfl, by cases h; subst hR; rfl⟩))
  refine L_if hE h (fun h => ?_) (fun h => ?_) <;> cbv
  · refine L_for hE lay_ok 3 (fun g : Int × (List Bool) × Nat => [(7, .lst 1), (8, .lst 2), (10, fI .i64 g.1), (19, .lst 1), (23, .lst 2), (24, .lst 2), (26, .elt 2 p2 0)]) (fun g => [(1, .list 4 1 (R _ cB g.2.1))]) (fun g => r15_ends_l2 (r15_ends_g N) N p0 p1 p2 g.2.2 g.1 g.2.1 = some r) (fun g => g.2.2) (_, _, N) h ?_ ?_
    · (cbv; (try simp only [e_rnil hR]); repeat' (first | exact trivial | exact rfl | exact Or.inr trivial | apply And.intro))
    rintro ⟨v14, v15, m2⟩ h Q2 hN2 hT2 hX2
    have h : r15_ends_l2 (r15_ends_g N) N p0 p1 p2 m2 v14 v15 = some r := h
    cases m2 with
    | zero => exact nomatch (show (none : Option _) = some _ from h)
    | succ m2 =>
    rw [r15_ends_l2] at h
    rw [q_cm hE, q_ll hE, ← hR] at h
    cbv
    refine L_if hE h (fun h => ?_) (fun h => ?_) <;> cbv
    · refine L_rowN hE hR h fun r16 h => ?_; cbv
      refine L_list hE hR h (fun _ e => ih e) (by subst hR; rfl) rfl fun l17 h => ?_; cbv
      refine L_for hE lay_ok 4 (fun g : Int × (List Bool) × Nat => [(7, .lst 1), (8, .lst 2), (11, .lst 3), (12, fI .i64 g.1), (19, .lst 1), (23, .lst 2), (24, .lst 2), (26, .elt 2 p2 0), (84, .lst 3)]) (fun g => [(1, .list 4 1 (R _ cB g.2.1))]) (fun g => r15_ends_l3 (r15_ends_l2 (r15_ends_g N) N p0 p1 p2 m2) v14 l17 g.2.2 g.1 g.2.1 = some r) (fun g => g.2.2) (_, _, N) h ?_ ?_
      · (cbv; (try simp only [e_rnil hR]); repeat' (first | exact trivial | exact rfl | exact Or.inr trivial | apply And.intro))
      rintro ⟨v18, v19, m3⟩ h Q3 hN3 hT3 hX3
      have h : r15_ends_l3 (r15_ends_l2 (r15_ends_g N) N p0 p1 p2 m2) v14 l17 m3 v18 v19 = some r := h
      cases m3 with
      | zero => exact nomatch (show (none : Option _) = some _ from h)
      | succ m3 =>
      rw [r15_ends_l3] at h
      rw [q_ar hE, q_cm hE, q_ll hE, ← hR] at h
      cbv
      refine L_if hE h (fun h => ?_) (fun h => ?_) <;> cbv
      · refine L_rgJ hE lay_ok h 4 (fun j5 : (List Bool) => []) (fun j5 => [(1, .list 4 1 (R _ cB j5))]) (fun j5 h => ?_) (fun j5 h => ?_) <;> cbv
        · refine L_row hE hR h fun r20 h => ?_; cbv
          refine L_row hE hR h fun r21 h => ?_; cbv
          refine L_if hE h (fun h => ?_) (fun h => ?_) <;> cbv
          · refine L_row hE hR h fun r22 h => ?_; cbv
            refine L_row hE hR h fun r23 h => ?_; cbv
            refine L_put hE hR h fun l24 e h => ?_; cbv at e; rw [e]; clear e
            cases h; (cbv; (try simp only [e_rnil hR]); repeat' (first | exact trivial | exact rfl | exact Or.inr trivial | apply And.intro))
          refine L_row hE hR h fun r25 h => ?_; cbv
          refine L_row hE hR h fun r26 h => ?_; cbv
          refine L_row hE hR h fun r27 h => ?_; cbv
          refine L_row hE hR h fun r28 h => ?_; cbv
          refine L_put hE hR h fun l29 e h => ?_; cbv at e; rw [e]; clear e
          cases h; (cbv; (try simp only [e_rnil hR]); repeat' (first | exact trivial | exact rfl | exact Or.inr trivial | apply And.intro))
        refine hN3 _ (_, _, m3) [] h (Nat.lt_succ_self _) trivial ?_; (cbv; (try simp only [e_rnil hR]); repeat' (first | exact trivial | exact rfl | exact Or.inr trivial | apply And.intro))
      refine hX3 _ _ ?_; cbv
      refine hN2 _ (_, _, m2) [] h (Nat.lt_succ_self _) trivial ?_; (cbv; (try simp only [e_rnil hR]); repeat' (first | exact trivial | exact rfl | exact Or.inr trivial | apply And.intro))
    refine hX2 _ _ ?_; cbv
    exact And.left (hQ _ _ rfl (.inl ⟨_, rfl, by cases h; subst hR; rfl⟩))
  refine L_cdJ hE lay_ok h 3 (fun j6 : Int => [(13, fI .i64 j6)]) (fun j6 => []) (fun j6 h => ?_) (fun j6 h => ?_) <;> cbv
  · refine L_if hE h (fun h => ?_) (fun h => ?_) <;> cbv
    · cases h; (cbv; (try simp only [e_rnil hR]); repeat' (first | exact trivial | exact rfl | exact Or.inr trivial | apply And.intro))
    cases h; (cbv; (try simp only [e_rnil hR]); repeat' (first | exact trivial | exact rfl | exact Or.inr trivial | apply And.intro))
  refine L_for hE lay_ok 3 (fun g : Int × (List Bool) × (List Bool) × Nat => [(7, .lst 1), (8, .lst 2), (14, fI .i64 g.1), (19, .lst 1)]) (fun g => [(1, .list 4 1 (R _ cB g.2.1)), (2, .list 4 1 (R _ cB g.2.2.1))]) (fun g => r15_ends_l4 (r15_ends_g N) N p0 p1 j6 g.2.2.2 g.1 g.2.1 g.2.2.1 = some r) (fun g => g.2.2.2) (_, _, _, N) h ?_ ?_
  · (cbv; (try simp only [e_rnil hR]); repeat' (first | exact trivial | exact rfl | exact Or.inr trivial | apply And.intro))
  rintro ⟨v30, v31, v32, m4⟩ h Q4 hN4 hT4 hX4
  have h : r15_ends_l4 (r15_ends_g N) N p0 p1 j6 m4 v30 v31 v32 = some r := h
  cases m4 with
  | zero => exact nomatch (show (none : Option _) = some _ from h)
  | succ m4 =>
  rw [r15_ends_l4] at h
  rw [q_ar hE, q_cm hE] at h
  cbv
  refine L_if hE h (fun h => ?_) (fun h => ?_) <;> cbv
  · refine L_cdJ hE lay_ok h 3 (fun j12 : (List Bool) => []) (fun j12 => [(1, .list 4 1 (R _ cB j12))]) (fun j12 h => ?_) (fun j12 h => ?_) <;> cbv
    · refine L_if hE h (fun h => ?_) (fun h => ?_) <;> cbv
      · refine L_for hE lay_ok 3 (fun g : Int × (List Bool) × Nat => [(7, .lst 1), (8, .lst 2), (15, fI .i64 g.1), (19, .lst 1)]) (fun g => [(1, .list 4 1 (R _ cB g.2.1))]) (fun g => r15_ends_l5 v32 g.2.2 g.1 g.2.1 = some j12) (fun g => g.2.2) (_, _, N) h ?_ ?_
        · (cbv; (try simp only [e_rnil hR]); repeat' (first | exact trivial | exact rfl | exact Or.inr trivial | apply And.intro))
        rintro ⟨v33, v34, m5⟩ h Q5 hN5 hT5 hX5
        have h : r15_ends_l5 v32 m5 v33 v34 = some j12 := h
        cases m5 with
        | zero => exact nomatch (show (none : Option _) = some _ from h)
        | succ m5 =>
        rw [r15_ends_l5] at h
        rw [q_ar hE, q_cm hE, q_ll hE, ← hR] at h
        cbv
        refine L_if hE h (fun h => ?_) (fun h => ?_) <;> cbv
        · refine L_rgJ hE lay_ok h 3 (fun j11 : (List Bool) => []) (fun j11 => [(1, .list 4 1 (R _ cB j11))]) (fun j11 h => ?_) (fun j11 h => ?_) <;> cbv
          · refine L_row hE hR h fun r35 h => ?_; cbv
            refine L_row hE hR h fun r36 h => ?_; cbv
            refine L_if hE h (fun h => ?_) (fun h => ?_) <;> cbv
            · refine L_row hE hR h fun r37 h => ?_; cbv
              refine L_row hE hR h fun r38 h => ?_; cbv
              refine L_put hE hR h fun l39 e h => ?_; cbv at e; rw [e]; clear e
              cases h; (cbv; (try simp only [e_rnil hR]); repeat' (first | exact trivial | exact rfl | exact Or.inr trivial | apply And.intro))
            refine L_row hE hR h fun r40 h => ?_; cbv
            refine L_row hE hR h fun r41 h => ?_; cbv
            refine L_row hE hR h fun r42 h => ?_; cbv
            refine L_row hE hR h fun r43 h => ?_; cbv
            refine L_put hE hR h fun l44 e h => ?_; cbv at e; rw [e]; clear e
            cases h; (cbv; (try simp only [e_rnil hR]); repeat' (first | exact trivial | exact rfl | exact Or.inr trivial | apply And.intro))
          refine hN5 _ (_, _, m5) [] h (Nat.lt_succ_self _) trivial ?_; (cbv; (try simp only [e_rnil hR]); repeat' (first | exact trivial | exact rfl | exact Or.inr trivial | apply And.intro))
        refine hX5 _ _ ?_; cbv
        cases h; (cbv; (try simp only [e_rnil hR]); repeat' (first | exact trivial | exact rfl | exact Or.inr trivial | apply And.intro))
      cases h; (cbv; (try simp only [e_rnil hR]); repeat' (first | exact trivial | exact rfl | exact Or.inr trivial | apply And.intro))
    refine L_rowN hE hR h fun r45 h => ?_; cbv
    refine L_listB hE hR h (fun _ e => r15_from_w (fun e => ih e) e) rfl (by subst hR; rfl) flat_B fun l46 h => ?_; cbv
    refine hN4 _ (_, _, _, m4) [(2, 3)] h (Nat.lt_succ_self _) ⟨hf _, hf _, trivial⟩ ?_; (cbv; (try simp only [e_rnil hR]); repeat' (first | exact trivial | exact rfl | exact Or.inr trivial | apply And.intro))
  refine hX4 _ _ ?_; cbv
  exact And.left (hQ _ _ rfl (.inl ⟨_, rfl, by cases h; subst hR; rfl⟩))
end Gn
end Go.Proofs.YtampjnpnekekiaaGreatDoor
namespace Go.Proofs.YtampjnpnekekiaaGreatDoor
open Go Go.RowKit
set_option linter.unusedVariables false
set_option linter.unusedSimpArgs false
set_option maxRecDepth 100000
set_option maxHeartbeats 4000000
open Ab Sh
namespace Gn
theorem r15_Match_w {N : Nat} {p0 : Node} {p1 : ByteArray} {r : Bool} (h : r15_Match_g N p0 p1 = some r) : FunS Tryz.prog 24 [.agg [fI .i64 p0.kind, fI .u64 (p0.set.a.toNat : Int), fI .u64 (p0.set.b.toNat : Int), fI .u64 (p0.set.c.toNat : Int), fI .u64 (p0.set.d.toNat : Int), .t (.slc (rw _ nodeRow p0.kids)), fI .i64 p0.min, fI .i64 p0.max], fS p1] (r15_Match_s rw) r := by
  refine fun_w lay_ok Tryz.call24 Tryz.func24 rfl ?_
  intro A W E Q R hE hR hf hQ; rcases W with ⟨ar, cm, conj, cv, sl, sc, ct, sa, ss, ll, _, _, _, _, mi, mx, _, _, _⟩
  rw [← hR]
  unfold r15_Match_g at h
  rw [q_sl hE] at h
  cbv
  refine L_call hE hR h (fun _ e => r13_Right_w e) (by subst hR; rfl) rfl fun a1 h => ?_; cbv
  refine L_if hE h (fun h => ?_) (fun h => ?_) <;> cbv
  · exact And.left (hQ _ _ _ rfl rfl (by cases h; subst hR; rfl))
  refine L_list hE hR h (fun _ e => r15_ends_w e) (by subst hR; rfl) rfl fun l2 h => ?_; cbv
  refine L_row hE hR h fun r3 h => ?_; cbv
  refine L_row hE hR h fun r4 h => ?_; cbv
  exact And.left (hQ _ _ _ rfl rfl (by cases h; subst hR; rfl))
theorem r22_Test_w {N : Nat} {p0 : GMatcher} {p1 : ByteArray} {r : Bool} (h : r22_Test_g N p0 p1 = some r) : FunS Tryz.prog 11 [.agg [fS p0.Name, fI .i64 p0.Op, fS p0.Value], fS p1] (r22_Test_s rw) r := by
  refine fun_w lay_ok Tryz.call11 Tryz.func11 rfl ?_
  intro A W E Q R hE hR hf hQ; rcases W with ⟨ar, cm, conj, cv, sl, sc, ct, sa, ss, ll, _, _, _, _, mi, mx, _, _, _⟩
  unfold r22_Test_g at h
  rw [q_cm hE, q_sc hE] at h
  cbv
  refine L_call hE hR h (fun _ e => r22_Right_w e) rfl rfl fun a1 h => ?_; cbv
  refine L_if hE h (fun h => ?_) (fun h => ?_) <;> cbv
  · exact And.left (hQ _ _ _ rfl rfl (by cases h; subst hR; rfl))
  refine L_if hE h (fun h => ?_) (fun h => ?_) <;> cbv
  · exact And.left (hQ _ _ _ rfl rfl (by cases h; subst hR; rfl))
  refine L_if hE h (fun h => ?_) (fun h => ?_) <;> cbv
  · exact And.left (hQ _ _ _ rfl rfl (by cases h; subst hR; rfl))
  refine L_call hE hR h (fun _ e => r13_Parse_w e) rfl rfl fun a2 h => ?_; cbv
  refine L_if hE h (fun h => ?_) (fun h => ?_) <;> cbv
  · refine L_call hE hR h (fun _ e => r15_Match_w e) (by subst hR; rfl) rfl fun a3 h => ?_; cbv
    exact And.left (hQ _ _ _ rfl rfl (by cases h; subst hR; rfl))
  refine L_call hE hR h (fun _ e => r15_Match_w e) (by subst hR; rfl) rfl fun a4 h => ?_; cbv
  exact And.left (hQ _ _ _ rfl rfl (by cases h; subst hR; rfl))
theorem r11_Get_w {N : Nat} {p0 : List GLabel} {p1 : ByteArray} {r : ByteArray} (h : r11_Get_g N p0 p1 = some r) : FunS Tryz.prog 26 [.t (.slc (rw _ cLabel p0)), fS p1] (r11_Get_s rw) r := by
  refine fun_w lay_ok Tryz.call26 Tryz.func26 rfl ?_
  intro A W E Q R hE hR hf hQ; rcases W with ⟨ar, cm, conj, cv, sl, sc, ct, sa, ss, ll, _, _, _, _, mi, mx, _, _, _⟩
  rw [← hR]
  unfold r11_Get_g at h
  skip
  cbv
  refine L_for hE lay_ok 0 (fun g : Int × Nat => [(4, fS ByteArray.empty), (5, fI .i64 g.1)]) (fun g => []) (fun g => r11_Get_l1 p0 p1 g.2 g.1 = some r) (fun g => g.2) (_, N) h ?_ ?_
  · (cbv; (try simp only [e_rnil hR]); repeat' (first | exact trivial | exact rfl | exact Or.inr trivial | apply And.intro))
  rintro ⟨v1, m1⟩ h Q1 hN1 hT1 hX1
  have h : r11_Get_l1 p0 p1 m1 v1 = some r := h
  cases m1 with
  | zero => exact nomatch (show (none : Option _) = some _ from h)
  | succ m1 =>
  rw [r11_Get_l1] at h
  rw [q_ar hE, q_cm hE, q_sc hE, q_ll hE, ← hR] at h
  cbv
  refine L_if hE h (fun h => ?_) (fun h => ?_) <;> cbv
  · refine L_row hE hR h fun r2 h => ?_; cbv
    refine L_if hE h (fun h => ?_) (fun h => ?_) <;> cbv
    · refine L_row hE hR h fun r3 h => ?_; cbv
      refine hT1 _ ?_
      exact And.left (hQ _ _ _ rfl rfl (by cases h; subst hR; rfl))
    refine hN1 _ (_, m1) [] h (Nat.lt_succ_self _) trivial ?_; (cbv; (try simp only [e_rnil hR]); repeat' (first | exact trivial | exact rfl | exact Or.inr trivial | apply And.intro))
  refine hX1 _ _ ?_; cbv
  exact And.left (hQ _ _ _ rfl rfl (by cases h; subst hR; rfl))
theorem r22_Holds_w {N : Nat} {p0 : GMatcher} {p1 : List GLabel} {r : Bool} (h : r22_Holds_g N p0 p1 = some r) : FunS Tryz.prog 13 [.agg [fS p0.Name, fI .i64 p0.Op, fS p0.Value], .t (.slc (rw _ cLabel p1))] (r22_Holds_s rw) r := by
  refine fun_w lay_ok Tryz.call13 Tryz.func13 rfl ?_
  intro A W E Q R hE hR hf hQ; rcases W with ⟨ar, cm, conj, cv, sl, sc, ct, sa, ss, ll, _, _, _, _, mi, mx, _, _, _⟩
  rw [← hR]
  unfold r22_Holds_g at h
  skip
  cbv
  refine L_whole hE lay_ok (by kernel_rfl) (by kernel_rfl) ?_; cbv
  refine L_pcall hE hR h (fun _ e => r11_Get_w e) (by subst hR; rfl) rfl fun a1 h => ?_; cbv
  refine L_pcall hE hR h (fun _ e => r22_Test_w e) rfl rfl fun a2 h => ?_; cbv
  exact And.left (hQ _ _ _ rfl rfl (by cases h; subst hR; rfl))
theorem l22_MatcherAsks_w {N : Nat} {p0 : GMatcher} {p1 : ByteArray} {p2 : List GLabel} {r : Bool} (h : l22_MatcherAsks_g N p0 p1 p2 = some r) : FunS Tryz.prog 3 [.agg [fS p0.Name, fI .i64 p0.Op, fS p0.Value], fS p1, .t (.slc (rw _ cLabel p2))] (l22_MatcherAsks_s rw) r := by
  refine fun_w lay_ok Tryz.call3 Tryz.func3 rfl ?_
  intro A W E Q R hE hR hf hQ; rcases W with ⟨ar, cm, conj, cv, sl, sc, ct, sa, ss, ll, _, _, _, _, mi, mx, _, _, _⟩
  rw [← hR]
  unfold l22_MatcherAsks_g at h
  rw [q_cm hE, q_sl hE, q_ll hE, ← hR] at h
  cbv
  refine L_rgJ hE lay_ok h 1 (fun j1 : Bool => [(21, fB j1)]) (fun j1 => []) (fun j1 h => ?_) (fun j1 h => ?_) <;> cbv
  · refine L_if hE h (fun h => ?_) (fun h => ?_) <;> cbv
    · cases h; (cbv; (try simp only [e_rnil hR]); repeat' (first | exact trivial | exact rfl | exact Or.inr trivial | apply And.intro))
    refine L_if hE h (fun h => ?_) (fun h => ?_) <;> cbv
    · cases h; (cbv; (try simp only [e_rnil hR]); repeat' (first | exact trivial | exact rfl | exact Or.inr trivial | apply And.intro))
    refine L_call hE hR h (fun _ e => r22_Great_w e) rfl rfl fun a1 h => ?_; cbv
    cases h; (cbv; (try simp only [e_rnil hR]); repeat' (first | exact trivial | exact rfl | exact Or.inr trivial | apply And.intro))
  refine L_if hE h (fun h => ?_) (fun h => ?_) <;> cbv
  · refine L_call hE hR h (fun _ e => l22_works_w e) rfl rfl fun a2 h => ?_; cbv
    exact And.left (hQ _ _ _ rfl rfl (by cases h; subst hR; rfl))
  refine L_for hE lay_ok 1 (fun g : Int × Nat => [(6, fB false), (7, fI .i64 g.1)]) (fun g => []) (fun g => l22_MatcherAsks_l1 N p0 p1 p2 g.2 g.1 = some r) (fun g => g.2) (_, N) h ?_ ?_
  · (cbv; (try simp only [e_rnil hR]); repeat' (first | exact trivial | exact rfl | exact Or.inr trivial | apply And.intro))
  rintro ⟨v3, m1⟩ h Q1 hN1 hT1 hX1
  have h : l22_MatcherAsks_l1 N p0 p1 p2 m1 v3 = some r := h
  cases m1 with
  | zero => exact nomatch (show (none : Option _) = some _ from h)
  | succ m1 =>
  rw [l22_MatcherAsks_l1] at h
  rw [q_ar hE, q_cm hE, q_conj hE, q_sl hE, q_ll hE, ← hR] at h
  cbv
  refine L_if hE h (fun h => ?_) (fun h => ?_) <;> cbv
  · refine L_whole hE lay_ok (by kernel_rfl) (by kernel_rfl) ?_; cbv
    refine L_row hE hR h fun r4 h => ?_; cbv
    refine L_pcall hE hR h (fun _ e => r22_Great_w e) rfl rfl fun a5 h => ?_; cbv
    refine L_if hE h (fun h => ?_) (fun h => ?_) <;> cbv
    · refine L_call hE hR h (fun _ e => l22_works_w e) rfl rfl fun a6 h => ?_; cbv
      refine hT1 _ ?_
      exact And.left (hQ _ _ _ rfl rfl (by cases h; subst hR; rfl))
    refine hN1 _ (_, m1) [] h (Nat.lt_succ_self _) trivial ?_; (cbv; (try simp only [e_rnil hR]); repeat' (first | exact trivial | exact rfl | exact Or.inr trivial | apply And.intro))
  refine hX1 _ _ ?_; cbv
  refine L_whole hE lay_ok (by kernel_rfl) (by kernel_rfl) ?_; cbv
  refine L_pcall hE hR h (fun _ e => matcher_Right_w e) rfl rfl fun a7 h => ?_; cbv
  refine L_pcall hE hR h (fun _ e => r22_Right_w e) rfl rfl fun a8 h => ?_; cbv
  refine L_if hE h (fun h => ?_) (fun h => ?_) <;> cbv
  · refine L_if hE h (fun h => ?_) (fun h => ?_) <;> cbv
    · refine L_if hE h (fun h => ?_) (fun h => ?_) <;> cbv
      · refine L_pcall hE hR h (fun _ e => matcher_Test_w e) rfl rfl fun a9 h => ?_; cbv
        refine L_if hE h (fun h => ?_) (fun h => ?_) <;> cbv
        · refine L_if hE h (fun h => ?_) (fun h => ?_) <;> cbv
          · refine L_if hE h (fun h => ?_) (fun h => ?_) <;> cbv
            · refine L_pcall hE hR h (fun _ e => r22_Test_w e) rfl rfl fun a10 h => ?_; cbv
              refine L_if hE h (fun h => ?_) (fun h => ?_) <;> cbv
              · refine L_if hE h (fun h => ?_) (fun h => ?_) <;> cbv
                · refine L_if hE h (fun h => ?_) (fun h => ?_) <;> cbv
                  · refine L_if hE h (fun h => ?_) (fun h => ?_) <;> cbv
                    · refine L_if hE h (fun h => ?_) (fun h => ?_) <;> cbv
                      · refine L_pcall hE hR h (fun _ e => matcher_Holds_w e) (by subst hR; rfl) rfl fun a11 h => ?_; cbv
                        refine L_if hE h (fun h => ?_) (fun h => ?_) <;> cbv
                        · refine L_if hE h (fun h => ?_) (fun h => ?_) <;> cbv
                          · refine L_if hE h (fun h => ?_) (fun h => ?_) <;> cbv
                            · refine L_pcall hE hR h (fun _ e => r22_Holds_w e) (by subst hR; rfl) rfl fun a12 h => ?_; cbv
                              refine L_if hE h (fun h => ?_) (fun h => ?_) <;> cbv
                              · refine L_if hE h (fun h => ?_) (fun h => ?_) <;> cbv
                                · refine L_if hE h (fun h => ?_) (fun h => ?_) <;> cbv
                                  · refine L_pcall hE hR h (fun _ e => l22_works_w e) rfl rfl fun a13 h => ?_; cbv
                                    refine L_if hE h (fun h => ?_) (fun h => ?_) <;> cbv
                                    · exact And.left (hQ _ _ _ rfl rfl (by cases h; subst hR; rfl))
                                    exact nomatch h
                                  refine L_if hE h (fun h => ?_) (fun h => ?_) <;> cbv
                                  · exact nomatch h
                                  exact And.left (hQ _ _ _ rfl rfl (by cases h; subst hR; rfl))
                                exact nomatch h
                              exact nomatch h
                            exact nomatch h
                          exact nomatch h
                        exact nomatch h
                      exact nomatch h
                    exact nomatch h
                  refine L_if hE h (fun h => ?_) (fun h => ?_) <;> cbv
                  · exact nomatch h
                  refine L_if hE h (fun h => ?_) (fun h => ?_) <;> cbv
                  · exact nomatch h
                  refine L_if hE h (fun h => ?_) (fun h => ?_) <;> cbv
                  · exact nomatch h
                  refine L_if hE h (fun h => ?_) (fun h => ?_) <;> cbv
                  · exact nomatch h
                  refine L_if hE h (fun h => ?_) (fun h => ?_) <;> cbv
                  · exact nomatch h
                  refine L_if hE h (fun h => ?_) (fun h => ?_) <;> cbv
                  · exact nomatch h
                  refine L_if hE h (fun h => ?_) (fun h => ?_) <;> cbv
                  · exact nomatch h
                  refine L_f hE ?_; cbv
                  refine L_f hE ?_; cbv
                  exact And.left (hQ _ _ _ rfl rfl (by cases h; subst hR; rfl))
                exact nomatch h
              exact nomatch h
            exact nomatch h
          exact nomatch h
        exact nomatch h
      exact nomatch h
    exact nomatch h
  refine L_if hE h (fun h => ?_) (fun h => ?_) <;> cbv
  · exact nomatch h
  refine L_if hE h (fun h => ?_) (fun h => ?_) <;> cbv
  · exact nomatch h
  refine L_if hE h (fun h => ?_) (fun h => ?_) <;> cbv
  · exact nomatch h
  refine L_if hE h (fun h => ?_) (fun h => ?_) <;> cbv
  · exact nomatch h
  refine L_if hE h (fun h => ?_) (fun h => ?_) <;> cbv
  · exact nomatch h
  refine L_if hE h (fun h => ?_) (fun h => ?_) <;> cbv
  · exact nomatch h
  refine L_if hE h (fun h => ?_) (fun h => ?_) <;> cbv
  · exact nomatch h
  refine L_f hE ?_; cbv
  refine L_f hE ?_; cbv
  refine L_f hE ?_; cbv
  refine L_f hE ?_; cbv
  refine L_f hE ?_; cbv
  refine L_f hE ?_; cbv
  refine L_f hE ?_; cbv
  refine L_f hE ?_; cbv
  refine L_f hE ?_; cbv
  refine L_f hE ?_; cbv
  exact And.left (hQ _ _ _ rfl rfl (by cases h; subst hR; rfl))
end Gn
end Go.Proofs.YtampjnpnekekiaaGreatDoor
