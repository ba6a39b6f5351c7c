/- Walks over the reference's pattern reader: digits, words, escapes. -/
import Derived.Test.YthgcefppeaopkaaDoorRefW
namespace Go.Proofs.YthgcefppeaopkaaDoor
open Go Go.RowKit Go.Sort
set_option maxRecDepth 100000
set_option linter.unusedSimpArgs false
set_option linter.unusedVariables false
set_option maxHeartbeats 1000000
theorem rdigits_any (w : World) : Calls Tryd.prog 80 #[] w (RetG (.agg #[.int .u64 ((Rx.digits).a.toNat : Int), .int .u64 ((Rx.digits).b.toNat : Int), .int .u64 ((Rx.digits).c.toNat : Int), .int .u64 ((Rx.digits).d.toNat : Int)]) w) := by
  have HC := hide (fun w => rbetween_any 48 57 (by decide) (by decide) w)
  go_enter Tryd.func80, Tryd.ntmps80
  go_wp2_with fail
  refine (unhide HC _).mono ?_
  rintro e w1 ⟨rfl, hb1⟩
  have hA := (Blk.new w #[.int .u64 0, .int .u64 0, .int .u64 0, .int .u64 0] 25).call hb1
  (have z0 : w1.cell? ⟨w.heap.size, 0, none⟩ = some (.int .u64 0) := hA.cell 0; have z1 : w1.cell? ⟨w.heap.size, 1, none⟩ = some (.int .u64 0) := hA.cell 1; have z2 : w1.cell? ⟨w.heap.size, 2, none⟩ = some (.int .u64 0) := hA.cell 2; have z3 : w1.cell? ⟨w.heap.size, 3, none⟩ = some (.int .u64 0) := hA.cell 3; have zf : ∀ i, w1.frozen? ⟨w.heap.size, i, none⟩ = false := hA.frozen)
  have HB := hid_mk (bthen (B := w.heap.size) (a := w) ((Below.refl _ _).alloc (Nat.le_refl _) _) (by simp) hb1)
  clear hA hb1
  go_wp2
  refine bodyPost_ret (v := .agg #[.int .u64 ((Rx.digits).a.toNat : Int), .int .u64 ((Rx.digits).b.toNat : Int), .int .u64 ((Rx.digits).c.toNat : Int), .int .u64 ((Rx.digits).d.toNat : Int)]) (by simp [results, Tryd.results80, go_sem, z0, z1, z2, z3]; simp [Rx.digits]) rfl ⟨rfl, ?_⟩
  have hb2 := HB.out
  exact (by repeat (first | with_reducible exact Below.refl _ _ | with_reducible assumption | with_reducible refine Below.setCell ?_ (by first | omega | (dsimp only; omega) | (simp <;> omega)) _ | with_reducible refine Below.alloc ?_ (by first | omega | (simp <;> omega)) _ | with_reducible refine below_drewN ?_ _ | with_reducible refine Below.drew ?_))
theorem words_put : (((CSet.between 48 57).or (CSet.between 65 90)).or (CSet.between 97 122)).put 95 = Rx.words := CSet.ext_has fun x hx => by
  unfold Rx.words
  rw [CSet.has_put _ _ _ (by decide) hx, CSet.has_or, CSet.has_or, CSet.has_or, CSet.has_or, CSet.has_or, CSet.has_between 95 95 x (by decide) hx]
  have : (decide (95 ≤ x) && decide (x ≤ 95)) = decide (x = 95) := by rw [Bool.eq_iff_iff]; simp; omega
  rw [this]
  simp only [Bool.or_assoc]
theorem rwords_any (w : World) : Calls Tryd.prog 81 #[] w (RetG (.agg #[.int .u64 ((Rx.words).a.toNat : Int), .int .u64 ((Rx.words).b.toNat : Int), .int .u64 ((Rx.words).c.toNat : Int), .int .u64 ((Rx.words).d.toNat : Int)]) w) := by
  have HC := hide (fun lo hi (h1 : lo < 256) (h2 : hi < 256) w => rbetween_any lo hi h1 h2 w)
  have HO := hide (fun S T w => ror_any S T w)
  have HW := hide (fun S w => rwith_any S 95 (by decide) w)
  go_enter Tryd.func81, Tryd.ntmps81
  go_wp2_with fail
  refine (unhide HC 48 57 (by decide) (by decide) _).mono ?_
  rintro e w1 ⟨rfl, hb1⟩
  go_wp2_with fail
  refine (unhide HC 65 90 (by decide) (by decide) _).mono ?_
  rintro e w2 ⟨rfl, hb2⟩
  go_wp2_with fail
  refine (unhide HO (CSet.between 48 57) (CSet.between 65 90) _).mono ?_
  rintro e w3 ⟨rfl, hb3⟩
  go_wp2_with fail
  refine (unhide HC 97 122 (by decide) (by decide) _).mono ?_
  rintro e w4 ⟨rfl, hb4⟩
  go_wp2_with fail
  refine (unhide HO ((CSet.between 48 57).or (CSet.between 65 90)) (CSet.between 97 122) _).mono ?_
  rintro e w5 ⟨rfl, hb5⟩
  go_wp2_with fail
  refine (unhide HW (((CSet.between 48 57).or (CSet.between 65 90)).or (CSet.between 97 122)) _).mono ?_
  rintro e w6 ⟨rfl, hb6⟩
  have hbb := bstep (bstep (bstep (bstep (bstep hb1 hb2) hb3) hb4) hb5) hb6
  have hA := (Blk.new w #[.int .u64 0, .int .u64 0, .int .u64 0, .int .u64 0] 25).call hbb
  (have z0 : w6.cell? ⟨w.heap.size, 0, none⟩ = some (.int .u64 0) := hA.cell 0; have z1 : w6.cell? ⟨w.heap.size, 1, none⟩ = some (.int .u64 0) := hA.cell 1; have z2 : w6.cell? ⟨w.heap.size, 2, none⟩ = some (.int .u64 0) := hA.cell 2; have z3 : w6.cell? ⟨w.heap.size, 3, none⟩ = some (.int .u64 0) := hA.cell 3; have zf : ∀ i, w6.frozen? ⟨w.heap.size, i, none⟩ = false := hA.frozen)
  have HB := hid_mk (bthen (B := w.heap.size) (a := w) ((Below.refl _ _).alloc (Nat.le_refl _) _) (by simp) hbb)
  clear hA hb1 hb2 hb3 hb4 hb5 hb6 hbb
  rw [words_put]
  go_wp2
  refine bodyPost_ret (v := .agg #[.int .u64 ((Rx.words).a.toNat : Int), .int .u64 ((Rx.words).b.toNat : Int), .int .u64 ((Rx.words).c.toNat : Int), .int .u64 ((Rx.words).d.toNat : Int)]) (by simp [results, Tryd.results81, go_sem, z0, z1, z2, z3]) rfl ⟨rfl, ?_⟩
  have hb2 := HB.out
  exact (by repeat (first | with_reducible exact Below.refl _ _ | with_reducible assumption | with_reducible refine Below.setCell ?_ (by first | omega | (dsimp only; omega) | (simp <;> omega)) _ | with_reducible refine Below.alloc ?_ (by first | omega | (simp <;> omega)) _ | with_reducible refine below_drewN ?_ _ | with_reducible refine Below.drew ?_))
/-- the reference hands back a set, or a fault -/
def RetPS (r : Res (CSet × Bool)) (w : World) (x : Ending) (w' : World) : Prop := Below w.heap.size w w' ∧ match r with
  | .ok (S, many) p => x = .returned (.agg #[.int .i64 0, .int .u64 0, .int .u64 0, .int .u64 0, .int .u64 0, .slice none 0 0, .int .i64 0, .int .i64 0, .int .u64 ((S).a.toNat : Int), .int .u64 ((S).b.toNat : Int), .int .u64 ((S).c.toNat : Int), .int .u64 ((S).d.toNat : Int), .bool (many), .int .i64 ((p : Nat)), .int .i64 0, .int .i64 0])
  | .bad e p => e ≠ 0 ∧ x = .returned (.agg #[.int .i64 0, .int .u64 0, .int .u64 0, .int .u64 0, .int .u64 0, .slice none 0 0, .int .i64 0, .int .i64 0, .int .u64 0, .int .u64 0, .int .u64 0, .int .u64 0, .bool false, .int .i64 (0), .int .i64 (e), .int .i64 ((p : Nat))])
  | .out => True
theorem amongX (n : Nat) (hn : n < 256) : amongB [92, 46, 91, 93, 40, 41, 123, 125, 124, 42, 43, 63, 45, 94] n = Rx.plainB (n : Int) := by
  unfold amongB Rx.plainB
  rw [Bool.eq_iff_iff]
  simp
  omega
/-- the byte behind the backslash -/
theorem resc_end (s : ByteArray) (i : Nat) (w : World) (hs : s.size ≤ 1000) (hi : i ≤ 1500) (h : s.size ≤ i + 1) : Calls Tryd.prog 68 #[.string s, .int .i64 i] w (RetPS (Rx.esc s.data.toList i) w) := by
  have HE : Hid (Rx.esc s.data.toList i = .bad 1 s.size) := hid_mk (by unfold Rx.esc; rw [if_pos (pk_ge h), len_data])
  have HB := hide (fun e p w => rbad_any e p w)
  rw [HE.out]
  clear HE
  go_enter Tryd.func68, Tryd.ntmps68
  go_wp2_with fail
  refine (unhide HB _ _ _).mono ?_
  rintro x w1 ⟨rfl, hb1⟩
  have hr := res_after hb1
  (go_wp2_with (refine store_row 56 rfl _ _ rfl w.heap.size _ _ 56 hr.1 rfl rfl (by kernel_rfl) rfl rfl ?_); refine ret_row rfl w.heap.size _ _ hr.1.row rfl _ Tryd.underlying56 rfl ?_ rfl ?_; (kernel_rfl); (exact ⟨below_row hr.2 (Nat.le_refl _) _, (by first | rfl | exact ⟨by decide, rfl⟩)⟩))
theorem resc_d (s : ByteArray) (i : Nat) (w : World) (hs : s.size ≤ 1000) (h : i + 1 < s.size) (hc : Rx.pk s.data.toList (i + 1) = 100) : Calls Tryd.prog 68 #[.string s, .int .i64 i] w (RetPS (.ok (Rx.digits, true) (i + 2)) w) := by
  have hx : ∃ x, s[i + 1]'h = x := ⟨_, rfl⟩
  obtain ⟨x, hx⟩ := hx
  have hp : Rx.pk s.data.toList (i + 1) = (x.toNat : Int) := by rw [pk_lt h, hx]
  have hxl := x.toNat_lt
  rw [hp] at hc
  clear hp
  have hc2 : x.toNat = 100 := by omega
  have e0 : (x.toNat == 100) = true := by rw [hc2]; rfl
  have e1 : ((x.toNat : Int) == 100) = true := by rw [hc2]; rfl
  have e2 : ((x.toNat : Int) == 119) = false := by rw [hc2]; rfl
  clear hc hc2
  go_enter Tryd.func68, Tryd.ntmps68
  go_wp2_with fail
  refine (rdigits_any _).mono ?_
  rintro e w1 ⟨rfl, hb1⟩
  have hr := res_after hb1
  (go_wp2_with (refine store_row 56 rfl _ _ rfl w.heap.size _ _ 56 hr.1 rfl rfl (by kernel_rfl) rfl rfl ?_); refine ret_row rfl w.heap.size _ _ hr.1.row rfl _ Tryd.underlying56 rfl ?_ rfl ?_; (kernel_rfl); (exact ⟨below_row hr.2 (Nat.le_refl _) _, (by first | rfl | exact ⟨by decide, rfl⟩)⟩))
theorem resc_w (s : ByteArray) (i : Nat) (w : World) (hs : s.size ≤ 1000) (h : i + 1 < s.size) (hc : Rx.pk s.data.toList (i + 1) = 119) : Calls Tryd.prog 68 #[.string s, .int .i64 i] w (RetPS (.ok (Rx.words, true) (i + 2)) w) := by
  have hx : ∃ x, s[i + 1]'h = x := ⟨_, rfl⟩
  obtain ⟨x, hx⟩ := hx
  have hp : Rx.pk s.data.toList (i + 1) = (x.toNat : Int) := by rw [pk_lt h, hx]
  have hxl := x.toNat_lt
  rw [hp] at hc
  clear hp
  have hc2 : x.toNat = 119 := by omega
  have e0 : (x.toNat == 100) = false := by rw [hc2]; rfl
  have e1 : ((x.toNat : Int) == 100) = false := by rw [hc2]; rfl
  have e2 : ((x.toNat : Int) == 119) = true := by rw [hc2]; rfl
  clear hc hc2
  go_enter Tryd.func68, Tryd.ntmps68
  go_wp2_with fail
  refine (rwords_any _).mono ?_
  rintro e w1 ⟨rfl, hb1⟩
  have hr := res_after hb1
  (go_wp2_with (refine store_row 56 rfl _ _ rfl w.heap.size _ _ 56 hr.1 rfl rfl (by kernel_rfl) rfl rfl ?_); refine ret_row rfl w.heap.size _ _ hr.1.row rfl _ Tryd.underlying56 rfl ?_ rfl ?_; (kernel_rfl); (exact ⟨below_row hr.2 (Nat.le_refl _) _, (by first | rfl | exact ⟨by decide, rfl⟩)⟩))
theorem resc_plain (s : ByteArray) (i : Nat) (w : World) (hs : s.size ≤ 1000) (h : i + 1 < s.size) (h1 : ¬ Rx.pk s.data.toList (i + 1) = 100) (h2 : ¬ Rx.pk s.data.toList (i + 1) = 119) (h3 : ¬ Rx.pk s.data.toList (i + 1) = 120) (h4 : Rx.plainB (Rx.pk s.data.toList (i + 1)) = true) : Calls Tryd.prog 68 #[.string s, .int .i64 i] w (RetPS (.ok (Rx.one (Rx.pk s.data.toList (i + 1)), false) (i + 2)) w) := by
  have hx : ∃ x, s[i + 1]'h = x := ⟨_, rfl⟩
  obtain ⟨x, hx⟩ := hx
  have hp : Rx.pk s.data.toList (i + 1) = (x.toNat : Int) := by rw [pk_lt h, hx]
  have hxl := x.toNat_lt
  rw [hp] at h1 h2 h3 h4 ⊢
  clear hp
  have hone : Rx.one (x.toNat : Int) = CSet.between x.toNat x.toNat := by simp [Rx.one]
  rw [hone]
  have e1 : ((x.toNat : Int) == 100) = false := beq_eq_false_iff_ne.2 (by omega)
  have e2 : ((x.toNat : Int) == 119) = false := beq_eq_false_iff_ne.2 (by omega)
  have e3 : ((x.toNat : Int) == 120) = false := beq_eq_false_iff_ne.2 (by omega)
  have HAM := hide (fun w => ramong_any x.toNat ⟨#[92, 46, 91, 93, 40, 41, 123, 125, 124, 42, 43, 63, 45, 94]⟩ w hxl (by decide))
  have ha : amongB (ByteArray.mk #[92, 46, 91, 93, 40, 41, 123, 125, 124, 42, 43, 63, 45, 94]).data.toList x.toNat = true := (amongX x.toNat hxl).trans h4
  rw [ha] at HAM
  clear h1 h2 h3 h4 ha hone
  go_enter Tryd.func68, Tryd.ntmps68
  go_wp2_with fail
  refine (unhide HAM _).mono ?_
  rintro e w0 ⟨rfl, rfl⟩
  go_wp2_with fail
  refine (rbetween_any x.toNat x.toNat hxl hxl _).mono ?_
  rintro e w1 ⟨rfl, hb1⟩
  have hr := res_after hb1
  (go_wp2_with (refine store_row 56 rfl _ _ rfl w.heap.size _ _ 56 hr.1 rfl rfl (by kernel_rfl) rfl rfl ?_); refine ret_row rfl w.heap.size _ _ hr.1.row rfl _ Tryd.underlying56 rfl ?_ rfl ?_; (kernel_rfl); (exact ⟨below_row hr.2 (Nat.le_refl _) _, (by first | rfl | exact ⟨by decide, rfl⟩)⟩))
theorem resc_no (s : ByteArray) (i : Nat) (w : World) (hs : s.size ≤ 1000) (h : i + 1 < s.size) (h1 : ¬ Rx.pk s.data.toList (i + 1) = 100) (h2 : ¬ Rx.pk s.data.toList (i + 1) = 119) (h3 : ¬ Rx.pk s.data.toList (i + 1) = 120) (h4 : Rx.plainB (Rx.pk s.data.toList (i + 1)) = false) : Calls Tryd.prog 68 #[.string s, .int .i64 i] w (RetPS (.bad 2 i) w) := by
  have hx : ∃ x, s[i + 1]'h = x := ⟨_, rfl⟩
  obtain ⟨x, hx⟩ := hx
  have hp : Rx.pk s.data.toList (i + 1) = (x.toNat : Int) := by rw [pk_lt h, hx]
  have hxl := x.toNat_lt
  rw [hp] at h1 h2 h3 h4
  clear hp
  have e1 : ((x.toNat : Int) == 100) = false := beq_eq_false_iff_ne.2 (by omega)
  have e2 : ((x.toNat : Int) == 119) = false := beq_eq_false_iff_ne.2 (by omega)
  have e3 : ((x.toNat : Int) == 120) = false := beq_eq_false_iff_ne.2 (by omega)
  have HAM := hide (fun w => ramong_any x.toNat ⟨#[92, 46, 91, 93, 40, 41, 123, 125, 124, 42, 43, 63, 45, 94]⟩ w hxl (by decide))
  have ha : amongB (ByteArray.mk #[92, 46, 91, 93, 40, 41, 123, 125, 124, 42, 43, 63, 45, 94]).data.toList x.toNat = false := (amongX x.toNat hxl).trans h4
  rw [ha] at HAM
  have HB := hide (fun e p w => rbad_any e p w)
  clear h1 h2 h3 h4 ha
  go_enter Tryd.func68, Tryd.ntmps68
  go_wp2_with fail
  refine (unhide HAM _).mono ?_
  rintro e w0 ⟨rfl, rfl⟩
  go_wp2_with fail
  refine (unhide HB _ _ _).mono ?_
  rintro e w1 ⟨rfl, hb1⟩
  have hr := res_after hb1
  (go_wp2_with (refine store_row 56 rfl _ _ rfl w.heap.size _ _ 56 hr.1 rfl rfl (by kernel_rfl) rfl rfl ?_); refine ret_row rfl w.heap.size _ _ hr.1.row rfl _ Tryd.underlying56 rfl ?_ rfl ?_; (kernel_rfl); (exact ⟨below_row hr.2 (Nat.le_refl _) _, (by first | rfl | exact ⟨by decide, rfl⟩)⟩))
end Go.Proofs.YthgcefppeaopkaaDoor
