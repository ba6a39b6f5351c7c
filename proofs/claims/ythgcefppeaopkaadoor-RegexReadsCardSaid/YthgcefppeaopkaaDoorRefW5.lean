/- Walks over the reference's pattern reader: items. -/
import Derived.Test.YthgcefppeaopkaaDoorRefW4
namespace Go.Proofs.YthgcefppeaopkaaDoor
open Go Go.RowKit Go.Sort
set_option maxRecDepth 100000
set_option linter.unusedSimpArgs false
set_option linter.unusedVariables false
set_option maxHeartbeats 1000000
/-- the reference hands back an item's set, or a fault -/
def RetPI (r : Res CSet) (w : World) (x : Ending) (w' : World) : Prop := Below w.heap.size w w' ∧ match r with
  | .ok S p => ∃ many : Bool, x = .returned (.agg #[.int .i64 0, .int .u64 0, .int .u64 0, .int .u64 0, .int .u64 0, .slice none 0 0, .int .i64 0, .int .i64 0, .int .u64 ((S).a.toNat : Int), .int .u64 ((S).b.toNat : Int), .int .u64 ((S).c.toNat : Int), .int .u64 ((S).d.toNat : Int), .bool (many), .int .i64 ((p : Nat)), .int .i64 0, .int .i64 0])
  | .bad e p => e ≠ 0 ∧ x = .returned (.agg #[.int .i64 0, .int .u64 0, .int .u64 0, .int .u64 0, .int .u64 0, .slice none 0 0, .int .i64 0, .int .i64 0, .int .u64 0, .int .u64 0, .int .u64 0, .int .u64 0, .bool false, .int .i64 (0), .int .i64 (e), .int .i64 ((p : Nat))])
  | .out => True
theorem res_box {w w1 : World} {T : Array Value} {t : Nat} (hb : Below (w.alloc (.cells #[.int .i64 0, .int .u64 0, .int .u64 0, .int .u64 0, .int .u64 0, .slice none 0 0, .int .i64 0, .int .i64 0, .int .u64 0, .int .u64 0, .int .u64 0, .int .u64 0, .bool false, .int .i64 (0), .int .i64 (0), .int .i64 (0)] 56)).heap.size (w.alloc (.cells #[.int .i64 0, .int .u64 0, .int .u64 0, .int .u64 0, .int .u64 0, .slice none 0 0, .int .i64 0, .int .i64 0, .int .u64 0, .int .u64 0, .int .u64 0, .int .u64 0, .bool false, .int .i64 (0), .int .i64 (0), .int .i64 (0)] 56)) w1) : (Blk (w1.alloc (.cells T t)) w.heap.size #[.int .i64 0, .int .u64 0, .int .u64 0, .int .u64 0, .int .u64 0, .slice none 0 0, .int .i64 0, .int .i64 0, .int .u64 0, .int .u64 0, .int .u64 0, .int .u64 0, .bool false, .int .i64 (0), .int .i64 (0), .int .i64 (0)] 56 ∧ Below w.heap.size w (w1.alloc (.cells T t))) ∧ Blk (w1.alloc (.cells T t)) w1.heap.size T t ∧ w.heap.size < w1.heap.size :=
  ⟨⟨(res_after hb).1.alloc _, (res_after hb).2.alloc (res_after hb).2.size _⟩, Blk.new _ _ _, (res_after hb).1.lt⟩
theorem ritem_bad (s : ByteArray) (i : Nat) (w : World) (hs : s.size ≤ 1000) (hi : i ≤ 1400) (e : Int) (p : Nat) (hr : Rx.sign s.data.toList i = .bad e p) : Calls Tryd.prog 77 #[.string s, .int .i64 i] w (RetPI (Rx.item s.data.toList i) w) := by
  have HE : Hid (Rx.item s.data.toList i = .bad e p) := hid_mk (by unfold Rx.item; rw [hr])
  have HS := hide (fun w => rsign_any s i w hs (by omega))
  rw [hr] at HS
  rw [HE.out]
  clear hr HE
  go_enter Tryd.func77, Tryd.ntmps77
  go_wp2_with fail
  refine (unhide HS _).mono ?_
  rintro x w1 ⟨hb1, hne, rfl⟩
  have hbx := res_box (T := #[.int .i64 0, .int .u64 0, .int .u64 0, .int .u64 0, .int .u64 0, .slice none 0 0, .int .i64 0, .int .i64 0, .int .u64 0, .int .u64 0, .int .u64 0, .int .u64 0, .bool false, .int .i64 (0), .int .i64 (e), .int .i64 ((p : Nat))]) (t := 56) hb1
  have hne2 : (e != 0) = true := by simpa using hne
  clear hb1
  (go_wp2_with (first | (refine load_row 56 rfl _ rfl (w1.heap.size) _ 56 hbx.2.1 rfl _ Tryd.underlying56 rfl (by kernel_rfl) ?_) | (refine store_row 56 rfl _ _ rfl w.heap.size _ _ 56 hbx.1.1 rfl rfl (by kernel_rfl) rfl rfl ?_)); refine ret_row rfl w.heap.size _ _ hbx.1.1.row rfl _ Tryd.underlying56 rfl ?_ rfl ?_; (kernel_rfl); (exact ⟨below_row hbx.1.2 (Nat.le_refl _) _, ⟨hne, rfl⟩⟩))
theorem ritem_one (s : ByteArray) (i : Nat) (w : World) (hs : s.size ≤ 1000) (hi : i ≤ 1400) (S : CSet) (many : Bool) (p : Nat) (hr : Rx.sign s.data.toList i = .ok (S, many) p) (hc : many = true ∨ Rx.pk s.data.toList p ≠ 45) : Calls Tryd.prog 77 #[.string s, .int .i64 i] w (RetPI (Rx.item s.data.toList i) w) := by
  have HE : Hid (Rx.item s.data.toList i = .ok S p) := hid_mk (by unfold Rx.item; rw [hr]; exact if_pos hc)
  have HS := hide (fun w => rsign_any s i w hs (by omega))
  have hfi := fine_sign s.data.toList i
  rw [hr] at HS hfi
  have hp : p ≤ s.size := by simpa using hfi.2
  rw [HE.out]
  clear hr HE hfi
  cases many with
  | true =>
    clear hc
    go_enter Tryd.func77, Tryd.ntmps77
    go_wp2_with fail
    refine (unhide HS _).mono ?_
    rintro x w1 ⟨hb1, rfl⟩
    have hbx := res_box (T := #[.int .i64 0, .int .u64 0, .int .u64 0, .int .u64 0, .int .u64 0, .slice none 0 0, .int .i64 0, .int .i64 0, .int .u64 ((S).a.toNat : Int), .int .u64 ((S).b.toNat : Int), .int .u64 ((S).c.toNat : Int), .int .u64 ((S).d.toNat : Int), .bool (true), .int .i64 ((p : Nat)), .int .i64 0, .int .i64 0]) (t := 56) hb1
    clear hb1
    (go_wp2_with (first | (refine load_row 56 rfl _ rfl (w1.heap.size) _ 56 hbx.2.1 rfl _ Tryd.underlying56 rfl (by kernel_rfl) ?_) | (refine store_row 56 rfl _ _ rfl w.heap.size _ _ 56 hbx.1.1 rfl rfl (by kernel_rfl) rfl rfl ?_)); refine ret_row rfl w.heap.size _ _ hbx.1.1.row rfl _ Tryd.underlying56 rfl ?_ rfl ?_; (kernel_rfl); (exact ⟨below_row hbx.1.2 (Nat.le_refl _) _, ⟨true, rfl⟩⟩))
  | false =>
    have hc2 : Rx.pk s.data.toList p ≠ 45 := by rcases hc with h | h; cases h; exact h
    have HI := hide (fun w => ris_any s p 45 w hs (by omega) (by decide))
    rw [decide_eq_false (show ¬ Rx.pk s.data.toList p = ((45 : Nat) : Int) from hc2)] at HI
    clear hc hc2
    go_enter Tryd.func77, Tryd.ntmps77
    go_wp2_with fail
    refine (unhide HS _).mono ?_
    rintro x w1 ⟨hb1, rfl⟩
    have hbx := res_box (T := #[.int .i64 0, .int .u64 0, .int .u64 0, .int .u64 0, .int .u64 0, .slice none 0 0, .int .i64 0, .int .i64 0, .int .u64 ((S).a.toNat : Int), .int .u64 ((S).b.toNat : Int), .int .u64 ((S).c.toNat : Int), .int .u64 ((S).d.toNat : Int), .bool (false), .int .i64 ((p : Nat)), .int .i64 0, .int .i64 0]) (t := 56) hb1
    clear hb1
    go_wp2_with fail
    refine (unhide HI _).mono ?_
    rintro x w2 ⟨rfl, rfl⟩
    (go_wp2_with (first | (refine load_row 56 rfl _ rfl (w1.heap.size) _ 56 hbx.2.1 rfl _ Tryd.underlying56 rfl (by kernel_rfl) ?_) | (refine store_row 56 rfl _ _ rfl w.heap.size _ _ 56 hbx.1.1 rfl rfl (by kernel_rfl) rfl rfl ?_)); refine ret_row rfl w.heap.size _ _ hbx.1.1.row rfl _ Tryd.underlying56 rfl ?_ rfl ?_; (kernel_rfl); (exact ⟨below_row hbx.1.2 (Nat.le_refl _) _, ⟨false, rfl⟩⟩))
theorem ritem_two (s : ByteArray) (i : Nat) (w : World) (hs : s.size ≤ 1000) (hi : i ≤ 1400) (S : CSet) (p : Nat) (hr : Rx.sign s.data.toList i = .ok (S, false) p) (hc : Rx.pk s.data.toList p = 45) : Calls Tryd.prog 77 #[.string s, .int .i64 i] w (RetPI (Rx.item s.data.toList i) w) := by
  have HI : Hid (Rx.item s.data.toList i = match Rx.sign s.data.toList (p + 1) with
      | .ok (T, more) q => if more = true ∨ T.first < S.first then .bad 2 (p + 1) else .ok (CSet.between S.first.toNat T.first.toNat) q
      | .bad e q => .bad e q
      | .out => .out) := hid_mk (by
    unfold Rx.item
    rw [hr]
    dsimp only
    rw [if_neg (by simp [hc])]
    exact rfl)
  have HS := hide (fun w => rsign_any s i w hs (by omega))
  have hlt : p < s.size := by simpa using pk_in (l := s.data.toList) (i := p) (by rw [hc]; decide)
  have HS2 := hide (fun w => rsign_any s (p + 1) w hs (by omega))
  have HIS := hide (fun w => ris_any s p 45 w hs (by omega) (by decide))
  rw [decide_eq_true (show Rx.pk s.data.toList p = ((45 : Nat) : Int) from hc)] at HIS
  obtain ⟨n, hn, rfl⟩ := sign_single hr
  rw [first_one hn] at HI
  rw [hr] at HS
  have hfi := fine_sign s.data.toList (p + 1)
  have HF := hide (fun T w => rfirst_any T w)
  have HFN := hide (fun d os W => retG_q (W := W) (d := d) (os := os) (show Calls _ _ _ _ (RetG (.int .i64 (n : Int)) _) by have h := rfirst_any (CSet.between n n) (grow (redrawn W d) os); rw [first_one hn] at h; exact h))
  clear hr hc
  obtain ⟨R, hR⟩ : ∃ R, R = Rx.item s.data.toList i := ⟨_, rfl⟩
  rw [← hR] at HI ⊢
  clear hR
  cases hq : Rx.sign s.data.toList (p + 1) with
  | out => rw [hq] at hfi; exact hfi.elim
  | bad e q =>
    rw [hq] at HI HS2
    have HE : Hid (R = .bad e q) := HI
    clear hfi hq HI
    go_enter Tryd.func77, Tryd.ntmps77
    go_wp2_with fail
    refine (unhide HS _).mono ?_
    rintro x w1 ⟨hb1, rfl⟩
    have hbx := res_box (T := #[.int .i64 0, .int .u64 0, .int .u64 0, .int .u64 0, .int .u64 0, .slice none 0 0, .int .i64 0, .int .i64 0, .int .u64 ((CSet.between n n).a.toNat : Int), .int .u64 ((CSet.between n n).b.toNat : Int), .int .u64 ((CSet.between n n).c.toNat : Int), .int .u64 ((CSet.between n n).d.toNat : Int), .bool (false), .int .i64 ((p : Nat)), .int .i64 0, .int .i64 0]) (t := 56) hb1
    clear hb1
    go_wp2_with fail
    refine (unhide HIS _).mono ?_
    rintro x w2 ⟨rfl, rfl⟩
    go_wp2_with fail
    refine (unhide HS2 _).mono ?_
    rintro x w2 ⟨hb2, hne, rfl⟩
    have hne2 : (e != 0) = true := by simpa using hne
    have hr2 : Blk (w2.alloc (.cells #[.int .i64 0, .int .u64 0, .int .u64 0, .int .u64 0, .int .u64 0, .slice none 0 0, .int .i64 0, .int .i64 0, .int .u64 0, .int .u64 0, .int .u64 0, .int .u64 0, .bool false, .int .i64 (0), .int .i64 (e), .int .i64 ((q : Nat))] 56)) w.heap.size #[.int .i64 0, .int .u64 0, .int .u64 0, .int .u64 0, .int .u64 0, .slice none 0 0, .int .i64 0, .int .i64 0, .int .u64 0, .int .u64 0, .int .u64 0, .int .u64 0, .bool false, .int .i64 (0), .int .i64 (0), .int .i64 (0)] 56 ∧ Below w.heap.size w (w2.alloc (.cells #[.int .i64 0, .int .u64 0, .int .u64 0, .int .u64 0, .int .u64 0, .slice none 0 0, .int .i64 0, .int .i64 0, .int .u64 0, .int .u64 0, .int .u64 0, .int .u64 0, .bool false, .int .i64 (0), .int .i64 (e), .int .i64 ((q : Nat))] 56)) := ⟨(hbx.1.1.call hb2).alloc _, (hbx.1.2.trans (hb2.mono hbx.1.2.size)).alloc (by have := hbx.1.2.size; have := hb2.size; omega) _⟩
    have hB2 := Blk.new w2 #[.int .i64 0, .int .u64 0, .int .u64 0, .int .u64 0, .int .u64 0, .slice none 0 0, .int .i64 0, .int .i64 0, .int .u64 0, .int .u64 0, .int .u64 0, .int .u64 0, .bool false, .int .i64 (0), .int .i64 (e), .int .i64 ((q : Nat))] 56
    have hz2 : w1.heap.size < w2.heap.size := by have := hb2.size; simp at this; omega
    clear hb2
    (go_wp2_with (first | (refine load_row 56 rfl _ rfl (w2.heap.size) _ 56 hB2 rfl _ Tryd.underlying56 rfl (by kernel_rfl) ?_) | (refine store_row 56 rfl _ _ rfl w.heap.size _ _ 56 hr2.1 rfl rfl (by kernel_rfl) rfl rfl ?_)); refine ret_row rfl w.heap.size _ _ hr2.1.row rfl _ Tryd.underlying56 rfl ?_ rfl ?_; (kernel_rfl); (exact ⟨below_row hr2.2 (Nat.le_refl _) _, (by rw [HE.out]; exact ⟨hne, rfl⟩)⟩))
  | ok a q =>
    obtain ⟨T, more⟩ := a
    rw [hq] at HI HS2
    dsimp only at HI
    have hmore : more = true ∨ ∃ m, m < 256 ∧ T = CSet.between m m := by
      cases more with
      | true => exact Or.inl rfl
      | false => exact Or.inr (sign_single hq)
    clear hfi hq
    go_enter Tryd.func77, Tryd.ntmps77
    go_wp2_with fail
    refine (unhide HS _).mono ?_
    rintro x w1 ⟨hb1, rfl⟩
    have hbx := res_box (T := #[.int .i64 0, .int .u64 0, .int .u64 0, .int .u64 0, .int .u64 0, .slice none 0 0, .int .i64 0, .int .i64 0, .int .u64 ((CSet.between n n).a.toNat : Int), .int .u64 ((CSet.between n n).b.toNat : Int), .int .u64 ((CSet.between n n).c.toNat : Int), .int .u64 ((CSet.between n n).d.toNat : Int), .bool (false), .int .i64 ((p : Nat)), .int .i64 0, .int .i64 0]) (t := 56) hb1
    clear hb1
    go_wp2_with fail
    refine (unhide HIS _).mono ?_
    rintro x w2 ⟨rfl, rfl⟩
    go_wp2_with fail
    refine (unhide HS2 _).mono ?_
    rintro x w2 ⟨hb2, rfl⟩
    have hr2 : Blk (w2.alloc (.cells #[.int .i64 0, .int .u64 0, .int .u64 0, .int .u64 0, .int .u64 0, .slice none 0 0, .int .i64 0, .int .i64 0, .int .u64 ((T).a.toNat : Int), .int .u64 ((T).b.toNat : Int), .int .u64 ((T).c.toNat : Int), .int .u64 ((T).d.toNat : Int), .bool (more), .int .i64 ((q : Nat)), .int .i64 0, .int .i64 0] 56)) w.heap.size #[.int .i64 0, .int .u64 0, .int .u64 0, .int .u64 0, .int .u64 0, .slice none 0 0, .int .i64 0, .int .i64 0, .int .u64 0, .int .u64 0, .int .u64 0, .int .u64 0, .bool false, .int .i64 (0), .int .i64 (0), .int .i64 (0)] 56 ∧ Below w.heap.size w (w2.alloc (.cells #[.int .i64 0, .int .u64 0, .int .u64 0, .int .u64 0, .int .u64 0, .slice none 0 0, .int .i64 0, .int .i64 0, .int .u64 ((T).a.toNat : Int), .int .u64 ((T).b.toNat : Int), .int .u64 ((T).c.toNat : Int), .int .u64 ((T).d.toNat : Int), .bool (more), .int .i64 ((q : Nat)), .int .i64 0, .int .i64 0] 56)) := ⟨(hbx.1.1.call hb2).alloc _, (hbx.1.2.trans (hb2.mono hbx.1.2.size)).alloc (by have := hbx.1.2.size; have := hb2.size; omega) _⟩
    have hB1 := (hbx.2.1.call hb2).alloc (.cells #[.int .i64 0, .int .u64 0, .int .u64 0, .int .u64 0, .int .u64 0, .slice none 0 0, .int .i64 0, .int .i64 0, .int .u64 ((T).a.toNat : Int), .int .u64 ((T).b.toNat : Int), .int .u64 ((T).c.toNat : Int), .int .u64 ((T).d.toNat : Int), .bool (more), .int .i64 ((q : Nat)), .int .i64 0, .int .i64 0] 56)
    have hB2 := Blk.new w2 #[.int .i64 0, .int .u64 0, .int .u64 0, .int .u64 0, .int .u64 0, .slice none 0 0, .int .i64 0, .int .i64 0, .int .u64 ((T).a.toNat : Int), .int .u64 ((T).b.toNat : Int), .int .u64 ((T).c.toNat : Int), .int .u64 ((T).d.toNat : Int), .bool (more), .int .i64 ((q : Nat)), .int .i64 0, .int .i64 0] 56
    clear hb2 hbx
    go_wp2_with fail
    generalize w2.alloc (.cells #[.int .i64 0, .int .u64 0, .int .u64 0, .int .u64 0, .int .u64 0, .slice none 0 0, .int .i64 0, .int .i64 0, .int .u64 ((T).a.toNat : Int), .int .u64 ((T).b.toNat : Int), .int .u64 ((T).c.toNat : Int), .int .u64 ((T).d.toNat : Int), .bool (more), .int .i64 ((q : Nat)), .int .i64 0, .int .i64 0] 56) = W at *
    (have x0 : ∀ d os, (grow (redrawn W d) os).cell? ⟨w1.heap.size, 8, none⟩ = some (.int .u64 ((CSet.between n n).a.toNat : Int)) := fun d os => cell_regrown (hB1.cell 8) d os; have x1 : ∀ d os, (grow (redrawn W d) os).cell? ⟨w1.heap.size, 9, none⟩ = some (.int .u64 ((CSet.between n n).b.toNat : Int)) := fun d os => cell_regrown (hB1.cell 9) d os; have x2 : ∀ d os, (grow (redrawn W d) os).cell? ⟨w1.heap.size, 10, none⟩ = some (.int .u64 ((CSet.between n n).c.toNat : Int)) := fun d os => cell_regrown (hB1.cell 10) d os; have x3 : ∀ d os, (grow (redrawn W d) os).cell? ⟨w1.heap.size, 11, none⟩ = some (.int .u64 ((CSet.between n n).d.toNat : Int)) := fun d os => cell_regrown (hB1.cell 11) d os)
    (have y0 : ∀ d os, (grow (redrawn W d) os).cell? ⟨w2.heap.size, 8, none⟩ = some (.int .u64 ((T).a.toNat : Int)) := fun d os => cell_regrown (hB2.cell 8) d os; have y1 : ∀ d os, (grow (redrawn W d) os).cell? ⟨w2.heap.size, 9, none⟩ = some (.int .u64 ((T).b.toNat : Int)) := fun d os => cell_regrown (hB2.cell 9) d os; have y2 : ∀ d os, (grow (redrawn W d) os).cell? ⟨w2.heap.size, 10, none⟩ = some (.int .u64 ((T).c.toNat : Int)) := fun d os => cell_regrown (hB2.cell 10) d os; have y3 : ∀ d os, (grow (redrawn W d) os).cell? ⟨w2.heap.size, 11, none⟩ = some (.int .u64 ((T).d.toNat : Int)) := fun d os => cell_regrown (hB2.cell 11) d os)
    have HF1 := hide (fun d os => unhide HFN d os W)
    have HF2 := hide (fun d os => retG_q (unhide HF T (grow (redrawn W d) os)))
    have HR2 := hid_mk hr2
    have HB1 := hid_mk hB1
    have HB2 := hid_mk hB2
    clear hr2 hB1 hB2
    (refine wp_region_quiet_below (by kernel_rfl) (by kernel_rfl) ?_; (repeat (quiet_step ((first | (go_at_call 86; with_reducible exact unhide HF1 _ _) | (go_at_call 86; with_reducible exact unhide HF2 _ _))))); refine wpQuiet_nil ?_; intro _ hw'; obtain ⟨⟨nq, osq⟩, hw''⟩ := hw'; subst hw'')
    have hbq := below_regrown W nq osq
    have hr3 := And.intro (HR2.out.1.call hbq) (HR2.out.2.trans (hbq.mono HR2.out.2.size))
    have hB13 := HB1.out.call hbq
    have hB23 := HB2.out.call hbq
    clear x0 x1 x2 x3 y0 y1 y2 y3 hbq
    generalize grow (redrawn W nq) osq = V at *
    have k13 : V.cell? ⟨w1.heap.size, 13, none⟩ = some (.int .i64 (p : Nat)) := hB13.cell 13
    have l12 : V.cell? ⟨w2.heap.size, 12, none⟩ = some (.bool more) := hB23.cell 12
    have l13 : V.cell? ⟨w2.heap.size, 13, none⟩ = some (.int .i64 (q : Nat)) := hB23.cell 13
    have hbase : w.heap.size ≤ V.heap.size := hr3.2.size
    have HBAD := hide (fun e p w => rbad_any e p w)
    by_cases hm : more = true
    · subst hm
      have HE : Hid (R = .bad 2 (p + 1)) := hid_mk (by rw [HI.out]; exact if_pos (Or.inl rfl))
      clear hmore
      go_wp2_with fail
      refine (unhide HBAD _ _ _).mono ?_
      rintro x w5 ⟨rfl, hb5⟩
      have hr5 := And.intro (hr3.1.call hb5) (hr3.2.trans (hb5.mono hbase))
      (go_wp2_with (refine store_row 56 rfl _ _ rfl w.heap.size _ _ 56 hr5.1 rfl rfl (by kernel_rfl) rfl rfl ?_); refine ret_row rfl w.heap.size _ _ hr5.1.row rfl _ Tryd.underlying56 rfl ?_ rfl ?_; (kernel_rfl); (exact ⟨below_row hr5.2 (Nat.le_refl _) _, (by rw [HE.out]; exact ⟨by decide, rfl⟩)⟩))
    · obtain ⟨m, hm2, rfl⟩ : ∃ m, m < 256 ∧ T = CSet.between m m := by rcases hmore with h | h; exact absurd h hm; exact h
      obtain rfl : more = false := by cases more; rfl; exact absurd rfl hm
      rw [first_one hm2] at HI ⊢
      by_cases hmn : m < n
      · have HE : Hid (R = .bad 2 (p + 1)) := hid_mk (by rw [HI.out]; exact if_pos (Or.inr (by omega)))
        have e1 : decide (m < n) = true := by simpa using hmn
        clear hmn hmore
        go_wp2_with fail
        refine (unhide HBAD _ _ _).mono ?_
        rintro x w5 ⟨rfl, hb5⟩
        have hr5 := And.intro (hr3.1.call hb5) (hr3.2.trans (hb5.mono hbase))
        (go_wp2_with (refine store_row 56 rfl _ _ rfl w.heap.size _ _ 56 hr5.1 rfl rfl (by kernel_rfl) rfl rfl ?_); refine ret_row rfl w.heap.size _ _ hr5.1.row rfl _ Tryd.underlying56 rfl ?_ rfl ?_; (kernel_rfl); (exact ⟨below_row hr5.2 (Nat.le_refl _) _, (by rw [HE.out]; exact ⟨by decide, rfl⟩)⟩))
      · have HE : Hid (R = .ok (CSet.between n m) q) := hid_mk (by rw [HI.out]; exact (if_neg (fun h => hmn (by rcases h with h | h; cases h; omega))).trans (by simp))
        have e1 : decide (m < n) = false := by simpa using hmn
        clear hmn hmore
        go_wp2_with fail
        have z13 : ∀ d os, (grow (redrawn V d) os).cell? ⟨w2.heap.size, 13, none⟩ = some (.int .i64 (q : Nat)) := fun d os => cell_regrown l13 d os
        have HBT := hide (fun d os => retG_q (rbetween_any n m hn hm2 (grow (redrawn V d) os)))
        have HR3 := hid_mk hr3
        (refine region_below_tail 6 (by kernel_rfl) (by kernel_rfl) ?_; simp only [List.take_succ_cons, List.take_zero, List.drop_succ_cons, List.drop_zero]; (repeat (quiet_step ( ((go_at_call 66; with_reducible exact unhide HBT _ _))))); refine wpQuiet_nil ?_; intro _ hw'; obtain ⟨⟨nq, osq⟩, hw''⟩ := hw'; subst hw'')
        have hbq2 := below_regrown V nq osq
        have hr5 := And.intro (HR3.out.1.call hbq2) (HR3.out.2.trans (hbq2.mono hbase))
        clear z13 hbq2 hr3
        generalize grow (redrawn V nq) osq = U at *
        (go_wp2_with (refine store_row 56 rfl _ _ rfl w.heap.size _ _ 56 hr5.1 rfl rfl (by kernel_rfl) rfl rfl ?_); refine ret_row rfl w.heap.size _ _ hr5.1.row rfl _ Tryd.underlying56 rfl ?_ rfl ?_; (kernel_rfl); (exact ⟨below_row hr5.2 (Nat.le_refl _) _, (by rw [HE.out]; exact ⟨false, rfl⟩)⟩))
theorem ritem_any (s : ByteArray) (i : Nat) (w : World) (hs : s.size ≤ 1000) (hi : i ≤ 1400) : Calls Tryd.prog 77 #[.string s, .int .i64 i] w (RetPI (Rx.item s.data.toList i) w) := by
  cases hr : Rx.sign s.data.toList i with
  | out => have hfi := fine_sign s.data.toList i; rw [hr] at hfi; exact hfi.elim
  | bad e p => exact ritem_bad s i w hs hi e p hr
  | ok a p =>
    obtain ⟨S, many⟩ := a
    by_cases hc : many = true ∨ Rx.pk s.data.toList p ≠ 45
    · exact ritem_one s i w hs hi S many p hr hc
    · have h1 : many = false := by cases many; rfl; exact absurd (Or.inl rfl) hc
      subst h1
      exact ritem_two s i w hs hi S p hr (Classical.byContradiction fun h => hc (Or.inr h))
end Go.Proofs.YthgcefppeaopkaaDoor
