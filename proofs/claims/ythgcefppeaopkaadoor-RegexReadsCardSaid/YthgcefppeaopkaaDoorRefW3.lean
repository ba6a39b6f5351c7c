/- Walks over the reference's pattern reader: hexadecimal escapes; every escape; signs. -/
import Derived.Test.YthgcefppeaopkaaDoorRefW2
namespace Go.Proofs.YthgcefppeaopkaaDoor
open Go Go.RowKit Go.Sort
set_option maxRecDepth 100000
set_option linter.unusedSimpArgs false
set_option linter.unusedVariables false
set_option maxHeartbeats 1000000
/-- the number of j digits -/
def hxn (l : List UInt8) (i : Nat) : Nat → Int
  | 0 => 0
  | j + 1 => 16 * hxn l i j + Rx.hexv (Rx.pk l (i + 2 + j))
/-- j digits stand there -/
def HxOk (l : List UInt8) (i j : Nat) : Prop := ∀ m, m < j → i + 2 + m < l.length ∧ 0 ≤ Rx.hexv (Rx.pk l (i + 2 + m))
theorem pk_some {l : List UInt8} {i : Nat} (h : i < l.length) : Rx.pk l i ≠ -1 := by
  unfold Rx.pk
  rw [List.getElem?_eq_getElem h]
  dsimp only
  omega
theorem pk_none {l : List UInt8} {i : Nat} (h : l.length ≤ i) : Rx.pk l i = -1 := by
  unfold Rx.pk
  rw [List.getElem?_eq_none h]
theorem hexv_le (b : Int) : -1 ≤ Rx.hexv b ∧ Rx.hexv b ≤ 15 := by
  unfold Rx.hexv
  split
  · omega
  · split <;> omega
theorem esc_x {l : List UInt8} {i : Nat} (h : Rx.pk l (i + 1) = 120) : Rx.esc l i =
    if Rx.pk l (i + 2) = -1 then .bad 1 l.length
    else if Rx.hexv (Rx.pk l (i + 2)) < 0 then .bad 2 i
    else if Rx.pk l (i + 3) = -1 then .bad 1 l.length
    else if Rx.hexv (Rx.pk l (i + 3)) < 0 then .bad 2 i
    else .ok (Rx.one (16 * Rx.hexv (Rx.pk l (i + 2)) + Rx.hexv (Rx.pk l (i + 3))), false) (i + 4) := by
  unfold Rx.esc
  rw [if_neg (by rw [h]; decide), if_neg (by rw [h]; decide), if_neg (by rw [h]; decide), if_pos h]
theorem esc_x_end {l : List UInt8} {i j : Nat} (h : Rx.pk l (i + 1) = 120) (hj : j < 2) (ho : HxOk l i j) (he : l.length ≤ i + 2 + j) : Rx.esc l i = .bad 1 l.length := by
  rw [esc_x h]
  have hj2 : j = 0 ∨ j = 1 := by omega
  rcases hj2 with rfl | rfl
  · rw [if_pos (pk_none he)]
  · have h0 := ho 0 (by omega)
    rw [if_neg (pk_some h0.1), if_neg (by have := h0.2; simpa using this), if_pos (pk_none he)]
theorem esc_x_bad {l : List UInt8} {i j : Nat} (h : Rx.pk l (i + 1) = 120) (hj : j < 2) (ho : HxOk l i j) (he : i + 2 + j < l.length) (hn : Rx.hexv (Rx.pk l (i + 2 + j)) < 0) : Rx.esc l i = .bad 2 i := by
  rw [esc_x h]
  have hj2 : j = 0 ∨ j = 1 := by omega
  rcases hj2 with rfl | rfl
  · rw [if_neg (pk_some he), if_pos hn]
  · have h0 := ho 0 (by omega)
    rw [if_neg (pk_some h0.1), if_neg (by have := h0.2; simpa using this), if_neg (pk_some he), if_pos hn]
theorem esc_x_ok {l : List UInt8} {i : Nat} (h : Rx.pk l (i + 1) = 120) (ho : HxOk l i 2) : Rx.esc l i = .ok (Rx.one (hxn l i 2), false) (i + 4) := by
  rw [esc_x h]
  have h0 := ho 0 (by omega)
  have h1 := ho 1 (by omega)
  rw [if_neg (pk_some h0.1), if_neg (by have := h0.2; simpa using this), if_neg (pk_some h1.1), if_neg (by have := h1.2; simpa using this)]
  simp [hxn]
theorem HxOk.next {l : List UInt8} {i j : Nat} (ho : HxOk l i j) (he : i + 2 + j < l.length) (hn : ¬ Rx.hexv (Rx.pk l (i + 2 + j)) < 0) : HxOk l i (j + 1) := fun m hm => by
  by_cases e : m = j
  · subst e; exact ⟨he, by omega⟩
  · exact ho m (by omega)
theorem hx_bd {l : List UInt8} {i : Nat} : ∀ {j : Nat}, j ≤ 2 → HxOk l i j → 0 ≤ hxn l i j ∧ hxn l i j ≤ 255
  | 0, _, _ => by simp [hxn]
  | 1, _, ho => by
    have := ho 0 (by omega); have h2 := hexv_le (Rx.pk l (i + 2 + 0))
    simp only [hxn]; omega
  | 2, _, ho => by
    have := ho 0 (by omega); have h2 := hexv_le (Rx.pk l (i + 2 + 0)); have h3 := ho 1 (by omega); have h4 := hexv_le (Rx.pk l (i + 2 + 1))
    simp only [hxn]; omega
theorem resc_x (s : ByteArray) (i : Nat) (w : World) (hs : s.size ≤ 1000) (h : i + 1 < s.size) (hc : Rx.pk s.data.toList (i + 1) = 120) : Calls Tryd.prog 68 #[.string s, .int .i64 i] w (RetPS (Rx.esc s.data.toList i) w) := by
  have hx0 : ∃ x, s[i + 1]'h = x := ⟨_, rfl⟩
  obtain ⟨x, hx0⟩ := hx0
  have hp : Rx.pk s.data.toList (i + 1) = (x.toNat : Int) := by rw [pk_lt h, hx0]
  have hc2 : x.toNat = 120 := by rw [hc] at hp; omega
  have e1 : ((x.toNat : Int) == 100) = false := by rw [hc2]; rfl
  have e2 : ((x.toNat : Int) == 119) = false := by rw [hc2]; rfl
  have e3 : ((x.toNat : Int) == 120) = true := by rw [hc2]; rfl
  have HC := hid_mk hc
  have HB := hide (fun e p w => rbad_any e p w)
  obtain ⟨R, hR⟩ : ∃ R, R = Rx.esc s.data.toList i := ⟨_, rfl⟩
  rw [← hR]
  have HR := hid_mk hR
  clear hp hc2 hc hR
  go_enter Tryd.func68, Tryd.ntmps68
  go_wp2
  go_loop [6, 7] (fun n v => ∃ j : Nat, j ≤ 2 ∧ v = .int .i64 ((i : Int) + 2 + j) ∧ n = .int .i64 (hxn s.data.toList i j) ∧ Hid (HxOk s.data.toList i j)) (fun _ v => ((i : Int) + 4 - intOf v).toNat)
  case atStart => exact ⟨0, by omega, by simp, rfl, hid_mk (fun m hm => by omega)⟩
  case round =>
    obtain ⟨j, hj, rfl, rfl, HO⟩ := hrel
    have hbd := hx_bd hj HO.out
    obtain ⟨n, hn⟩ : ∃ n, n = hxn s.data.toList i j := ⟨_, rfl⟩
    rw [← hn] at hbd ⊢
    have HN := hid_mk hn
    clear hn
    by_cases hj2 : j < 2
    · by_cases hq : i + 2 + j < s.size
      · have hy0 : ∃ y, s[i + 2 + j]'hq = y := ⟨_, rfl⟩
        obtain ⟨y, hy0⟩ := hy0
        have hyp : Rx.pk s.data.toList (i + 2 + j) = (y.toNat : Int) := by rw [pk_lt hq, hy0]
        have hyl := y.toNat_lt
        have hh := hexv_le (y.toNat : Int)
        have HH := hide (fun w => rhex_any y.toNat w hyl)
        have HY := hid_mk hyp
        clear hyp
        obtain ⟨k, hk⟩ : ∃ k, k = Rx.hexv (y.toNat : Int) := ⟨_, rfl⟩
        rw [← hk] at hh HH
        have HK := hid_mk hk
        clear hk
        by_cases hneg : k < 0
        · have HE := hid_mk (HR.out.trans (esc_x_bad HC.out hj2 HO.out (by simpa using hq) (by rw [HY.out, ← HK.out]; exact hneg)))
          rw [HE.out]
          clear HE HR
          go_wp2_with fail
          refine (unhide HH _).mono ?_
          rintro e w0 ⟨rfl, rfl⟩
          go_wp2_with fail
          refine (unhide HB _ _ _).mono ?_
          rintro e w1 ⟨rfl, hb1⟩
          have hr := res_after hb1
          (go_wp2_with (refine store_row 56 rfl _ _ rfl w.heap.size _ _ 56 hr.1 rfl rfl (by kernel_rfl) rfl rfl ?_); refine ret_row rfl w.heap.size _ _ hr.1.row rfl _ Tryd.underlying56 rfl ?_ rfl ?_; (kernel_rfl); (exact ⟨below_row hr.2 (Nat.le_refl _) _, (by first | rfl | exact ⟨by decide, rfl⟩)⟩))
        · go_wp2_with fail
          refine (unhide HH _).mono ?_
          rintro e w0 ⟨rfl, rfl⟩
          go_wp2_with fail
          refine (unhide HH _).mono ?_
          rintro e w0 ⟨rfl, rfl⟩
          go_wp2
          go_round
          case rel => exact ⟨j + 1, by omega, by go_num, by rw [show hxn s.data.toList i (j + 1) = 16 * n + k by rw [HN.out, HK.out, ← HY.out]; rfl], hid_mk (HO.out.next (by simpa using hq) (by rw [HY.out, ← HK.out]; omega))⟩
          case measure => simp [intOf]; omega
      · have HE := hid_mk (HR.out.trans (esc_x_end HC.out hj2 HO.out (by simp; omega)))
        rw [len_data] at HE
        rw [HE.out]
        clear HE HR
        go_wp2_with fail
        refine (unhide HB _ _ _).mono ?_
        rintro e w1 ⟨rfl, hb1⟩
        have hr := res_after hb1
        (go_wp2_with (refine store_row 56 rfl _ _ rfl w.heap.size _ _ 56 hr.1 rfl rfl (by kernel_rfl) rfl rfl ?_); refine ret_row rfl w.heap.size _ _ hr.1.row rfl _ Tryd.underlying56 rfl ?_ rfl ?_; (kernel_rfl); (exact ⟨below_row hr.2 (Nat.le_refl _) _, (by first | rfl | exact ⟨by decide, rfl⟩)⟩))
    · have hj3 : j = 2 := by omega
      subst hj3
      have HE := hid_mk (HR.out.trans (esc_x_ok HC.out HO.out))
      obtain ⟨m, hm⟩ : ∃ m : Nat, n = (m : Int) := ⟨n.toNat, by omega⟩
      have hone : Rx.one (hxn s.data.toList i 2) = CSet.between m m := by rw [← HN.out, hm]; simp [Rx.one]
      rw [hone] at HE
      subst hm
      have hm2 : m < 256 := by omega
      clear HR hone HN
      go_wp2_with fail
      refine (rbetween_any m m hm2 hm2 _).mono ?_
      rintro e w1 ⟨rfl, hb1⟩
      have hr := res_after hb1
      (go_wp2_with (refine store_row 56 rfl _ _ rfl w.heap.size _ _ 56 hr.1 rfl rfl (by kernel_rfl) rfl rfl ?_); refine ret_row rfl w.heap.size _ _ hr.1.row rfl _ Tryd.underlying56 rfl ?_ rfl ?_; (kernel_rfl); (exact ⟨below_row hr.2 (Nat.le_refl _) _, (by rw [HE.out] <;> exact rfl)⟩))
theorem resc_any (s : ByteArray) (i : Nat) (w : World) (hs : s.size ≤ 1000) (hi : i ≤ 1500) : Calls Tryd.prog 68 #[.string s, .int .i64 i] w (RetPS (Rx.esc s.data.toList i) w) := by
  by_cases h : i + 1 < s.size
  · have hp := pk_some (l := s.data.toList) (i := i + 1) (by simpa using h)
    by_cases h1 : Rx.pk s.data.toList (i + 1) = 100
    · have := resc_d s i w hs h h1
      unfold Rx.esc; rw [if_neg hp, if_pos h1]; exact this
    · by_cases h2 : Rx.pk s.data.toList (i + 1) = 119
      · have := resc_w s i w hs h h2
        unfold Rx.esc; rw [if_neg hp, if_neg h1, if_pos h2]; exact this
      · by_cases h3 : Rx.pk s.data.toList (i + 1) = 120
        · exact resc_x s i w hs h h3
        · cases h4 : Rx.plainB (Rx.pk s.data.toList (i + 1)) with
          | true =>
            have := resc_plain s i w hs h h1 h2 h3 h4
            unfold Rx.esc; rw [if_neg hp, if_neg h1, if_neg h2, if_neg h3, if_pos h4]; exact this
          | false =>
            have := resc_no s i w hs h h1 h2 h3 h4
            unfold Rx.esc; rw [if_neg hp, if_neg h1, if_neg h2, if_neg h3, if_neg (by rw [h4]; decide)]; exact this
  · exact resc_end s i w hs hi (by omega)
end Go.Proofs.YthgcefppeaopkaaDoor
