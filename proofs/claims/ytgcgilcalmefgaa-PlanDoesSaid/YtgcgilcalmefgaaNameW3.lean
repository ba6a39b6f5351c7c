/- Walks for chapter 9 (names): Word. -/
import Derived.Test.YtgcgilcalmefgaaNameW2
namespace Go.Proofs.Ytgcgilcalmefgaa.Nm
open Go Go.RowKit
set_option maxRecDepth 100000
set_option linter.unusedSimpArgs false
set_option linter.unusedVariables false
set_option maxHeartbeats 600000
theorem word_ok (s : ByteArray) (w : World) (h0 : 1 ≤ s.size) (h1 : s.size ≤ 32) : Calls Try.prog 42 #[.string s] w (RetG (.bool (wordB s.data.toList)) w) := by
  have he : s.toList.isEmpty = false := isEmpty_no h0
  have hlab : wordB s.data.toList = allB wsignB s.data.toList := by
    simp [wordB]; omega
  rw [hlab]
  clear hlab
  go_enter Try.func42, Try.ntmps42
  go_wp2
  go_loopw [3, 4, 5] (fun _ _ _ wr => ∃ k : Nat, k ≤ s.size ∧ (∀ i (h : i < s.size), i < k → wsignB (s[i].toNat) (i == 0) = true) ∧ wr = w.iter s k) (fun _ _ _ wr => s.size - wr.iterPos w.heap.size)
  case atStart => exact ⟨0, Nat.zero_le _, fun i _ h => absurd h (by omega), rfl⟩
  case round =>
    obtain ⟨k, hk, hp, rfl⟩ := hrel
    have HP := hid_mk hp
    clear hp
    by_cases hlt : k < s.size
    · have hnx : ∀ ty, (Instr.next (.pointer (some ⟨w.heap.size, 0, none⟩)) true ty).run Try.prog (w.iter s k) = _ := fun ty => run_next_any w s k ty hlt
      obtain ⟨d1, d2⟩ := dec_of wsignB (fun _ _ => wsignB_lt) s k hlt (k == 0)
      obtain ⟨c, hc⟩ : ∃ c : Int, c = (Utf8.decode s k).1 := ⟨_, rfl⟩
      rw [← hc] at d1 d2 hnx
      obtain ⟨n, hn⟩ : ∃ n : Nat, n = (Utf8.decode s k).2 := ⟨_, rfl⟩
      rw [← hn] at d2 hnx
      clear hc hn
      have D := hid_mk (And.intro d1 d2)
      clear d1 d2
      by_cases hl : 97 ≤ c ∧ c ≤ 122
      · obtain ⟨hl1, hl2⟩ := hl
        go_wp2
        have hs : wsignB c (k == 0) = true := by simp [wsignB, hl1, hl2]
        have hn := D.out.2 hs
        subst hn
        go_roundw
        case rel => exact ⟨k + 1, by omega, more _ s k hlt HP.out (D.out.1.trans hs), rfl⟩
        case measure => simp; omega
      · have hl : (decide (97 ≤ c) = false ∧ c < 97) ∨ (decide (97 ≤ c) = true ∧ decide (c ≤ 122) = false ∧ 97 ≤ c ∧ 122 < c) := by simp; omega
        rcases hl with ⟨hb1, hl⟩ | ⟨hb1, hb2, hl', hl⟩
        all_goals
          by_cases hk0 : k = 0
          · subst hk0
            go_wp2
            go_ret
            have hs : wsignB c (0 == 0) = false := by simp [wsignB]; omega
            exact ⟨by rw [fin_no wsignB s 0 hlt HP.out (D.out.1.trans hs)]; rfl, below_iter _ _ _⟩
          · have hk1 : ((k : Int) == 0) = false := by simpa using hk0
            have hk2 : (k == 0) = false := by simpa using hk0
            by_cases hd : digitB c = true
            · go_wp2_with (go_at_call 54; refine (digit_any _ _).mono ?_; rintro e w' ⟨rfl, rfl⟩)
              have hs : wsignB c (k == 0) = true := by simp [wsignB, hd, hk2]
              have hn := D.out.2 hs
              subst hn
              go_roundw
              case rel => exact ⟨k + 1, by omega, more _ s k hlt HP.out (D.out.1.trans hs), rfl⟩
              case measure => simp; omega
            · have hd : digitB c = false := by simpa using hd
              by_cases h45 : c = 45
              · subst h45
                go_wp2_with (go_at_call 54; refine (digit_any _ _).mono ?_; rintro e w' ⟨rfl, rfl⟩)
                have hs : wsignB 45 (k == 0) = true := by simp [wsignB, hk2]
                have hn := D.out.2 hs
                subst hn
                go_roundw
                case rel => exact ⟨k + 1, by omega, more _ s k hlt HP.out (D.out.1.trans hs), rfl⟩
                case measure => simp; omega
              · go_wp2_with (go_at_call 54; refine (digit_any _ _).mono ?_; rintro e w' ⟨rfl, rfl⟩)
                go_ret
                have hs : wsignB c (k == 0) = false := by simp [wsignB, hk2, hd, h45]; omega
                exact ⟨by rw [fin_no wsignB s k hlt HP.out (D.out.1.trans hs)]; rfl, below_iter _ _ _⟩
    · have hnx : ∀ ty, (Instr.next (.pointer (some ⟨w.heap.size, 0, none⟩)) true ty).run Try.prog (w.iter s k) = _ := fun ty => run_next_end w s k ty hlt
      go_wp2
      go_ret
      exact ⟨by rw [fin_yes wsignB s k hlt HP.out]; rfl, below_iter _ _ _⟩
theorem word_any (s : ByteArray) (w : World) (hs : s.size ≤ maxLen) : Calls Try.prog 42 #[.string s] w (RetG (.bool (wordB s.data.toList)) w) := by
  by_cases h0 : s.size = 0
  · have he : s.toList.isEmpty = true := isEmpty_yes h0
    have hl : wordB s.data.toList = false := by simp [wordB, h0]
    rw [hl]
    go_enter Try.func42, Try.ntmps42
    go_wp2
    go_ret
    exact ⟨rfl, Below.refl _ _⟩
  · by_cases h1 : s.size ≤ 32
    · exact word_ok s w (by omega) h1
    · have he : s.toList.isEmpty = false := isEmpty_no (by omega)
      have hl : wordB s.data.toList = false := by simp [wordB]; omega
      rw [hl]
      unfold maxLen at hs
      go_enter Try.func42, Try.ntmps42
      go_wp2
      go_ret
      exact ⟨rfl, Below.refl _ _⟩
end Go.Proofs.Ytgcgilcalmefgaa.Nm
