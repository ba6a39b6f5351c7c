/- The reference's Word. -/
import Derived.Test.YtgcgilcalmefgaaNameW3
import Derived.WalkSpells
namespace Go.Proofs.Ytgcgilcalmefgaa.Nm
open Go Go.RowKit Go.WideShapes
set_option maxRecDepth 100000
set_option linter.unusedSimpArgs false
set_option linter.unusedVariables false
set_option maxHeartbeats 1000000
theorem wsignB_no {c : Int} (h : wsignB c false = false) : (c < 97 ∨ 122 < c) ∧ (c < 48 ∨ 57 < c) ∧ c ≠ 45 := by
  have h1 : ¬ wsignB c false = true := by simp [h]
  refine ⟨?_, ?_, ?_⟩
  · rcases Classical.em (c < 97 ∨ 122 < c) with h2 | h2
    · exact h2
    · exact absurd (by simp [wsignB]; omega) h1
  · rcases Classical.em (c < 48 ∨ 57 < c) with h2 | h2
    · exact h2
    · exact absurd (by simp [wsignB, digitB]; omega) h1
  · intro e; subst e; exact absurd (by simp [wsignB]) h1
theorem rword_any (s : ByteArray) (w : World) (hs : s.size ≤ maxLen) : Calls Try.prog 40 #[.string s] w (Ret (.bool (wordB s.data.toList)) w) := by
  unfold maxLen at hs
  by_cases h0 : 1 ≤ s.size ∧ s.size ≤ 32
  · obtain ⟨h0, h1⟩ := h0
    have hlab : wordB s.data.toList = allB wsignB s.data.toList := by
      simp [wordB]; omega
    rw [hlab]
    clear hlab
    go_enter Try.func40, Try.ntmps40
    go_wp2
    go_loop [3, 4, 5] (fun v _ _ => ∃ k : Nat, k ≤ s.size ∧ v = .int .i64 k ∧ (∀ i (h : i < s.size), i < k → wsignB (s[i].toNat) (i == 0) = true)) (fun v _ _ => s.size - (intOf v).toNat)
    case atStart => exact ⟨0, Nat.zero_le _, rfl, fun i _ h => absurd h (by omega)⟩
    case round =>
      obtain ⟨k, hk, rfl, hp⟩ := hrel
      have HP := hid_mk hp
      clear hp
      by_cases hlt : k < s.size
      · by_cases hk0 : k = 0
        · subst hk0
          by_cases hg : wsignB (s[0].toNat) true = true
          · have HG := hid_mk hg
            clear hg
            go_wp2
            all_goals first
              | (exfalso; have := HG.out; simp [wsignB, digitB] at this; omega)
              | (exfalso; have := HG.out; simp [wsignB, digitB] at this; simp only [Bool.not_eq_true', decide_eq_false_iff_not, Bool.not_eq_false', decide_eq_true_eq, Bool.not_eq_true, Bool.not_eq_false] at *; omega)
              | skip
            all_goals go_round
            all_goals first
              | exact ⟨1, by omega, by go_num, more _ s 0 hlt HP.out HG.out⟩
              | (simp [intOf]; omega)
          · have HG := hid_mk hg
            clear hg
            go_wp2
            all_goals first
              | (exfalso; have := HG.out; simp [wsignB, digitB] at this; omega)
              | (exfalso; have := HG.out; simp [wsignB, digitB] at this; simp only [Bool.not_eq_true', decide_eq_false_iff_not, Bool.not_eq_false', decide_eq_true_eq, Bool.not_eq_true, Bool.not_eq_false] at *; omega)
              | skip
            all_goals go_ret
            all_goals exact ⟨by rw [fin_no wsignB s 0 hlt HP.out (by simpa using HG.out)]; rfl, rfl⟩
        · have hk1 : ((k : Int) == 0) = false := by simpa using hk0
          have HK : Hid ((k == 0) = false) := hid_mk (by simpa using hk0)
          by_cases hg : wsignB (s[k].toNat) false = true
          · have HG := hid_mk hg
            clear hg
            go_wp2
            all_goals first
              | (exfalso; have := HG.out; simp [wsignB, digitB] at this; omega)
              | (exfalso; have := HG.out; simp [wsignB, digitB] at this; simp only [Bool.not_eq_true', decide_eq_false_iff_not, Bool.not_eq_false', decide_eq_true_eq, Bool.not_eq_true, Bool.not_eq_false] at *; omega)
              | skip
            all_goals go_round
            all_goals first
              | exact ⟨k + 1, by omega, by go_num, more _ s k hlt HP.out (by rw [HK.out]; first | exact HG.out | simpa using HG.out)⟩
              | (simp [intOf]; omega)
          · have hno := wsignB_no (by simpa using hg)
            have HG := hid_mk hg
            have HN := hid_mk hno
            clear hg hno
            go_wp2
            all_goals first
              | (exfalso; have := HN.out; omega)
              | (exfalso; have := HN.out; simp only [Bool.not_eq_true', decide_eq_false_iff_not, Bool.not_eq_false', decide_eq_true_eq, Bool.not_eq_true, Bool.not_eq_false] at *; omega)
              | skip
            all_goals go_ret
            all_goals exact ⟨by rw [fin_no wsignB s k hlt HP.out (by rw [HK.out]; first | exact HG.out | simpa using HG.out)]; rfl, rfl⟩
      · go_wp2
        go_ret
        exact ⟨by rw [fin_yes wsignB s k hlt HP.out]; rfl, rfl⟩
  · have hl : wordB s.data.toList = false := by simp [wordB]; omega
    rw [hl]
    by_cases h1 : s.size < 1
    · go_enter Try.func40, Try.ntmps40
      go_wp2
      go_ret
      exact ⟨rfl, rfl⟩
    · have h2 : 32 < s.size := by omega
      have h3 : 1 ≤ s.size := by omega
      clear h0 h1
      go_enter Try.func40, Try.ntmps40
      go_wp2
      go_ret
      exact ⟨rfl, rfl⟩
end Go.Proofs.Ytgcgilcalmefgaa.Nm
