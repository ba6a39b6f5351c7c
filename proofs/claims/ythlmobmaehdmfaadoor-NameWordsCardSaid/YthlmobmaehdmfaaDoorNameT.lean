/- The reference's Word; the law NameTells. -/
import Derived.Test.YthlmobmaehdmfaaDoorNameW7
import Derived.WalkSpells
namespace Go.Proofs.YthlmobmaehdmfaaDoor.Nm
open Go Go.RowKit Go.WideShapes
set_option maxRecDepth 100000
set_option linter.unusedSimpArgs false
set_option linter.unusedVariables false
set_option maxHeartbeats 1000000
theorem wsignB_no {c : Int} (h : wsignB c false = false) : (c < 97 ∨ 122 < c) ∧ (c < 48 ∨ 57 < c) ∧ c ≠ 45 := by
  have h1 : ¬ wsignB c false = true := by simp [h]
  refine ⟨?_, ?_, ?_⟩
  · rcases Classical.em (c < 97 ∨ 122 < c) with h2 | h2
    · exact h2
    · exact absurd (by simp [wsignB]; omega) h1
  · rcases Classical.em (c < 48 ∨ 57 < c) with h2 | h2
    · exact h2
    · exact absurd (by simp [wsignB, digitB]; omega) h1
  · intro e; subst e; exact absurd (by simp [wsignB]) h1
theorem rword_any (s : ByteArray) (w : World) (hs : s.size ≤ maxLen) : Calls Tryd.prog 11 #[.string s] w (Ret (.bool (wordB s.data.toList)) w) := by
  unfold maxLen at hs
  by_cases h0 : 1 ≤ s.size ∧ s.size ≤ 32
  · obtain ⟨h0, h1⟩ := h0
    have hlab : wordB s.data.toList = allB wsignB s.data.toList := by
      simp [wordB]; omega
    rw [hlab]
    clear hlab
    go_enter Tryd.func11, Tryd.ntmps11
    go_wp2
    go_loop [3, 4, 5] (fun v _ _ => ∃ k : Nat, k ≤ s.size ∧ v = .int .i64 k ∧ (∀ i (h : i < s.size), i < k → wsignB (s[i].toNat) (i == 0) = true)) (fun v _ _ => s.size - (intOf v).toNat)
    case atStart => exact ⟨0, Nat.zero_le _, rfl, fun i _ h => absurd h (by omega)⟩
    case round =>
      obtain ⟨k, hk, rfl, hp⟩ := hrel
      have HP := hid_mk hp
      clear hp
      by_cases hlt : k < s.size
      · by_cases hk0 : k = 0
        · subst hk0
          by_cases hg : wsignB (s[0].toNat) true = true
          · have HG := hid_mk hg
            clear hg
            go_wp2
            all_goals first
              | (exfalso; have := HG.out; simp [wsignB, digitB] at this; omega)
              | (exfalso; have := HG.out; simp [wsignB, digitB] at this; simp only [Bool.not_eq_true', decide_eq_false_iff_not, Bool.not_eq_false', decide_eq_true_eq, Bool.not_eq_true, Bool.not_eq_false] at *; omega)
              | skip
            all_goals go_round
            all_goals first
              | exact ⟨1, by omega, by go_num, more _ s 0 hlt HP.out HG.out⟩
              | (simp [intOf]; omega)
          · have HG := hid_mk hg
            clear hg
            go_wp2
            all_goals first
              | (exfalso; have := HG.out; simp [wsignB, digitB] at this; omega)
              | (exfalso; have := HG.out; simp [wsignB, digitB] at this; simp only [Bool.not_eq_true', decide_eq_false_iff_not, Bool.not_eq_false', decide_eq_true_eq, Bool.not_eq_true, Bool.not_eq_false] at *; omega)
              | skip
            all_goals go_ret
            all_goals exact ⟨by rw [fin_no wsignB s 0 hlt HP.out (by simpa using HG.out)]; rfl, rfl⟩
        · have hk1 : ((k : Int) == 0) = false := by simpa using hk0
          have HK : Hid ((k == 0) = false) := hid_mk (by simpa using hk0)
          by_cases hg : wsignB (s[k].toNat) false = true
          · have HG := hid_mk hg
            clear hg
            go_wp2
            all_goals first
              | (exfalso; have := HG.out; simp [wsignB, digitB] at this; omega)
              | (exfalso; have := HG.out; simp [wsignB, digitB] at this; simp only [Bool.not_eq_true', decide_eq_false_iff_not, Bool.not_eq_false', decide_eq_true_eq, Bool.not_eq_true, Bool.not_eq_false] at *; omega)
              | skip
            all_goals go_round
            all_goals first
              | exact ⟨k + 1, by omega, by go_num, more _ s k hlt HP.out (by rw [HK.out]; first | exact HG.out | simpa using HG.out)⟩
              | (simp [intOf]; omega)
          · have hno := wsignB_no (by simpa using hg)
            have HG := hid_mk hg
            have HN := hid_mk hno
            clear hg hno
            go_wp2
            all_goals first
              | (exfalso; have := HN.out; omega)
              | (exfalso; have := HN.out; simp only [Bool.not_eq_true', decide_eq_false_iff_not, Bool.not_eq_false', decide_eq_true_eq, Bool.not_eq_true, Bool.not_eq_false] at *; omega)
              | skip
            all_goals go_ret
            all_goals exact ⟨by rw [fin_no wsignB s k hlt HP.out (by rw [HK.out]; first | exact HG.out | simpa using HG.out)]; rfl, rfl⟩
      · go_wp2
        go_ret
        exact ⟨by rw [fin_yes wsignB s k hlt HP.out]; rfl, rfl⟩
  · have hl : wordB s.data.toList = false := by simp [wordB]; omega
    rw [hl]
    by_cases h1 : s.size < 1
    · go_enter Tryd.func11, Tryd.ntmps11
      go_wp2
      go_ret
      exact ⟨rfl, rfl⟩
    · have h2 : 32 < s.size := by omega
      have h3 : 1 ≤ s.size := by omega
      clear h0 h1
      go_enter Tryd.func11, Tryd.ntmps11
      go_wp2
      go_ret
      exact ⟨rfl, rfl⟩
theorem tells_great (s : ByteArray) (a : Int) (m : Int) (w : World) (hm : w.cell? ⟨0, 0, none⟩ = some (.int .i64 m)) (hg : 0 < w.heap.size)
    (h : 200 < s.size) : Calls Tryd.prog 3 #[.string s, .int .i64 a] w (RetG (.bool true) w) := by
  go_enter Tryd.func3, Tryd.ntmps3
  go_wp2_with (go_at_call 6; refine (works_any m _ hm hg).mono ?_; rintro e w1 ⟨rfl, hb⟩)
  go_ret
  exact ⟨rfl, hb⟩
theorem tells_small (s : ByteArray) (a : Int) (m : Int) (w : World) (hm : w.cell? ⟨0, 0, none⟩ = some (.int .i64 m)) (hg : 0 < w.heap.size)
    (h : s.size ≤ 200) : Calls Tryd.prog 3 #[.string s, .int .i64 a] w (RetG (.bool true) w) := by
  have hN : s.size ≤ maxLen := by unfold maxLen; omega
  have L1 := fun w => label_any s w hN
  have L2 := fun w => rlabel_any s w hN
  have K1 := fun w => word_any s w hN
  have K2 := fun w => rword_any s w hN
  generalize labelB s.data.toList = b1 at *
  generalize wordB s.data.toList = b2 at *
  have HL1 := hide L1
  have HL2 := hide L2
  have HK1 := hide K1
  have HK2 := hide K2
  clear L1 L2 K1 K2
  by_cases hb : a < 0 ∨ s.size < a
  · have HC := hide (fun w => cut_bad s a w hb)
    have hor : (a < 0 ∧ decide (a < 0) = true) ∨ (0 ≤ a ∧ s.size < a ∧ decide (a < 0) = false ∧ decide ((s.size : Int) < a) = true) := by simp; omega
    clear hb
    rcases hor with ⟨ha, d0⟩ | ⟨ha0, ha, d0, d1⟩
    all_goals cases b1 <;> cases b2
    all_goals
      go_enter Tryd.func3, Tryd.ntmps3
      go_wp2_with fail
      refine (unhide HC _).mono ?_
      rintro e w1 ⟨rfl, rfl⟩
      go_wp2_with fail
      refine (unhide HL1 _).mono ?_
      rintro e w2 ⟨rfl, hb2⟩
      go_wp2_with fail
      refine (unhide HL2 _).mono ?_
      rintro e w3 ⟨rfl, rfl⟩
      go_wp2_with fail
      refine (unhide HK1 _).mono ?_
      rintro e w4 ⟨rfl, hb4⟩
      go_wp2_with fail
      refine (unhide HK2 _).mono ?_
      rintro e w5 ⟨rfl, rfl⟩
      have hb5 := bstep hb2 hb4
      have hm5 := (hb5.cell (p := ⟨0, 0, none⟩) hg).trans hm
      have hg5 := Nat.lt_of_lt_of_le hg hb5.size
      go_wp2_with (go_at_call 6; refine (works_any m _ hm5 hg5).mono ?_; rintro e w6 ⟨rfl, hb6⟩)
      go_ret
      exact ⟨rfl, bstep hb5 hb6⟩
  · obtain ⟨k, rfl⟩ : ∃ k : Nat, a = k := ⟨a.toNat, by omega⟩
    have hk : k ≤ s.size := by omega
    clear hb
    have HC := hide (fun w => cut_ok s k w hN hk)
    have HS := hide (fun w => signs_any s k w hN hk)
    have hn : k + run signB true (s.data.toList.drop k) ≤ s.size := by
      have := run_le signB true (s.data.toList.drop k)
      simp at this; omega
    have hx : ((s.data.toList.take (k + run signB true (s.data.toList.drop k))).drop k) = (s.data.toList.drop k).take (run signB true (s.data.toList.drop k)) := by
      rw [List.drop_take]; simp
    generalize hrn : run signB true (s.data.toList.drop k) = n at hn hx
    have HR := hid_mk hrn
    have HX := hid_mk hx
    clear hrn hx
    have d1 : decide ((s.size : Int) < (k : Int)) = false := by simp; omega
    cases b1 <;> cases b2
    all_goals
      go_enter Tryd.func3, Tryd.ntmps3
      go_wp2_with fail
      refine (unhide HC _).mono ?_
      rintro e w1 ⟨r, rfl, hr, hb1⟩
      rw [HR.out] at hr ⊢
      have hr' : r = s.extract k (k + n) := bytes_inj (by rw [hr, extract_list, HX.out])
      subst hr'
      clear hr
      go_wp2_with fail
      refine (unhide HL1 _).mono ?_
      rintro e w2 ⟨rfl, hb2⟩
      go_wp2_with fail
      refine (unhide HL2 _).mono ?_
      rintro e w3 ⟨rfl, rfl⟩
      go_wp2_with fail
      refine (unhide HK1 _).mono ?_
      rintro e w4 ⟨rfl, hb4⟩
      go_wp2_with fail
      refine (unhide HK2 _).mono ?_
      rintro e w5 ⟨rfl, rfl⟩
      go_wp2_with fail
      refine (unhide HS _).mono ?_
      rintro e w7 ⟨rfl, rfl⟩
      rw [HR.out]
      have hb5 := bstep (bstep hb1 hb2) hb4
      have hm5 := (hb5.cell (p := ⟨0, 0, none⟩) hg).trans hm
      have hg5 := Nat.lt_of_lt_of_le hg hb5.size
      go_wp2_with (go_at_call 6; refine (works_any m _ hm5 hg5).mono ?_; rintro e w6 ⟨rfl, hb6⟩)
      go_ret
      exact ⟨rfl, bstep hb5 hb6⟩
theorem tells_any (s : ByteArray) (a : Int) (W : World) (hsh : W.ShapedOpen Tryd.prog) : Calls Tryd.prog 3 #[.string s, .int .i64 a] W (RetG (.bool true) W) := by
  obtain ⟨m, hm⟩ := maxlen_cell W hsh
  by_cases h : 200 < s.size
  · exact tells_great s a m W hm (cell_lt hm) h
  · exact tells_small s a m W hm (cell_lt hm) (by omega)
end Go.Proofs.YthlmobmaehdmfaaDoor.Nm
