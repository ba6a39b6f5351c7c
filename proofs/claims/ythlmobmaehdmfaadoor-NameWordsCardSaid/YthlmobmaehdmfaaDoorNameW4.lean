/- Walks for chapter 9 (names): Cut. -/
import Derived.Test.YthlmobmaehdmfaaDoorNameW3
namespace Go.Proofs.YthlmobmaehdmfaaDoor.Nm
open Go Go.RowKit
set_option maxRecDepth 100000
set_option linter.unusedSimpArgs false
set_option linter.unusedVariables false
set_option maxHeartbeats 600000
theorem cut_bad (s : ByteArray) (a : Int) (w : World) (h : a < 0 ∨ s.size < a) : Calls Tryd.prog 7 #[.string s, .int .i64 a] w (Ret (.tuple #[.string ⟨#[]⟩, .int .i64 0]) w) := by
  rcases h with h | h
  · go_enter Tryd.func7, Tryd.ntmps7
    go_wp2
    go_ret2
    exact ⟨rfl, rfl⟩
  · by_cases h0 : a < 0
    all_goals
      go_enter Tryd.func7, Tryd.ntmps7
      go_wp2
      go_ret2
      exact ⟨rfl, rfl⟩
/-- what Cut tells at a place a that is one -/
def RetCut (l : List UInt8) (a : Nat) (w : World) (e : Ending) (w' : World) : Prop :=
  ∃ r : ByteArray, e = .returned (.tuple #[.string r, .int .i64 ((a + run signB true (l.drop a) : Nat) : Int)]) ∧ r.data.toList = (l.drop a).take (run signB true (l.drop a)) ∧ Below w.heap.size w w'
theorem extract_list (s : ByteArray) (a b : Nat) : (s.extract a b).data.toList = (s.data.toList.take b).drop a := by
  simp [ByteArray.data_extract, List.take_drop]
  by_cases h : a ≤ b
  · rw [show a + (b - a) = b by omega]
  · rw [show a + (b - a) = a by omega]
    rw [List.drop_eq_nil_of_le (by simp; omega), List.drop_eq_nil_of_le (by simp; omega)]
theorem stop_at (g : Int → Bool → Bool) (s : ByteArray) (k : Nat) (hlt : k < s.size) (hp : ∀ i (h : i < s.size), i < k → g (s[i].toNat) (i == 0) = true) (hn : g (s[k].toNat) (k == 0) = false) : run g true s.data.toList = k :=
  run_eq g true _ k (by simp; omega) (fun i hi hik => by rw [at_list]; simpa using hp i _ hik) (fun _ => by rw [at_list]; simpa using hn)
theorem stop_end (g : Int → Bool → Bool) (s : ByteArray) (k : Nat) (hlt : ¬ k < s.size) (hp : ∀ i (h : i < s.size), i < k → g (s[i].toNat) (i == 0) = true) : run g true s.data.toList = s.size := by
  rw [run_all g true _ (fun i hi => by
    have h : i < s.size := by simpa using hi
    rw [at_list]
    simpa using hp i h (by omega))]
  simp
theorem fin_cut {rest r : ByteArray} {l : List UInt8} {a k : Nat} {v : Int} {w w' : World} (hr : rest.data.toList = l.drop a) (hk : run signB true rest.data.toList = k) (hv : v = ((a + k : Nat) : Int)) (h : r.data.toList = rest.data.toList.take k) (hb : Below w.heap.size w w') :
    RetCut l a w (.returned (.tuple #[.string r, .int .i64 v])) w' := by
  subst hv; subst hk
  rw [hr] at h ⊢
  exact ⟨r, rfl, h, hb⟩
theorem cut_ok (s : ByteArray) (a : Nat) (w : World) (hs : s.size ≤ maxLen) (h : a ≤ s.size) : Calls Tryd.prog 7 #[.string s, .int .i64 a] w (RetCut s.data.toList a w) := by
  unfold maxLen at hs
  go_enter Tryd.func7, Tryd.ntmps7
  go_wp2
  obtain ⟨rest, hr⟩ : ∃ r, r = s.extract a s.size := ⟨_, rfl⟩
  rw [← hr]
  have hrl : rest.data.toList = s.data.toList.drop a := by rw [hr, extract_list]; simp [List.take_of_length_le]
  have hrs : rest.size = s.size - a := by rw [hr]; simp [ByteArray.size_extract]
  have HR := hid_mk hrl
  have HS := hid_mk hrs
  have hrs1 : a + rest.size ≤ s.size := by omega
  clear hr hrl hrs
  go_loopw [7, 8] (fun _ _ wr => ∃ k : Nat, k ≤ rest.size ∧ (∀ i (h : i < rest.size), i < k → signB (rest[i].toNat) (i == 0) = true) ∧ wr = w.iter rest k) (fun _ _ wr => rest.size - wr.iterPos w.heap.size)
  case atStart => exact ⟨0, Nat.zero_le _, fun i _ h => absurd h (by omega), rfl⟩
  case round =>
    obtain ⟨k, hk, hp, rfl⟩ := hrel
    have HP := hid_mk hp
    clear hp
    by_cases hlt : k < rest.size
    · have hnx : ∀ ty, (Instr.next (.pointer (some ⟨w.heap.size, 0, none⟩)) true ty).run Tryd.prog (w.iter rest k) = _ := fun ty => run_next_any w rest k ty hlt
      obtain ⟨d1, d2⟩ := dec_of signB (fun _ _ => signB_lt) rest k hlt (k == 0)
      obtain ⟨c, hc⟩ : ∃ c : Int, c = (Utf8.decode rest k).1 := ⟨_, rfl⟩
      rw [← hc] at d1 d2 hnx
      obtain ⟨n, hn⟩ : ∃ n : Nat, n = (Utf8.decode rest k).2 := ⟨_, rfl⟩
      rw [← hn] at d2 hnx
      clear hc hn
      have D := hid_mk (And.intro d1 d2)
      clear d1 d2
      by_cases hl : letterB c = true
      · go_wp2_with (go_at_call 19; refine (letter_any _ _).mono ?_; rintro e w' ⟨rfl, rfl⟩)
        have hs : signB c (k == 0) = true := by simp [signB, hl]
        have hn := D.out.2 hs
        subst hn
        go_roundw
        case rel => exact ⟨k + 1, by omega, more _ rest k hlt HP.out (D.out.1.trans hs), rfl⟩
        case measure => simp; omega
      · have hl : letterB c = false := by simpa using hl
        by_cases hk0 : k = 0
        · subst hk0
          go_wp2_with (go_at_call 19; refine (letter_any _ _).mono ?_; rintro e w' ⟨rfl, rfl⟩)
          go_ret2
          have hs : signB c (0 == 0) = false := by simp [signB, hl]
          exact fin_cut HR.out (stop_at signB rest 0 hlt HP.out (D.out.1.trans hs)) (by simp) (by simp) (below_iter _ _ _)
        · have hk1 : ((k : Int) == 0) = false := by simpa using hk0
          by_cases hd : digitB c = true
          · go_wp2_with (first | (go_at_call 19; refine (letter_any _ _).mono ?_; rintro e w' ⟨rfl, rfl⟩) | (go_at_call 20; refine (digit_any _ _).mono ?_; rintro e w' ⟨rfl, rfl⟩))
            have hs : signB c (k == 0) = true := by simp [signB, hd, hk0]
            have hn := D.out.2 hs
            subst hn
            go_roundw
            case rel => exact ⟨k + 1, by omega, more _ rest k hlt HP.out (D.out.1.trans hs), rfl⟩
            case measure => simp; omega
          · have hd : digitB c = false := by simpa using hd
            go_wp2_with (first | (go_at_call 19; refine (letter_any _ _).mono ?_; rintro e w' ⟨rfl, rfl⟩) | (go_at_call 20; refine (digit_any _ _).mono ?_; rintro e w' ⟨rfl, rfl⟩))
            go_ret2
            have hs : signB c (k == 0) = false := by simp [signB, hd, hl]
            exact fin_cut HR.out (stop_at signB rest k hlt HP.out (D.out.1.trans hs)) (by simp) (by simp) (below_iter _ _ _)
    · have hnx : ∀ ty, (Instr.next (.pointer (some ⟨w.heap.size, 0, none⟩)) true ty).run Tryd.prog (w.iter rest k) = _ := fun ty => run_next_end w rest k ty hlt
      go_wp2
      go_ret2
      exact fin_cut HR.out (stop_end signB rest k hlt HP.out) (by have := HS.out; omega) (by rw [List.take_of_length_le (by simp)]) (below_iter _ _ _)
theorem rlabel_any (s : ByteArray) (w : World) (hs : s.size ≤ maxLen) : Calls Tryd.prog 9 #[.string s] w (Ret (.bool (labelB s.data.toList)) w) := by
  unfold maxLen at hs
  by_cases h0 : 1 ≤ s.size ∧ s.size ≤ 32
  · obtain ⟨h0, h1⟩ := h0
    have hlab : labelB s.data.toList = allB signB s.data.toList := by
      simp [labelB]; omega
    rw [hlab]
    clear hlab
    go_enter Tryd.func9, Tryd.ntmps9
    go_wp2
    go_loop [3] (fun v => ∃ k : Nat, k ≤ s.size ∧ v = .int .i64 k ∧ (∀ i (h : i < s.size), i < k → signB (s[i].toNat) (i == 0) = true)) (fun v => s.size - (intOf v).toNat)
    case atStart => exact ⟨0, Nat.zero_le _, rfl, fun i _ h => absurd h (by omega)⟩
    case round =>
      obtain ⟨k, hk, rfl, hp⟩ := hrel
      have HP := hid_mk hp
      clear hp
      by_cases hlt : k < s.size
      · have hk1 : ((k : Int) == 0) = (k == 0) := by rw [Bool.eq_iff_iff]; simp
        by_cases hg : signB (s[k].toNat) (k == 0) = true
        · go_wp2_with (go_at_call 21; refine (rsign_any _ _ _).mono ?_; rintro e w' ⟨rfl, rfl⟩)
          go_round
          case rel => exact ⟨k + 1, by omega, by go_num, more _ s k hlt HP.out hg⟩
          case measure => simp [intOf]; omega
        · have hg : signB (s[k].toNat) (k == 0) = false := by simpa using hg
          go_wp2_with (go_at_call 21; refine (rsign_any _ _ _).mono ?_; rintro e w' ⟨rfl, rfl⟩)
          go_ret
          exact ⟨by rw [fin_no signB s k hlt HP.out hg]; rfl, rfl⟩
      · go_wp2
        go_ret
        exact ⟨by rw [fin_yes signB s k hlt HP.out]; rfl, rfl⟩
  · have hl : labelB s.data.toList = false := by simp [labelB]; omega
    rw [hl]
    by_cases h1 : s.size < 1
    · go_enter Tryd.func9, Tryd.ntmps9
      go_wp2
      go_ret
      exact ⟨rfl, rfl⟩
    · have h2 : 32 < s.size := by omega
      have h3 : 1 ≤ s.size := by omega
      clear h0 h1
      go_enter Tryd.func9, Tryd.ntmps9
      go_wp2
      go_ret
      exact ⟨rfl, rfl⟩
theorem at_drop (s : ByteArray) (a i : Nat) (h : i < (s.data.toList.drop a).length) : (s.data.toList.drop a)[i] = s[a + i]'(by simp at h; omega) := by
  rw [List.getElem_drop]; rfl
theorem signs_any (s : ByteArray) (a : Nat) (w : World) (hs : s.size ≤ maxLen) (ha : a ≤ s.size) : Calls Tryd.prog 12 #[.string s, .int .i64 a] w (Ret (.int .i64 (run signB true (s.data.toList.drop a))) w) := by
  unfold maxLen at hs
  go_enter Tryd.func12, Tryd.ntmps12
  go_wp2
  go_loop [5] (fun v => ∃ k : Nat, a + k ≤ s.size ∧ v = .int .i64 k ∧ (∀ i (h : a + i < s.size), i < k → signB (s[a + i].toNat) (i == 0) = true)) (fun v => s.size - (intOf v).toNat)
  case atStart => exact ⟨0, ha, rfl, fun i _ h => absurd h (by omega)⟩
  case round =>
    obtain ⟨k, hk, rfl, hp⟩ := hrel
    have HP := hid_mk hp
    clear hp
    have hk1 : ((k : Int) == 0) = (k == 0) := by rw [Bool.eq_iff_iff]; simp
    by_cases hlt : a + k < s.size
    · have hd1 : decide ((a : Int) + (k : Int) < (s.size : Int)) = true := by simp; omega
      by_cases hg : signB (s[a + k].toNat) (k == 0) = true
      · go_wp2_with (go_at_call 21; refine (rsign_any _ _ _).mono ?_; rintro e w' ⟨rfl, rfl⟩)
        go_round
        case rel =>
          refine ⟨k + 1, by omega, by go_num, fun i h hi => ?_⟩
          by_cases e : i = k
          · subst e; exact hg
          · exact HP.out i h (by omega)
        case measure => simp [intOf]; omega
      · have hg : signB (s[a + k].toNat) (k == 0) = false := by simpa using hg
        go_wp2_with (go_at_call 21; refine (rsign_any _ _ _).mono ?_; rintro e w' ⟨rfl, rfl⟩)
        go_ret
        have hr := run_eq signB true (s.data.toList.drop a) k (by simp; omega) (fun i hi hik => by rw [at_drop]; simpa using HP.out i (by simp at hi; omega) hik) (fun _ => by rw [at_drop]; simpa using hg)
        exact ret_int (by rw [hr])
    · go_wp2
      go_ret
      have hr := run_eq signB true (s.data.toList.drop a) k (by simp; omega) (fun i hi hik => by rw [at_drop]; simpa using HP.out i (by simp at hi; omega) hik) (fun h => absurd h (by simp; omega))
      exact ret_int (by rw [hr])
end Go.Proofs.YthlmobmaehdmfaaDoor.Nm
