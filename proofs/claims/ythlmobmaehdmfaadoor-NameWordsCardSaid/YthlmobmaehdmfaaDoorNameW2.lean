/- Walks for chapter 9 (names): the loops over a string's runes. -/
import Derived.Test.YthlmobmaehdmfaaDoorNameW
namespace Go.Proofs.YthlmobmaehdmfaaDoor.Nm
open Go Go.RowKit
set_option maxRecDepth 100000
set_option linter.unusedSimpArgs false
set_option linter.unusedVariables false
set_option maxHeartbeats 400000
theorem isEmpty_no {s : ByteArray} (h : 1 ≤ s.size) : s.toList.isEmpty = false := by
  have e : s.toList = s.data.toList := ByteArray.toList_eq s
  rw [e]
  cases hs : s.data.toList with
  | nil =>
    have h1 : s.data.toList.length = 0 := by rw [hs]; rfl
    have h2 : s.data.toList.length = s.size := by simp
    omega
  | cons => rfl
theorem isEmpty_yes {s : ByteArray} (h : s.size = 0) : s.toList.isEmpty = true := by
  have e : s.toList = s.data.toList := ByteArray.toList_eq s
  rw [e]
  cases hs : s.data.toList with
  | nil => rfl
  | cons a r =>
    have h1 : s.data.toList.length = r.length + 1 := by rw [hs]; rfl
    have h2 : s.data.toList.length = s.size := by simp
    omega
/-- a sign that holds g is a single byte: what a range over the string makes of it -/
theorem dec_of (g : Int → Bool → Bool) (hg : ∀ c f, g c f = true → 0 ≤ c ∧ c < 128) (s : ByteArray) (k : Nat) (h : k < s.size) (f : Bool) :
    g (s[k].toNat) f = g (Utf8.decode s k).1 f ∧ (g (Utf8.decode s k).1 f = true → (Utf8.decode s k).2 = 1) := by
  by_cases ha : (s[k]'h).toNat < 128
  · rw [decode_ascii s k h ha]
    exact ⟨rfl, fun _ => rfl⟩
  · have hd := decode_high s k h (by omega)
    have e1 : g (Utf8.decode s k).1 f = false := by
      cases e : g (Utf8.decode s k).1 f with
      | false => rfl
      | true => have := hg _ _ e; omega
    have e2 : g (s[k].toNat) f = false := by
      cases e : g (s[k].toNat) f with
      | false => rfl
      | true => have := hg _ _ e; omega
    exact ⟨by rw [e1, e2], fun e => by rw [e1] at e; cases e⟩
theorem at_list (s : ByteArray) (i : Nat) (h : i < s.data.toList.length) : s.data.toList[i] = s[i]'(by simpa using h) := rfl
theorem fin_no (g : Int → Bool → Bool) (s : ByteArray) (k : Nat) (hlt : k < s.size) (hp : ∀ i (h : i < s.size), i < k → g (s[i].toNat) (i == 0) = true) (hn : g (s[k].toNat) (k == 0) = false) : allB g s.data.toList = false :=
  allB_no g _ k (by simpa using hlt) (fun i hi hik => by rw [at_list]; exact hp i _ hik) (by rw [at_list]; exact hn)
theorem fin_yes (g : Int → Bool → Bool) (s : ByteArray) (k : Nat) (hlt : ¬ k < s.size) (hp : ∀ i (h : i < s.size), i < k → g (s[i].toNat) (i == 0) = true) : allB g s.data.toList = true :=
  allB_yes g _ (fun i hi => by
    have h : i < s.size := by simpa using hi
    rw [at_list]
    exact hp i h (by omega))
theorem more (g : Int → Bool → Bool) (s : ByteArray) (k : Nat) (hlt : k < s.size) (hp : ∀ i (h : i < s.size), i < k → g (s[i].toNat) (i == 0) = true) (hn : g (s[k].toNat) (k == 0) = true) :
    ∀ i (h : i < s.size), i < k + 1 → g (s[i].toNat) (i == 0) = true := fun i h hi => by
  by_cases e : i = k
  · subst e; exact hn
  · exact hp i h (by omega)
theorem below_iter (w : World) (s : ByteArray) (k : Nat) : Below w.heap.size w (w.iter s k) := (Below.refl _ _).alloc (Nat.le_refl _) _
theorem label_ok (s : ByteArray) (w : World) (h0 : 1 ≤ s.size) (h1 : s.size ≤ 32) : Calls Tryd.prog 8 #[.string s] w (RetG (.bool (labelB s.data.toList)) w) := by
  have he : s.toList.isEmpty = false := isEmpty_no h0
  have hlab : labelB s.data.toList = allB signB s.data.toList := by
    simp [labelB]; omega
  rw [hlab]
  clear hlab
  go_enter Tryd.func8, Tryd.ntmps8
  go_wp2
  go_loopw [3, 4] (fun _ _ wr => ∃ k : Nat, k ≤ s.size ∧ (∀ i (h : i < s.size), i < k → signB (s[i].toNat) (i == 0) = true) ∧ wr = w.iter s k) (fun _ _ wr => s.size - wr.iterPos w.heap.size)
  case atStart => exact ⟨0, Nat.zero_le _, fun i _ h => absurd h (by omega), rfl⟩
  case round =>
    obtain ⟨k, hk, hp, rfl⟩ := hrel
    have HP := hid_mk hp
    clear hp
    by_cases hlt : k < s.size
    · have hnx : ∀ ty, (Instr.next (.pointer (some ⟨w.heap.size, 0, none⟩)) true ty).run Tryd.prog (w.iter s k) = _ := fun ty => run_next_any w s k ty hlt
      obtain ⟨d1, d2⟩ := dec_of signB (fun _ _ => signB_lt) s k hlt (k == 0)
      obtain ⟨c, hc⟩ : ∃ c : Int, c = (Utf8.decode s k).1 := ⟨_, rfl⟩
      rw [← hc] at d1 d2 hnx
      obtain ⟨n, hn⟩ : ∃ n : Nat, n = (Utf8.decode s k).2 := ⟨_, rfl⟩
      rw [← hn] at d2 hnx
      clear hc hn
      have D := hid_mk (And.intro d1 d2)
      clear d1 d2
      by_cases hl : letterB c = true
      · go_wp2_with (go_at_call 19; refine (letter_any _ _).mono ?_; rintro e w' ⟨rfl, rfl⟩)
        have hs : signB c (k == 0) = true := by simp [signB, hl]
        have hn := D.out.2 hs
        subst hn
        go_roundw
        case rel => exact ⟨k + 1, by omega, more _ s k hlt HP.out (D.out.1.trans hs), rfl⟩
        case measure => simp; omega
      · have hl : letterB c = false := by simpa using hl
        by_cases hk0 : k = 0
        · subst hk0
          go_wp2_with (go_at_call 19; refine (letter_any _ _).mono ?_; rintro e w' ⟨rfl, rfl⟩)
          go_ret
          have hs : signB c (0 == 0) = false := by simp [signB, hl]
          exact ⟨by rw [fin_no signB s 0 hlt HP.out (D.out.1.trans hs)]; rfl, below_iter _ _ _⟩
        · have hk1 : ((k : Int) == 0) = false := by simpa using hk0
          by_cases hd : digitB c = true
          · go_wp2_with (first | (go_at_call 19; refine (letter_any _ _).mono ?_; rintro e w' ⟨rfl, rfl⟩) | (go_at_call 20; refine (digit_any _ _).mono ?_; rintro e w' ⟨rfl, rfl⟩))
            have hs : signB c (k == 0) = true := by simp [signB, hd, hk0]
            have hn := D.out.2 hs
            subst hn
            go_roundw
            case rel => exact ⟨k + 1, by omega, more _ s k hlt HP.out (D.out.1.trans hs), rfl⟩
            case measure => simp; omega
          · have hd : digitB c = false := by simpa using hd
            go_wp2_with (first | (go_at_call 19; refine (letter_any _ _).mono ?_; rintro e w' ⟨rfl, rfl⟩) | (go_at_call 20; refine (digit_any _ _).mono ?_; rintro e w' ⟨rfl, rfl⟩))
            go_ret
            have hs : signB c (k == 0) = false := by simp [signB, hd, hl]
            exact ⟨by rw [fin_no signB s k hlt HP.out (D.out.1.trans hs)]; rfl, below_iter _ _ _⟩
    · have hnx : ∀ ty, (Instr.next (.pointer (some ⟨w.heap.size, 0, none⟩)) true ty).run Tryd.prog (w.iter s k) = _ := fun ty => run_next_end w s k ty hlt
      go_wp2
      go_ret
      exact ⟨by rw [fin_yes signB s k hlt HP.out]; rfl, below_iter _ _ _⟩
theorem label_any (s : ByteArray) (w : World) (hs : s.size ≤ maxLen) : Calls Tryd.prog 8 #[.string s] w (RetG (.bool (labelB s.data.toList)) w) := by
  by_cases h0 : s.size = 0
  · have he : s.toList.isEmpty = true := isEmpty_yes h0
    have hl : labelB s.data.toList = false := by simp [labelB, h0]
    rw [hl]
    go_enter Tryd.func8, Tryd.ntmps8
    go_wp2
    go_ret
    exact ⟨rfl, Below.refl _ _⟩
  · by_cases h1 : s.size ≤ 32
    · exact label_ok s w (by omega) h1
    · have he : s.toList.isEmpty = false := isEmpty_no (by omega)
      have hl : labelB s.data.toList = false := by simp [labelB]; omega
      rw [hl]
      unfold maxLen at hs
      go_enter Tryd.func8, Tryd.ntmps8
      go_wp2
      go_ret
      exact ⟨rfl, Below.refl _ _⟩
end Go.Proofs.YthlmobmaehdmfaaDoor.Nm
