/- Walks: two texts held against each other (reference and library). -/
import Derived.Test.YtgcgilcalmefgaaChecked
import Derived.Test.YtgcgilcalmefgaaBase
import Derived.Test.YtgcgilcalmefgaaReg
import Derived.Sort.Walk0
import Derived.Deep.QuietTactic
import Derived.BigQuiet
namespace Go.Proofs.Ytgcgilcalmefgaa
open Go Go.RowKit Go.Sort
set_option maxRecDepth 100000
set_option linter.unusedSimpArgs false
set_option linter.unusedVariables false
set_option maxHeartbeats 1000000
/-- -1: less · 0: the same · 1: greater -/
def cmpL (a b : List UInt8) : Int := if Op.bytesLess a b = true then -1 else if a = b then 0 else 1
theorem toList_dat (s : ByteArray) : s.toList = s.data.toList := Lib.toList_data s
theorem cmpL_self (a : List UInt8) : cmpL a a = 0 := by
  unfold cmpL
  rw [bytesLess_eq, if_neg (by simp), if_pos rfl]
/-- the first k are the same; the next one tells -/
theorem cmpL_lt {a b : List UInt8} {k : Nat} (ha : k < a.length) (hb : k < b.length) (h : a.take k = b.take k) (hk : a[k] < b[k]) : cmpL a b = -1 := by
  unfold cmpL
  rw [bytesLess_eq]
  have e1 : a = a.take k ++ a[k] :: a.drop (k + 1) := by rw [List.getElem_cons_drop, List.take_append_drop]
  have e2 : b = a.take k ++ b[k] :: b.drop (k + 1) := by rw [h, List.getElem_cons_drop, List.take_append_drop]
  have : a < b := by
    rw [e1, e2]
    exact List.append_left_lt (List.cons_lt_cons_iff.2 (Or.inl hk))
  rw [if_pos (by simpa using this)]
theorem cmpL_gt {a b : List UInt8} {k : Nat} (ha : k < a.length) (hb : k < b.length) (h : a.take k = b.take k) (hk : b[k] < a[k]) : cmpL a b = 1 := by
  unfold cmpL
  rw [bytesLess_eq]
  have e1 : a = a.take k ++ a[k] :: a.drop (k + 1) := by rw [List.getElem_cons_drop, List.take_append_drop]
  have e2 : b = a.take k ++ b[k] :: b.drop (k + 1) := by rw [h, List.getElem_cons_drop, List.take_append_drop]
  have hlt : b < a := by
    rw [e1, e2]
    exact List.append_left_lt (List.cons_lt_cons_iff.2 (Or.inl hk))
  have hne : a ≠ b := fun e => by subst e; exact List.lt_irrefl a hlt
  rw [if_neg (by simpa using List.le_of_lt hlt), if_neg hne]
theorem cmpL_pre {a b : List UInt8} (hl : a.length < b.length) (h : a = b.take a.length) : cmpL a b = -1 := by
  unfold cmpL
  rw [bytesLess_eq]
  have : a < b := by
    have e : b = a ++ b.drop a.length := by conv => lhs; rw [← List.take_append_drop a.length b, ← h]
    rw [e]
    have hne : b.drop a.length ≠ [] := fun e0 => by have := congrArg List.length e0; simp at this; omega
    cases hd : b.drop a.length with
    | nil => exact absurd hd hne
    | cons c r =>
      have := List.append_left_lt (l₁ := a) (show ([] : List UInt8) < c :: r from List.nil_lt_cons c r)
      simpa using this
  rw [if_pos (by simpa using this)]
theorem cmpL_post {a b : List UInt8} (hl : b.length < a.length) (h : b = a.take b.length) : cmpL a b = 1 := by
  unfold cmpL
  rw [bytesLess_eq]
  have hlt : b < a := by
    have h1 := cmpL_pre hl h
    unfold cmpL at h1
    rw [bytesLess_eq] at h1
    by_cases c : b < a
    · exact c
    · rw [if_neg (by simpa using c)] at h1
      split at h1 <;> omega
  have hne : a ≠ b := fun e => by subst e; exact List.lt_irrefl a hlt
  rw [if_neg (by simpa using List.le_of_lt hlt), if_neg hne]
theorem cmpL_same {a b : List UInt8} {k : Nat} (ha : k = a.length) (hb : k = b.length) (h : a.take k = b.take k) : cmpL a b = 0 := by
  have : a = b := by
    rw [ha, List.take_length, ← ha, hb, List.take_length] at h
    exact h
  rw [this]
  exact cmpL_self b
def CmpAt (s t : ByteArray) (w : World) (v : Value) (wr : World) : Prop := ∃ k : Nat, v = .int .i64 (k : Nat) ∧ k ≤ s.size ∧ k ≤ t.size ∧ s.data.toList.take k = t.data.toList.take k ∧ ∃ n, wr = w.drewN n
theorem rcmp_any (s t : ByteArray) (w : World) (hs : s.size ≤ maxLen) (ht : t.size ≤ maxLen) : Calls Try.prog 41 #[.string s, .string t] w (RetN (.int .i64 (cmpL s.data.toList t.data.toList)) w) := by
  unfold maxLen at hs ht
  have ls : s.data.toList.length = s.size := by simp
  have lt : t.data.toList.length = t.size := by simp
  have LS := hid_mk ls
  have LT := hid_mk lt
  clear ls lt
  go_enter Try.func41, Try.ntmps41
  go_wp2
  go_loopw [5] (fun v wr => CmpAt s t w v wr) (fun v _ => s.size - (intOf v).toNat)
  case atStart => exact ⟨0, rfl, Nat.zero_le _, Nat.zero_le _, rfl, 0, rfl⟩
  case round =>
    obtain ⟨k, rfl, hks, hkt, htk, n, rfl⟩ := hrel
    have HT := hid_mk htk
    clear htk
    by_cases h1 : k < s.size
    · have i1 : (k : Int) < (s.size : Int) := by omega
      by_cases h2 : k < t.size
      · have i2 : (k : Int) < (t.size : Int) := by omega
        have HL : Hid (s[k] < t[k] → cmpL s.data.toList t.data.toList = -1) := hid_mk (fun h => cmpL_lt (by rw [LS.out]; exact h1) (by rw [LT.out]; exact h2) HT.out h)
        have HG : Hid (t[k] < s[k] → cmpL s.data.toList t.data.toList = 1) := hid_mk (fun h => cmpL_gt (by rw [LS.out]; exact h1) (by rw [LT.out]; exact h2) HT.out h)
        have HE : Hid (s[k] = t[k] → s.data.toList.take (k + 1) = t.data.toList.take (k + 1)) := hid_mk (fun h => by
          rw [List.take_succ_eq_append_getElem (by rw [LS.out]; exact h1), List.take_succ_eq_append_getElem (by rw [LT.out]; exact h2), HT.out]
          congr 1
          congr 1)
        by_cases g1 : s[k].toNat < t[k].toNat
        · have HR := hid_mk (HL.out (UInt8.lt_iff_toNat_lt.2 g1))
          have d1 : decide (s[k].toNat < t[k].toNat) = true := by simpa using g1
          have d2 : decide ((s[k].toNat : Int) < (t[k].toNat : Int)) = true := by simpa using g1
          clear HL HG HE g1
          go_wp2
          go_quiet (fail)
          go_wp2
          exact bodyPost_ret (v := .int .i64 (-1)) (by simp [results, Try.results41, go_sem]) rfl ⟨by rw [HR.out], n + nq, by simp [World.drewN, Nat.add_assoc]⟩
        have d1 : decide (s[k].toNat < t[k].toNat) = false := by simpa using g1
        have d2 : decide ((s[k].toNat : Int) < (t[k].toNat : Int)) = false := by simpa using g1
        by_cases g2 : t[k].toNat < s[k].toNat
        · have HR := hid_mk (HG.out (UInt8.lt_iff_toNat_lt.2 g2))
          have d3 : decide (t[k].toNat < s[k].toNat) = true := by simpa using g2
          have d4 : decide ((t[k].toNat : Int) < (s[k].toNat : Int)) = true := by simpa using g2
          clear HL HG HE g1 g2
          go_wp2
          go_quiet (fail)
          go_wp2
          go_quiet (fail)
          go_wp2
          exact bodyPost_ret (v := .int .i64 1) (by simp [results, Try.results41, go_sem]) rfl ⟨by rw [HR.out], _, by simp only [World.drewN, Nat.add_assoc]; rfl⟩
        have d3 : decide (t[k].toNat < s[k].toNat) = false := by simpa using g2
        have d4 : decide ((t[k].toNat : Int) < (s[k].toNat : Int)) = false := by simpa using g2
        have HT2 := hid_mk (HE.out (UInt8.toNat_inj.1 (by omega)))
        clear HL HG HE g1 g2
        go_wp2
        go_quiet (fail)
        go_wp2
        go_quiet (fail)
        go_wp2
        go_roundw
        case rel => exact ⟨k + 1, by go_num, by omega, by omega, HT2.out, _, by simp only [World.drewN, Nat.add_assoc]; rfl⟩
        case measure => simp [intOf]; omega
      · obtain rfl : k = t.size := by omega
        have i2 : ¬ (t.size : Int) < (t.size : Int) := by omega
        have i3 : ¬ (s.size : Int) < (t.size : Int) := by omega
        have HR : Hid (cmpL s.data.toList t.data.toList = 1) := hid_mk (cmpL_post (by rw [LS.out, LT.out]; exact h1) (by
          have := HT.out
          rw [List.take_of_length_le (l := t.data.toList) (by rw [LT.out]; omega)] at this
          rw [LT.out]; exact this.symm))
        go_wp2
        exact bodyPost_ret (v := .int .i64 1) (by simp [results, Try.results41, go_sem]) rfl ⟨by rw [HR.out], n, rfl⟩
    · obtain rfl : k = s.size := by omega
      by_cases h2 : s.size < t.size
      · have i2 : (s.size : Int) < (t.size : Int) := by omega
        have HR : Hid (cmpL s.data.toList t.data.toList = -1) := hid_mk (cmpL_pre (by rw [LS.out, LT.out]; exact h2) (by
          have := HT.out
          rw [List.take_of_length_le (l := s.data.toList) (by rw [LS.out]; omega)] at this
          rw [LS.out]; exact this))
        go_wp2
        exact bodyPost_ret (v := .int .i64 (-1)) (by simp [results, Try.results41, go_sem]) rfl ⟨by rw [HR.out], n, rfl⟩
      · have e : s.size = t.size := by omega
        have i2 : ¬ (s.size : Int) < (t.size : Int) := by omega
        have i3 : ¬ (t.size : Int) < (s.size : Int) := by omega
        have HR : Hid (cmpL s.data.toList t.data.toList = 0) := hid_mk (cmpL_same (k := s.size) LS.out.symm (by rw [LT.out]; exact e) HT.out)
        clear e
        go_wp2
        exact bodyPost_ret (v := .int .i64 0) (by simp [results, Try.results41, go_sem]) rfl ⟨by rw [HR.out], n, rfl⟩
end Go.Proofs.Ytgcgilcalmefgaa
