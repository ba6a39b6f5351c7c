/- Walks over slices of texts: Short, SameTexts, the reference's Join. -/
import Derived.Test.YthlmobmaehdmfaaDoorNameT
import Derived.Test.YthlmobmaehdmfaaDoorTextsP
namespace Go.Proofs.YthlmobmaehdmfaaDoor.Nm
open Go Go.RowKit Go.WideShapes
set_option maxRecDepth 100000
set_option linter.unusedSimpArgs false
set_option linter.unusedVariables false
set_option maxHeartbeats 1000000
theorem Txts.drewN {w : World} {A : Option Addr} {xs : List ByteArray} (h : Txts w A xs) (n : Nat) : Txts (w.drewN n) A xs := h
theorem short_any (A : Option Addr) (xs : List ByteArray) (c : Nat) (w : World) (ht : Txts w A xs) (hn : xs.length ≤ maxLen) (hsz : ∀ x ∈ xs, x.size ≤ maxLen) :
    Calls Tryd.prog 13 #[.slice A xs.length c, .int .i64 20, .int .i64 400] w (Ret (.bool (shortB xs)) w) := by
  unfold maxLen at hn
  by_cases h1 : 20 < xs.length
  · have hs : shortB xs = false := by simp [shortB]; omega
    rw [hs]
    clear ht hsz
    go_enter Tryd.func13, Tryd.ntmps13
    go_wp2
    go_ret
    exact ⟨rfl, rfl⟩
  · have hs : shortB xs = decide (total xs ≤ 400) := by simp [shortB]; omega
    rw [hs]
    clear hs
    have HT := hid_mk ht
    have HS := hid_mk hsz
    clear ht hsz
    go_enter Tryd.func13, Tryd.ntmps13
    go_wp2
    go_loop [7, 8] (fun l v => ∃ k : Nat, k ≤ xs.length ∧ v = .int .i64 k ∧ total (xs.take k) ≤ 400 ∧ l = .int .i64 (400 - (total (xs.take k) : Nat))) (fun _ v => xs.length - (intOf v).toNat)
    case atStart => exact ⟨0, Nat.zero_le _, rfl, by simp [total], by simp [total]⟩
    case round =>
      obtain ⟨k, hk, rfl, hl, rfl⟩ := hrel
      by_cases hlt : k < xs.length
      · obtain ⟨b, o, rfl, hbl, hc⟩ := HT.out.at_ hlt
        have hm := HS.out _ (List.getElem_mem hlt)
        have hsucc := total_take xs k hlt
        have htl := total_le xs (k + 1)
        obtain ⟨x, hx⟩ : ∃ x, x = xs[k] := ⟨_, rfl⟩
        rw [← hx] at hc hm hsucc
        obtain ⟨t, htt⟩ : ∃ t, t = total (xs.take k) := ⟨_, rfl⟩
        rw [← htt] at hl hsucc ⊢
        have HX := hid_mk (And.intro hsucc htl)
        clear hx hsucc htl htt
        unfold maxLen at hm
        by_cases hg : x.size ≤ 400 - t
        · go_wp2
          go_round
          case rel => exact ⟨k + 1, by omega, by go_num, by have := HX.out.1; omega, by have := HX.out.1; go_num⟩
          case measure => simp [intOf]; omega
        · go_wp2
          go_ret
          have : ¬ total xs ≤ 400 := by have := HX.out; omega
          exact ⟨by simp [this], rfl⟩
      · go_wp2
        go_ret
        have : total xs ≤ 400 := by rw [List.take_of_length_le (by omega)] at hl; exact hl
        exact ⟨by simp [this], rfl⟩
theorem sameTexts_any (A B : Option Addr) (xs ys : List ByteArray) (c d : Nat) (w : World) (hx : Txts w A xs) (hy : Txts w B ys) (hn : xs.length ≤ maxLen) (hm : ys.length ≤ maxLen) :
    Calls Tryd.prog 16 #[.slice A xs.length c, .slice B ys.length d] w (RetN (.bool (decide (xs = ys))) w) := by
  unfold maxLen at hn hm
  have HX := hid_mk hx
  have HY := hid_mk hy
  clear hx hy
  by_cases hl : xs.length = ys.length
  · have h1 : ((xs.length : Int) != (ys.length : Int)) = false := by simp [hl]
    have HL := hid_mk hl
    clear hl
    go_enter Tryd.func16, Tryd.ntmps16
    go_wp2
    go_loopw [5] (fun v wr => ∃ k n : Nat, k ≤ xs.length ∧ v = .int .i64 k ∧ xs.take k = ys.take k ∧ wr = w.drewN n) (fun v _ => xs.length - (intOf v).toNat)
    case atStart => exact ⟨0, 0, Nat.zero_le _, rfl, rfl, rfl⟩
    case round =>
      obtain ⟨k, n, hk, rfl, he, rfl⟩ := hrel
      have HE := hid_mk he
      clear he
      by_cases hlt : k < xs.length
      · have hlt2 : k < ys.length := by rw [← HL.out]; exact hlt
        have hi1 : (k : Int) < (xs.length : Int) := by omega
        have hi2 : (k : Int) < (ys.length : Int) := by omega
        obtain ⟨b, o, rfl, hbl, hc⟩ := HX.out.at_ hlt
        obtain ⟨b2, o2, rfl, hbl2, hc2⟩ := HY.out.at_ hlt2
        obtain ⟨x, hx⟩ : ∃ x, x = xs[k] := ⟨_, rfl⟩
        obtain ⟨y, hy⟩ : ∃ y, y = ys[k] := ⟨_, rfl⟩
        rw [← hx] at hc
        rw [← hy] at hc2
        have HXY := hid_mk (And.intro hx hy)
        clear hx hy
        by_cases hg : x = y
        · have hb : (x.toList == y.toList) = true := by simp [hg]
          have HG := hid_mk hg
          clear hg
          go_wp2
          go_quiet (fail)
          go_wp2
          go_roundw
          case rel => exact ⟨k + 1, _, by omega, by go_num, by
            rw [List.take_succ_eq_append_getElem hlt, List.take_succ_eq_append_getElem hlt2, HE.out, ← HXY.out.1, ← HXY.out.2, HG.out], rfl⟩
          case measure => simp [intOf]; omega
        · have hb : (x.toList == y.toList) = false := by
            rw [beq_eq_false_iff_ne]
            intro e
            rw [ByteArray.toList_eq, ByteArray.toList_eq] at e
            exact hg (bytes_inj e)
          have HG := hid_mk hg
          clear hg
          go_wp2
          go_quiet (fail)
          go_wp2
          go_ret
          have : ¬ xs = ys := fun e => HG.out (by rw [HXY.out.1, HXY.out.2]; simp [e])
          exact ⟨by simp [this], _, World.drewN_drewN _ _ _⟩
      · go_wp2
        go_ret
        have : xs = ys := by
          have := HE.out
          rw [List.take_of_length_le (by omega), List.take_of_length_le (by have := HL.out; omega)] at this
          exact this
        exact ⟨by simp [this], _, rfl⟩
  · have h1 : ((xs.length : Int) != (ys.length : Int)) = true := by simp; omega
    have h2 : decide (xs = ys) = false := by simp; intro e; rw [e] at hl; exact hl rfl
    rw [h2]
    clear hl h2
    go_enter Tryd.func16, Tryd.ntmps16
    go_wp2
    go_ret
    exact ⟨rfl, 0, rfl⟩
theorem rjoin_any (A : Option Addr) (xs : List ByteArray) (c : Nat) (w : World) (ht : Txts w A xs) (hn : xs.length ≤ maxLen) (hlen : ∀ k, (joinTo (xs.map (·.data.toList)) k).length ≤ 100000) :
    Calls Tryd.prog 18 #[.slice A xs.length c] w (Ret (.string ⟨(Lib.join (xs.map (·.data.toList)) [32]).toArray⟩) w) := by
  unfold maxLen at hn
  have HT := hid_mk ht
  have HL := hid_mk hlen
  clear ht hlen
  go_enter Tryd.func18, Tryd.ntmps18
  go_wp2
  go_loop [3, 4] (fun s v => ∃ (k : Nat) (r : ByteArray), k ≤ xs.length ∧ v = .int .i64 k ∧ r.data.toList = joinTo (xs.map (·.data.toList)) k ∧ s = .string r) (fun _ v => xs.length - (intOf v).toNat)
  case atStart => exact ⟨0, ⟨#[]⟩, Nat.zero_le _, rfl, by simp [joinTo, Lib.join_nil], rfl⟩
  case round =>
    obtain ⟨k, r, hk, rfl, hr, rfl⟩ := hrel
    by_cases hlt : k < xs.length
    · obtain ⟨b, o, rfl, hbl, hc⟩ := HT.out.at_ hlt
      have hsucc := joinTo_succ (xs.map (·.data.toList)) k (by simpa using hlt)
      have hl0 := HL.out k
      have hl1 := HL.out (k + 1)
      rw [List.getElem_map] at hsucc
      obtain ⟨x, hx⟩ : ∃ x, x = xs[k] := ⟨_, rfl⟩
      rw [← hx] at hc hsucc
      rw [← hr] at hsucc hl0
      have hxl : x.size ≤ 100000 := by
        rw [hsucc] at hl1
        split at hl1 <;> simp at hl1 <;> omega
      have hrl : r.size ≤ 100000 := by simpa using hl0
      have HX := hid_mk hsucc
      have HR := hid_mk hr
      clear hx hsucc hl0 hl1 hr
      by_cases hk0 : k = 0
      · subst hk0
        simp only [Nat.add_zero] at hc
        have hi : (0 : Int) < (xs.length : Int) := by omega
        go_wp2
        go_round
        case rel => exact ⟨1, _, by omega, by go_num, by rw [HX.out, if_pos rfl]; simp [Hid.out HR, joinTo, Lib.join_nil], rfl⟩
        case measure => simp [intOf]; omega
      · have hk1 : (0 : Int) < (k : Int) := by omega
        have hi : (k : Int) < (xs.length : Int) := by omega
        go_wp2
        go_round
        case rel => exact ⟨k + 1, _, by omega, by go_num, by rw [HX.out, if_neg hk0]; simp, rfl⟩
        case measure => simp [intOf]; omega
    · go_wp2
      go_ret
      have h1 : r = ⟨(Lib.join (xs.map (·.data.toList)) [32]).toArray⟩ := bytes_inj (by
        rw [hr]
        unfold joinTo
        rw [List.take_of_length_le (by simp; omega)])
      rw [← h1]
      exact ⟨rfl, rfl⟩
end Go.Proofs.YthlmobmaehdmfaaDoor.Nm
