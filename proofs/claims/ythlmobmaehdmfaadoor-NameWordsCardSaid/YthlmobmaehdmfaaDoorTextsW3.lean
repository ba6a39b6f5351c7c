/- The law NameWords. -/
import Derived.Test.YthlmobmaehdmfaaDoorTextsW2
namespace Go.Proofs.YthlmobmaehdmfaaDoor.Nm
open Go Go.RowKit Go.WideShapes
set_option maxRecDepth 100000
set_option linter.unusedSimpArgs false
set_option linter.unusedVariables false
set_option maxHeartbeats 2000000
theorem map_inj {xs ys : List ByteArray} (h : xs.map (·.data.toList) = ys.map (·.data.toList)) : xs = ys := by
  induction xs generalizing ys with
  | nil => cases ys with
    | nil => rfl
    | cons => simp at h
  | cons x xs ih => cases ys with
    | nil => simp at h
    | cons y ys =>
      simp only [List.map_cons, List.cons.injEq] at h
      rw [bytes_inj h.1, ih h.2]
theorem pieces_map (s : ByteArray) : (pieces s).map (·.data.toList) = splitL s.data.toList := by
  unfold pieces
  rw [Lib.splitB_data]
  exact splitK_splitL _ _ (Nat.le_refl _)
theorem all_map (xs : List ByteArray) (ls : List (List UInt8)) (h : xs.map (·.data.toList) = ls) : (xs.all fun x => wordB x.data.toList) = ls.all wordB := by
  rw [← h, List.all_map]; rfl
/-- the library's variable holds some number -/
def MC (w : World) : Prop := ∃ m, w.cell? ⟨0, 0, none⟩ = some (.int .i64 m)
theorem MC.below {w w' : World} (h : MC w) (hb : Below w.heap.size w w') : MC w' := by
  obtain ⟨m, hm⟩ := h
  exact ⟨m, (hb.cell (p := ⟨0, 0, none⟩) (cell_lt hm)).trans hm⟩
theorem MC.drewN {w : World} (h : MC w) (n : Nat) : MC (w.drewN n) := h
theorem works_mc (w : World) (h : MC w) : Calls Tryd.prog 6 #[] w (RetG (.bool true) w) := by
  obtain ⟨m, hm⟩ := h
  exact works_any m w hm (cell_lt hm)
def RetW (b : Bool) (Q : List ByteArray) (w : World) (e : Ending) (w' : World) : Prop := ∃ A c, e = .returned (.tuple #[.slice A Q.length c, .bool b]) ∧ Txts w' A Q ∧ Q.length ≤ c ∧ Below w.heap.size w w'
def wordsOf (s : ByteArray) : List ByteArray := if (splitL s.data.toList).all wordB then pieces s else []
theorem words_mc (s : ByteArray) (w : World) (hs : s.size < 4294967281) (h : MC w) : Calls Tryd.prog 14 #[.string s] w (RetW ((splitL s.data.toList).all wordB) (wordsOf s) w) := by
  obtain ⟨m, hm⟩ := h
  have ha := all_map _ _ (pieces_map s)
  refine (words_any s m w hs hm).mono fun e w' ⟨hb, hy, hn⟩ => ?_
  rw [ha] at hy hn
  unfold wordsOf
  cases hc : (splitL s.data.toList).all wordB with
  | true =>
    obtain ⟨A, he, ht⟩ := hy hc
    exact ⟨A, _, he, ht, Nat.le_refl _, hb⟩
  | false => exact ⟨none, 0, hn hc, fun hh => absurd hh (by simp), by simp, hb⟩
theorem rwords_mc (s : ByteArray) (w : World) (hs : s.size ≤ 100000) : Calls Tryd.prog 15 #[.string s] w (RetW ((splitL s.data.toList).all wordB) (wordsOf s) w) := by
  refine (rwords_any s w hs).mono fun e w' ⟨hb, hy, hn⟩ => ?_
  unfold wordsOf
  cases hc : (splitL s.data.toList).all wordB with
  | true =>
    obtain ⟨A, c, xs, he, ht, hl, hx⟩ := hy hc
    have : xs = pieces s := map_inj (hx.trans (pieces_map s).symm)
    subst this
    exact ⟨A, c, he, ht, hl, hb⟩
  | false => exact ⟨none, 0, hn hc, fun hh => absurd hh (by simp), by simp, hb⟩
theorem join_cap (A : Option Addr) (xs : List ByteArray) (c : Nat) (w : World) (ht : Txts w A xs) (hc : xs.length ≤ c) (hN : xs.length ≤ 140737488355328) (hlen : (Lib.join (xs.map (·.data.toList)) [32]).length ≤ 140737488355328) :
    Calls Tryd.prog 17 #[.slice A xs.length c] w (RetG (.string ⟨(Lib.join (xs.map (·.data.toList)) [32]).toArray⟩) w) := by
  have hcall : Calls Tryd.prog 24 #[.slice A xs.length c, .string ⟨#[32]⟩] w (RetG (.string ⟨(Lib.join (xs.map (·.data.toList)) [32]).toArray⟩) w) := by
    by_cases h0 : xs.length = 0
    · have hx : xs = [] := List.eq_nil_of_length_eq_zero h0
      subst hx
      exact (Tryd.strings_Join_none A c ⟨#[32]⟩ w).mono fun e w' ⟨he, hw⟩ => ⟨he, by subst hw; exact Below.refl _ _⟩
    · obtain ⟨b, o, rfl, hb, hcc⟩ := ht (by omega)
      exact (Tryd.strings_Join b o c xs ⟨#[32]⟩ w hcc hb hN hc hlen).mono fun e w' ⟨he, hw⟩ => ⟨he, hw⟩
  generalize (Lib.join (xs.map (·.data.toList)) [32]).toArray = r at *
  have HC := hide hcall
  clear hcall hlen ht
  go_enter Tryd.func17, Tryd.ntmps17
  go_wp2_with (go_at_call 24; refine (unhide HC).mono ?_; rintro e w' ⟨rfl, hb⟩)
  go_ret
  exact ⟨rfl, hb⟩
theorem below_drewN {B : Nat} {a w : World} (h : Below B a w) (n : Nat) : Below B a (w.drewN n) := ⟨h.os, h.tape, h.output, h.size, h.block⟩
theorem nwords_great (s : ByteArray) (A : Option Addr) (xs : List ByteArray) (c : Nat) (w : World) (hw : MC w) (ht : Txts w A xs) (hn : xs.length ≤ maxLen) (hsz : ∀ x ∈ xs, x.size ≤ maxLen) (hs : s.size ≤ maxLen)
    (h : 400 < s.size ∨ shortB xs = false) : Calls Tryd.prog 4 #[.string s, .slice A xs.length c] w (RetG (.bool true) w) := by
  by_cases h1 : 400 < s.size
  · have d1 : decide (400 < (s.size : Int)) = true := by simp; omega
    have HC := hide (works_mc w hw)
    clear h ht hsz
    go_enter Tryd.func4, Tryd.ntmps4
    go_wp2_with (go_at_call 6; refine (unhide HC).mono ?_; rintro e w1 ⟨rfl, hb⟩)
    go_ret
    exact ⟨rfl, hb⟩
  · have d1 : decide (400 < (s.size : Int)) = false := by simp; omega
    have hsh : shortB xs = false := by
      rcases h with h | h
      · exact absurd h h1
      · exact h
    have HS := hide (short_any A xs c w ht hn hsz)
    rw [hsh] at HS
    have HC := hide (works_mc w hw)
    clear h ht hsz hsh
    go_enter Tryd.func4, Tryd.ntmps4
    go_wp2_with (first | (go_at_call 13; refine (unhide HS).mono ?_; rintro e w1 ⟨rfl, rfl⟩) | (go_at_call 6; refine (unhide HC).mono ?_; rintro e w1 ⟨rfl, hb⟩))
    go_ret
    exact ⟨rfl, hb⟩
theorem word_no32 {l : List UInt8} (h : wordB l = true) : ∀ c ∈ l, c ≠ 32 := by
  simp only [wordB, Bool.and_eq_true, allB, beq_iff_eq] at h
  have : ∀ (f : Bool) (l : List UInt8), run wsignB f l = l.length → ∀ c ∈ l, c ≠ 32 := by
    intro f l
    induction l generalizing f with
    | nil => intro _ c hc; cases hc
    | cons a r ih =>
      intro hr c hc
      simp only [run] at hr
      split at hr
      · rename_i ha
        rcases List.mem_cons.1 hc with e | e
        · subst e
          intro e
          rw [e] at ha
          cases f <;> revert ha <;> decide
        · exact ih false (by simpa using hr) c e
      · simp at hr
  exact this true l h.2
/-- words, joined and cut again, are the words -/
theorem words_back {xs : List ByteArray} (h0 : 0 < xs.length) (h : (xs.all fun x => wordB x.data.toList) = true) :
    (splitL (Lib.join (xs.map (·.data.toList)) [32])) = xs.map (·.data.toList) := by
  refine splitL_join _ (by intro e; simp at e; subst e; simp at h0) (fun x hx => ?_)
  obtain ⟨y, hy, rfl⟩ := List.mem_map.1 hx
  exact word_no32 (List.all_eq_true.1 h y hy)
end Go.Proofs.YthlmobmaehdmfaaDoor.Nm
