/- An argument that is a slice of texts, opened. -/
import Derived.Test.YthlmobmaehdmfaaDoorTextsW
import Derived.SliceStrings
import Derived.ProofKit
namespace Go.Proofs.YthlmobmaehdmfaaDoor.Nm
open Go Go.ChangeShapes Go.WideShapes Go.ChangeAt Go.RowKit
set_option maxRecDepth 100000
theorem cell_lt2 {W : World} {p : Addr} {v : Value} (h : W.cell? p = some v) : p.block < W.heap.size := by
  rcases Nat.lt_or_ge p.block W.heap.size with h1 | h1
  · exact h1
  · simp [World.cell?, Array.getElem?_eq_none h1] at h
theorem texts_open {H : Type} {enc : TypeId × Value → H} {P : Program} {W : World} {base : Nat} {spare : Nat → Bool} {held : Bool} {t e : TypeId} {A : Option Addr} {n c : Nat} {d : DataW H} {p : List MemPlace}
    (ht : P.underlying t = some (.slice e)) (he : P.underlying e = some .string) (hC : P.cellsOf e = 1) (h : DataW.Trod enc P W base spare held t (.slice A n c) d p) :
    ∃ xs : List ByteArray, n = xs.length ∧ Txts W A xs ∧ xs.length ≤ c ∧ xs.length ≤ maxLen ∧ ∀ x ∈ xs, x.size ≤ maxLen := by
  obtain ⟨fuel, hf⟩ := h
  rcases open_strings ht he hC hf with ⟨hcs, _⟩ | ⟨a, len, cap, ss, hcs, _, hl, hm, hz, _, hcell, hws⟩
  · simp [Value.cells] at hcs
    obtain ⟨rfl, rfl, rfl⟩ := hcs
    exact ⟨[], rfl, fun hh => absurd hh (by simp), by simp, by simp, by simp⟩
  · simp [Value.cells] at hcs
    obtain ⟨rfl, rfl, rfl⟩ := hcs
    have hlen : n ≤ ss.length := by rw [hz]; split <;> omega
    refine ⟨ss.take n, by simp; omega, fun hn => ?_, by simp; omega, by simp; unfold maxLen at *; omega, fun x hx => hws x (List.mem_of_mem_take hx)⟩
    have hn0 : 0 < n := by simp at hn; omega
    have h0 := hcell 0 (by omega)
    have hspot := World.cell?_spot h0
    obtain ⟨b, o, sp⟩ := a
    have hsp : sp = none := by simpa [Addr.add] using hspot
    subst hsp
    have hlt := cell_lt2 h0
    refine ⟨b, o, rfl, by simpa [Addr.add] using hlt, fun j x hj => ?_⟩
    have hjn : j < n := by
      have := (List.getElem?_eq_some_iff.1 hj).1
      simp at this; omega
    have h1 := hcell j (by omega)
    have e : (⟨b, o, none⟩ : Addr).add j = ⟨b, o + j, none⟩ := by unfold Addr.add; split <;> simp_all
    rw [e] at h1
    rw [h1]
    rw [List.getElem?_take_of_lt hjn] at hj
    simp [List.getD, hj]
end Go.Proofs.YthlmobmaehdmfaaDoor.Nm
