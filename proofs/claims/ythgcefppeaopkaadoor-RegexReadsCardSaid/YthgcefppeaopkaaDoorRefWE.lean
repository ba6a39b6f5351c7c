/- The reference's pieces: every text. -/
import Derived.Test.YthgcefppeaopkaaDoorRefWD
namespace Go.Proofs.YthgcefppeaopkaaDoor
open Go Go.RowKit Go.Sort
set_option maxRecDepth 100000
set_option maxHeartbeats 1000000
theorem piece_brc {l : List UInt8} {atm : Nat → Res Node} {i : Nat} {n : Node} {p : Nat} (hit : atm i = .ok n p) (hc : Rx.pk l p = 123) : Rx.piece l atm i = brcOf l n (Rx.brc l (p + 1)) := by
  unfold Rx.piece
  rw [hit]
  dsimp only
  rw [if_neg (by rw [hc]; decide), if_neg (by rw [hc]; decide), if_neg (by rw [hc]; decide), if_pos hc]
  cases Rx.brc l (p + 1) with
  | ok a q => obtain ⟨lo, hi⟩ := a; rfl
  | bad e q => rfl
  | out => rfl
theorem rpiece_any (s : ByteArray) (op : Int) (atm : Nat → Res Node) (HA : RAtomOk s op atm) (hf : ∀ i, i ≤ s.data.toList.length → Fine s.data.toList i (atm i)) (i : Nat) (w : World) (hs : s.size ≤ 1000) (hi : i ≤ s.size) :
    Calls Tryd.prog 52 #[.string s, .int .i64 i, .int .i64 op] w (RetPN (Rx.piece s.data.toList atm i) w) := by
  have hfi := hf i (by simpa using hi)
  have hfp := fine_piece s.data.toList atm i hfi
  cases hit : atm i with
  | out => rw [hit] at hfi; exact hfi.elim
  | bad e q => exact rpiece_bad s op atm HA i w hs hi e q hit
  | ok n p =>
    rw [hit] at hfi
    have hp : p ≤ s.size := by simpa using hfi.2
    by_cases h1 : Rx.pk s.data.toList p = 42
    · have e : Rx.piece s.data.toList atm i = .ok (Rx.rep n 0 (-1)) (p + 1) := by unfold Rx.piece; rw [hit]; exact if_pos h1
      rw [e]; exact rpiece_42 s op atm HA i w hs hi n p hit h1
    · by_cases h2 : Rx.pk s.data.toList p = 43
      · have e : Rx.piece s.data.toList atm i = .ok (Rx.rep n 1 (-1)) (p + 1) := by unfold Rx.piece; rw [hit]; exact (if_neg h1).trans (if_pos h2)
        rw [e]; exact rpiece_43 s op atm HA i w hs hi n p hit h2
      · by_cases h3 : Rx.pk s.data.toList p = 63
        · have e : Rx.piece s.data.toList atm i = .ok (Rx.rep n 0 1) (p + 1) := by unfold Rx.piece; rw [hit]; exact (if_neg h1).trans ((if_neg h2).trans (if_pos h3))
          rw [e]; exact rpiece_63 s op atm HA i w hs hi n p hit h3
        · by_cases h4 : Rx.pk s.data.toList p = 123
          · rw [piece_brc hit h4] at hfp ⊢
            exact rpiece_123 s op atm HA i w hs hi n p hit h4 _ rfl (fun e => by rw [e] at hfp; exact hfp)
          · have e : Rx.piece s.data.toList atm i = .ok n p := by unfold Rx.piece; rw [hit]; exact (if_neg h1).trans ((if_neg h2).trans ((if_neg h3).trans (if_neg h4)))
            rw [e]
            by_cases hlt : p < s.size
            · exact rpiece_def s op atm HA i w hs hi n p hit hlt h1 h2 h3 h4
            · exact rpiece_end s op atm HA i w hs hi n p hit (by omega) (by omega)
end Go.Proofs.YthgcefppeaopkaaDoor
