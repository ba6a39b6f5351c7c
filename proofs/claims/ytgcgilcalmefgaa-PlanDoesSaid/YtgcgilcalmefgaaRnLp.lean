/- The law RingPlays: walked. -/
import Derived.Test.YtgcgilcalmefgaaRnWk
import Derived.Test.YtgcgilcalmefgaaRnL
import Derived.BigQuiet
namespace Go.Proofs.Ytgcgilcalmefgaa
open Go Go.RowKit Go.Sort
set_option maxRecDepth 100000
set_option linter.unusedSimpArgs false
set_option linter.unusedVariables false
set_option maxHeartbeats 4000000
theorem rall_any (s : Rn.S) (es : List Rn.E) (A B : Option Addr) (c d : Nat) (G : Nat → Prop) (w : World) (hG : ∀ b, G b → b < w.heap.size) (hl : s.tens.length ≤ 1000) (hfit : Fits A s.tens.length c) (hT : TensAt G w A s.tens) (hel : es.length ≤ maxLen) (hE : EventsAt G w B es) :
    Calls Try.prog 20 #[.agg #[.slice (A) (s).tens.length (c), .int .i64 (s).serial], .slice B es.length d] w (RetSE G (Rn.all s es) w) := by
  cases hr : Rn.right s with
  | false =>
    have e : Rn.all s es = .bad 7 := by unfold Rn.all; rw [if_pos hr]
    rw [e]; exact rall_right s es A B c d G w hG hl hT hr
  | true => rw [Rn.all_right hr]; exact rall_run s es A B c d G w hG hl hfit hT hel hE hr
theorem Rn.all_len (s : Rn.S) (es : List Rn.E) : (Rn.state (Rn.all s es)).tens.length ≤ 16 := by
  cases h : Rn.right s with
  | false => unfold Rn.all; rw [if_pos h]; exact Nat.zero_le _
  | true =>
    rw [Rn.all_right h]
    cases hr : Rn.run s es with
    | bad x => exact Nat.zero_le _
    | ok t => exact (Rn.right_parts (Rn.run_right h hr)).1
section
variable {H : Type} {enc : TypeId × Value → H} {W : World} {sp : Nat → Bool} {held : Bool}
theorem open_events {fuel : Nat} {v : Value} {x : DataW H × List MemPlace} (h : DataW.trod enc Try.prog W 0 sp held fuel 39 [v] = some x) :
    ∃ (A : Option Addr) (es : List Rn.E) (cap : Nat), v = .slice A es.length cap ∧ Fits A es.length cap ∧ es.length ≤ maxLen ∧ EventsAt (fun b => b < W.heap.size) W A es :=
  rows_open (R := eventR) Try.underlying39 (show Try.prog.cellsOf 26 = 5 by kernel_rfl) (by decide) (fun fuel cs x h => by
    obtain ⟨e, h1, h2, h3⟩ := open_event h
    exact ⟨e, ⟨h1, h2, h3⟩, by rw [h1]; rfl⟩) h
end
end Go.Proofs.Ytgcgilcalmefgaa
