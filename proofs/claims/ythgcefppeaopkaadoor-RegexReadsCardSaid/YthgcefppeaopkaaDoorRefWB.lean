/- The reference's braces: every text. -/
import Derived.Test.YthgcefppeaopkaaDoorRefWA
namespace Go.Proofs.YthgcefppeaopkaaDoor
open Go Go.RowKit Go.Sort
set_option maxRecDepth 100000
set_option maxHeartbeats 1000000
theorem other_ne {α : Type} (s : ByteArray) (i : Nat) : ∃ e q, (Rx.other s.data.toList i : Res α) = .bad e q ∧ e ≠ 0 := by
  refine ⟨_, _, other_eq s i, ?_⟩
  split <;> decide
theorem rbraces_any (s : ByteArray) (n : Node) (A : Option Addr) (cap i : Nat) (G : Nat → Prop) (w : World) (hG : ∀ b, G b → b < w.heap.size) (hsl : SlOk A n.kids.length cap) (hk : KidsAt G w A n.kids) (hs : s.size ≤ 1000) (hi : i + 1 ≤ s.size) :
    Calls Tryd.prog 60 #[.string s, .agg #[.int .i64 (n.kind), .int .u64 ((n.set).a.toNat : Int), .int .u64 ((n.set).b.toNat : Int), .int .u64 ((n.set).c.toNat : Int), .int .u64 ((n.set).d.toNat : Int), .slice (A) (n.kids.length) (cap), .int .i64 (n.min), .int .i64 (n.max)], .int .i64 i] w (RetPG G (brcOf s.data.toList n (Rx.brc s.data.toList (i + 1))) w) := by
  cases hr : Rx.number s.data.toList (i + 1) with
  | out => have := fine_number s.data.toList (i + 1) (by simpa using hi); rw [hr] at this; exact this.elim
  | bad e q =>
    have e1 : Rx.brc s.data.toList (i + 1) = .bad e q := by unfold Rx.brc; rw [hr]
    rw [e1]
    exact rbraces_bad s n A cap i G w hG hsl hk hs hi e q hr
  | ok m p =>
    by_cases h44 : Rx.pk s.data.toList p = 44
    · by_cases h125 : Rx.pk s.data.toList (p + 1) = 125
      · have e1 : brcOf s.data.toList n (Rx.brc s.data.toList (i + 1)) = .ok (Rx.rep n (m : Nat) (-1)) (p + 2) := by
          unfold Rx.brc; rw [hr]; dsimp only; rw [if_pos h44, if_pos h125]; exact if_pos h125
        rw [e1]
        exact rbraces_open s n A cap i G w hG hsl hk hs hi m p hr h44 h125
      · cases hr2 : Rx.number s.data.toList (p + 1) with
        | out =>
          have hp := pk_in (l := s.data.toList) (i := p) (by rw [h44]; decide)
          have := fine_number s.data.toList (p + 1) hp; rw [hr2] at this; exact this.elim
        | bad e q =>
          have e1 : Rx.brc s.data.toList (i + 1) = .bad e q := by unfold Rx.brc; rw [hr]; dsimp only; rw [if_pos h44, if_neg h125, hr2]
          rw [e1]
          exact rbraces_bad2 s n A cap i G w hG hsl hk hs hi m p hr h44 h125 e q hr2
        | ok k q =>
          by_cases hm : k = 0 ∨ k < m
          · have e1 : Rx.brc s.data.toList (i + 1) = .bad 2 (p + 1) := by unfold Rx.brc; rw [hr]; dsimp only; rw [if_pos h44, if_neg h125, hr2]; exact if_pos hm
            rw [e1]
            by_cases hk0 : k = 0
            · exact rbraces_zero2 s n A cap i G w hG hsl hk hs hi m p hr h44 h125 k q hr2 hk0
            · exact rbraces_less2 s n A cap i G w hG hsl hk hs hi m p hr h44 h125 k q hr2 hk0 (by omega)
          · have e1 : Rx.brc s.data.toList (i + 1) = .ok ((m : Int), (k : Int)) q := by unfold Rx.brc; rw [hr]; dsimp only; rw [if_pos h44, if_neg h125, hr2]; exact if_neg hm
            rw [e1]
            by_cases h5 : Rx.pk s.data.toList q = 125
            · have e2 : brcOf s.data.toList n (.ok ((m : Int), (k : Int)) q) = .ok (Rx.rep n (m : Nat) (k : Nat)) (q + 1) := if_pos h5
              rw [e2]
              exact rbraces_two s n A cap i G w hG hsl hk hs hi m p hr h44 h125 k q hr2 (by omega) (by omega) h5
            · obtain ⟨e, r, ho, he⟩ := other_ne (α := Node) s q
              have e2 : brcOf s.data.toList n (.ok ((m : Int), (k : Int)) q) = .bad e r := (if_neg h5).trans ho
              rw [e2]
              exact rbraces_other2 s n A cap i G w hG hsl hk hs hi m p hr h44 h125 k q hr2 (by omega) (by omega) h5 e r ho he
    · by_cases hm : m = 0
      · have e1 : Rx.brc s.data.toList (i + 1) = .bad 2 (i + 1) := by unfold Rx.brc; rw [hr]; dsimp only; rw [if_neg h44, if_pos hm]
        rw [e1]
        exact rbraces_zero s n A cap i G w hG hsl hk hs hi m p hr h44 hm
      · have e1 : Rx.brc s.data.toList (i + 1) = .ok ((m : Int), (m : Int)) p := by unfold Rx.brc; rw [hr]; dsimp only; rw [if_neg h44, if_neg hm]
        rw [e1]
        by_cases h5 : Rx.pk s.data.toList p = 125
        · have e2 : brcOf s.data.toList n (.ok ((m : Int), (m : Int)) p) = .ok (Rx.rep n (m : Nat) (m : Nat)) (p + 1) := if_pos h5
          rw [e2]
          exact rbraces_same s n A cap i G w hG hsl hk hs hi m p hr h44 hm h5
        · obtain ⟨e, r, ho, he⟩ := other_ne (α := Node) s p
          have e2 : brcOf s.data.toList n (.ok ((m : Int), (m : Int)) p) = .bad e r := (if_neg h5).trans ho
          rw [e2]
          exact rbraces_other s n A cap i G w hG hsl hk hs hi m p hr h44 hm h5 e r ho he
end Go.Proofs.YthgcefppeaopkaaDoor
