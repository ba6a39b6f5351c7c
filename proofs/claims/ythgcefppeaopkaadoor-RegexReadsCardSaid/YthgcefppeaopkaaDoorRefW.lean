/- Walks over the reference's pattern reader: small things. -/
import Derived.Test.YthgcefppeaopkaaDoorReadWG
import Derived.Test.YthgcefppeaopkaaDoorSetW6
import Derived.Test.YthgcefppeaopkaaDoorRow
namespace Go.Proofs.YthgcefppeaopkaaDoor
open Go Go.RowKit Go.Sort
set_option maxRecDepth 100000
set_option linter.unusedSimpArgs false
set_option linter.unusedVariables false
set_option maxHeartbeats 1000000
def ZP : Array Value := #[.int .i64 0, .int .u64 0, .int .u64 0, .int .u64 0, .int .u64 0, .slice none 0 0, .int .i64 0, .int .i64 0, .int .u64 0, .int .u64 0, .int .u64 0, .int .u64 0, .bool false, .int .i64 (0), .int .i64 (0), .int .i64 (0)]
/-- the reference hands back a fault -/
def RetPB (e p : Int) (w : World) (x : Ending) (w' : World) : Prop := Below w.heap.size w w' ∧ ∃ at_ : Int, x = .returned (.agg #[.int .i64 0, .int .u64 0, .int .u64 0, .int .u64 0, .int .u64 0, .slice none 0 0, .int .i64 0, .int .i64 0, .int .u64 0, .int .u64 0, .int .u64 0, .int .u64 0, .bool false, .int .i64 (at_), .int .i64 (e), .int .i64 (p)])
theorem rbad_any (e p : Int) (w : World) : Calls Tryd.prog 44 #[.int .i64 e, .int .i64 p] w (RetG (.agg #[.int .i64 0, .int .u64 0, .int .u64 0, .int .u64 0, .int .u64 0, .slice none 0 0, .int .i64 0, .int .i64 0, .int .u64 0, .int .u64 0, .int .u64 0, .int .u64 0, .bool false, .int .i64 (0), .int .i64 (e), .int .i64 (p)]) w) := by
  go_enter Tryd.func44, Tryd.ntmps44
  go_wp2
  exact bodyPost_ret (v := .agg #[.int .i64 0, .int .u64 0, .int .u64 0, .int .u64 0, .int .u64 0, .slice none 0 0, .int .i64 0, .int .i64 0, .int .u64 0, .int .u64 0, .int .u64 0, .int .u64 0, .bool false, .int .i64 (0), .int .i64 (e), .int .i64 (p)]) (by simp [results, Tryd.results44, go_sem]) rfl ⟨rfl, (by repeat (first | with_reducible exact Below.refl _ _ | with_reducible assumption | with_reducible refine Below.setCell ?_ (by first | omega | (dsimp only; omega) | (simp <;> omega)) _ | with_reducible refine Below.alloc ?_ (by first | omega | (simp <;> omega)) _ | with_reducible refine below_drewN ?_ _ | with_reducible refine Below.drew ?_))⟩
/-- the result's block behind a call -/
theorem res_after {w w1 : World} (hb : Below (w.alloc (.cells #[.int .i64 0, .int .u64 0, .int .u64 0, .int .u64 0, .int .u64 0, .slice none 0 0, .int .i64 0, .int .i64 0, .int .u64 0, .int .u64 0, .int .u64 0, .int .u64 0, .bool false, .int .i64 (0), .int .i64 (0), .int .i64 (0)] 56)).heap.size (w.alloc (.cells #[.int .i64 0, .int .u64 0, .int .u64 0, .int .u64 0, .int .u64 0, .slice none 0 0, .int .i64 0, .int .i64 0, .int .u64 0, .int .u64 0, .int .u64 0, .int .u64 0, .bool false, .int .i64 (0), .int .i64 (0), .int .i64 (0)] 56)) w1) : Blk w1 w.heap.size #[.int .i64 0, .int .u64 0, .int .u64 0, .int .u64 0, .int .u64 0, .slice none 0 0, .int .i64 0, .int .i64 0, .int .u64 0, .int .u64 0, .int .u64 0, .int .u64 0, .bool false, .int .i64 (0), .int .i64 (0), .int .i64 (0)] 56 ∧ Below w.heap.size w w1 :=
  ⟨(Blk.new w #[.int .i64 0, .int .u64 0, .int .u64 0, .int .u64 0, .int .u64 0, .slice none 0 0, .int .i64 0, .int .i64 0, .int .u64 0, .int .u64 0, .int .u64 0, .int .u64 0, .bool false, .int .i64 (0), .int .i64 (0), .int .i64 (0)] 56).call hb, bthen (B := w.heap.size) (a := w) ((Below.refl _ _).alloc (Nat.le_refl _) _) (by simp) hb⟩
theorem rother_any (s : ByteArray) (i : Nat) (w : World) (hs : s.size ≤ 1000) (hi : i ≤ 2000) : Calls Tryd.prog 30 #[.string s, .int .i64 i] w (RetG (.agg #[.int .i64 0, .int .u64 0, .int .u64 0, .int .u64 0, .int .u64 0, .slice none 0 0, .int .i64 0, .int .i64 0, .int .u64 0, .int .u64 0, .int .u64 0, .int .u64 0, .bool false, .int .i64 (0), .int .i64 (if Rx.pk s.data.toList i < 0 then 1 else 2), .int .i64 (((if Rx.pk s.data.toList i < 0 then s.size else i : Nat) : Int))]) w) := by
  have HB := hide (fun e p w => rbad_any e p w)
  by_cases hlt : i < s.size
  · have h1 : ¬ Rx.pk s.data.toList i < 0 := by rw [pk_lt hlt]; omega
    rw [if_neg h1, if_neg h1]
    clear h1
    go_enter Tryd.func30, Tryd.ntmps30
    go_wp2_with fail
    refine (unhide HB _ _ _).mono ?_
    rintro x w1 ⟨rfl, hb1⟩
    have hr := res_after hb1
    (go_wp2_with (refine store_row 56 rfl _ _ rfl w.heap.size _ _ 56 hr.1 rfl rfl (by kernel_rfl) rfl rfl ?_); refine ret_row rfl w.heap.size _ _ hr.1.row rfl _ Tryd.underlying56 rfl ?_ rfl ?_; (kernel_rfl); (exact ⟨rfl, below_row hr.2 (Nat.le_refl _) _⟩))
  · have h1 : Rx.pk s.data.toList i < 0 := by rw [pk_ge (by omega)]; decide
    rw [if_pos h1, if_pos h1]
    clear h1
    go_enter Tryd.func30, Tryd.ntmps30
    go_wp2_with fail
    refine (unhide HB _ _ _).mono ?_
    rintro x w1 ⟨rfl, hb1⟩
    have hr := res_after hb1
    (go_wp2_with (refine store_row 56 rfl _ _ rfl w.heap.size _ _ 56 hr.1 rfl rfl (by kernel_rfl) rfl rfl ?_); refine ret_row rfl w.heap.size _ _ hr.1.row rfl _ Tryd.underlying56 rfl ?_ rfl ?_; (kernel_rfl); (exact ⟨rfl, below_row hr.2 (Nat.le_refl _) _⟩))
theorem ris_any (s : ByteArray) (i b : Nat) (w : World) (hs : s.size ≤ 1000) (hi : i ≤ 2000) (hb : b < 256) : Calls Tryd.prog 42 #[.string s, .int .i64 i, .int .u8 b] w (Ret (.bool (decide (Rx.pk s.data.toList i = b))) w) := by
  by_cases hlt : i < s.size
  · rw [pk_lt hlt]
    go_enter Tryd.func42, Tryd.ntmps42
    go_wp2
    go_ret
    exact ret_bool (by first | rfl | (rw [Bool.eq_iff_iff]; simp))
  · rw [pk_ge (by omega)]
    have hd : decide (i < s.size) = false := by simpa using hlt
    go_enter Tryd.func42, Tryd.ntmps42
    go_wp2
    go_ret
    exact ret_bool (by symm; simp)
theorem rhex_any (b : Nat) (w : World) (hb : b < 256) : Calls Tryd.prog 82 #[.int .u8 b] w (Ret (.int .i64 (Rx.hexv b)) w) := by
  have hc : (48 ≤ b ∧ b ≤ 57) ∨ (97 ≤ b ∧ b ≤ 102) ∨ (b < 48) ∨ (57 < b ∧ b < 97) ∨ (102 < b) := by omega
  rcases hc with ⟨c1, c2⟩ | ⟨c1, c2⟩ | hc | ⟨c1, c2⟩ | hc
  · have d1 : decide ((48 : Int) ≤ (b : Int)) = true := by simp; omega
    have d2 : decide ((b : Int) ≤ 57) = true := by simp; omega
    go_enter Tryd.func82, Tryd.ntmps82
    go_wp2
    go_ret
    exact ret_int (by unfold Rx.hexv; rw [if_pos ⟨by omega, by omega⟩])
  · have d1 : decide ((48 : Int) ≤ (b : Int)) = true := by simp; omega
    have d2 : decide ((b : Int) ≤ 57) = false := by simp; omega
    have d3 : decide ((97 : Int) ≤ (b : Int)) = true := by simp; omega
    have d4 : decide ((b : Int) ≤ 102) = true := by simp; omega
    go_enter Tryd.func82, Tryd.ntmps82
    go_wp2
    go_ret
    exact ret_int (by unfold Rx.hexv; rw [if_neg (by omega), if_pos ⟨by omega, by omega⟩])
  · have d1 : decide ((48 : Int) ≤ (b : Int)) = false := by simp; omega
    have d3 : decide ((97 : Int) ≤ (b : Int)) = false := by simp; omega
    go_enter Tryd.func82, Tryd.ntmps82
    go_wp2
    go_ret
    exact ret_int (by unfold Rx.hexv; rw [if_neg (by omega), if_neg (by omega)])
  · have d1 : decide ((48 : Int) ≤ (b : Int)) = true := by simp; omega
    have d2 : decide ((b : Int) ≤ 57) = false := by simp; omega
    have d3 : decide ((97 : Int) ≤ (b : Int)) = false := by simp; omega
    go_enter Tryd.func82, Tryd.ntmps82
    go_wp2
    go_ret
    exact ret_int (by unfold Rx.hexv; rw [if_neg (by omega), if_neg (by omega)])
  · have d1 : decide ((48 : Int) ≤ (b : Int)) = true := by simp; omega
    have d2 : decide ((b : Int) ≤ 57) = false := by simp; omega
    have d3 : decide ((97 : Int) ≤ (b : Int)) = true := by simp; omega
    have d4 : decide ((b : Int) ≤ 102) = false := by simp; omega
    go_enter Tryd.func82, Tryd.ntmps82
    go_wp2
    go_ret
    exact ret_int (by unfold Rx.hexv; rw [if_neg (by omega), if_neg (by omega)])
/-- is the byte among them? -/
def amongB (l : List UInt8) (b : Nat) : Bool := l.any fun x => decide (x.toNat = b)
theorem ramong_any (b : Nat) (l : ByteArray) (w : World) (hb : b < 256) (hl : l.size ≤ 1000) : Calls Tryd.prog 65 #[.int .u8 b, .string l] w (Ret (.bool (amongB l.data.toList b)) w) := by
  go_enter Tryd.func65, Tryd.ntmps65
  go_wp2
  go_loop [5] (fun v => ∃ k : Nat, k ≤ l.size ∧ v = .int .i64 k ∧ Hid (amongB (l.data.toList.take k) b = false)) (fun v => l.size - (intOf v).toNat)
  case atStart => exact ⟨0, Nat.zero_le _, rfl, hid_mk rfl⟩
  case round =>
    obtain ⟨k, hk, rfl, HN⟩ := hrel
    by_cases hlt : k < l.size
    · have HT := hid_mk (List.take_succ_eq_append_getElem (l := l.data.toList) (i := k) (by simpa using hlt))
      have hx : ∃ x, x = (l[k]'hlt) := ⟨_, rfl⟩
      obtain ⟨x, hx⟩ := hx
      have HX := hid_mk hx
      cases he : decide (x.toNat = b) with
      | true =>
        have he2 : ((l[k]'hlt).toNat == b) = true := by rw [← hx]; simpa using he
        have he3 : (((l[k]'hlt).toNat : Int) == (b : Int)) = true := by rw [← hx]; simp at he ⊢; omega
        have HE := hid_mk he
        clear he hx
        go_wp2
        go_ret
        refine ret_bool ?_
        symm
        unfold amongB
        rw [List.any_eq_true]
        exact ⟨x, by rw [HX.out]; exact List.getElem_mem (by simpa using hlt), HE.out⟩
      | false =>
        have he2 : ((l[k]'hlt).toNat == b) = false := by rw [← hx]; simpa using he
        have he3 : (((l[k]'hlt).toNat : Int) == (b : Int)) = false := by rw [← hx]; simp at he ⊢; omega
        have HE := hid_mk he
        clear he hx
        go_wp2
        go_round
        case rel => exact ⟨k + 1, by omega, by go_num, hid_mk (by have h1 := HN.out; unfold amongB at h1 ⊢; rw [HT.out, List.any_append, h1]; simp only [List.any_cons, List.any_nil, Bool.or_false, Bool.false_or]; rw [← HE.out, HX.out]; rfl)⟩
        case measure => simp [intOf]; omega
    · go_wp2
      go_ret
      refine ret_bool ?_
      have := HN.out
      rw [List.take_of_length_le (by simp; omega)] at this
      exact this.symm
end Go.Proofs.YthgcefppeaopkaaDoor
