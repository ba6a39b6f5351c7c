/- Walks: may a tree be? (the program's) -/
import Derived.Test.YthgcefppeaopkaaDoorWorks
import Derived.Test.YthgcefppeaopkaaDoorStandR
namespace Go.Proofs.YthgcefppeaopkaaDoor
open Go Go.RowKit Go.Sort
set_option maxRecDepth 100000
set_option linter.unusedSimpArgs false
set_option linter.unusedVariables false
set_option maxHeartbeats 1000000
theorem ret_boolG {a b : Bool} {w w' : World} (h : a = b) (hb : Below w.heap.size w w') : RetG (.bool b) w (.returned (.bool a)) w' := ⟨by rw [h], hb⟩
theorem ptimes_any (lo hi : Int) (w : World) : Calls Tryd.prog 31 #[.int .i64 lo, .int .i64 hi] w (Ret (.bool (Rx.timesB lo hi)) w) := by
  by_cases h1 : lo < 0
  · have e : Rx.timesB lo hi = false := by simp [Rx.timesB, h1]
    rw [e]; clear e
    go_enter Tryd.func31, Tryd.ntmps31
    go_wp2
    exact bodyPost_ret (v := .bool false) (by simp [results, Tryd.results31, go_sem]) rfl ⟨rfl, rfl⟩
  by_cases h2 : 16 < lo
  · have e : Rx.timesB lo hi = false := by simp [Rx.timesB, h2]
    rw [e]; clear e
    go_enter Tryd.func31, Tryd.ntmps31
    go_wp2
    exact bodyPost_ret (v := .bool false) (by simp [results, Tryd.results31, go_sem]) rfl ⟨rfl, rfl⟩
  have d1 : decide (lo < 0) = false := by simpa using h1
  have d2 : decide (16 < lo) = false := by simpa using h2
  by_cases h3 : hi = -1
  · subst h3
    have e : Rx.timesB lo (-1) = true := by simp [Rx.timesB]; omega
    rw [e]; clear e
    go_enter Tryd.func31, Tryd.ntmps31
    go_wp2
    exact bodyPost_ret (v := .bool true) (by simp [results, Tryd.results31, go_sem]) rfl ⟨rfl, rfl⟩
  have d3 : (hi == -1) = false := by simpa using h3
  have way : ∀ (x : Int), (if lo < 1 then (1 : Int) else lo) = x → Rx.timesB lo hi = (decide (x ≤ hi) && decide (hi ≤ 16)) := by
    intro x hx
    rw [Bool.eq_iff_iff]
    split at hx <;> simp [Rx.timesB] <;> omega
  by_cases h6 : lo < 1
  · have e := way 1 (if_pos h6)
    rw [e]; clear e way
    by_cases h4 : 1 ≤ hi <;> by_cases h5 : hi ≤ 16
    all_goals
      first
      | rw [decide_eq_true h4]
      | rw [decide_eq_false h4]
      first
      | rw [decide_eq_true h5]
      | rw [decide_eq_false h5]
      go_enter Tryd.func31, Tryd.ntmps31
      go_wp2
      first
      | exact bodyPost_ret (v := .bool true) (by simp [results, Tryd.results31, go_sem]) rfl ⟨rfl, rfl⟩
      | exact bodyPost_ret (v := .bool false) (by simp [results, Tryd.results31, go_sem]) rfl ⟨rfl, rfl⟩
  · have e := way lo (if_neg h6)
    rw [e]; clear e way
    by_cases h4 : lo ≤ hi <;> by_cases h5 : hi ≤ 16
    all_goals
      first
      | rw [decide_eq_true h4]
      | rw [decide_eq_false h4]
      first
      | rw [decide_eq_true h5]
      | rw [decide_eq_false h5]
      go_enter Tryd.func31, Tryd.ntmps31
      go_wp2
      first
      | exact bodyPost_ret (v := .bool true) (by simp [results, Tryd.results31, go_sem]) rfl ⟨rfl, rfl⟩
      | exact bodyPost_ret (v := .bool false) (by simp [results, Tryd.results31, go_sem]) rfl ⟨rfl, rfl⟩
/-- at a round's head: the first kids may be -/
def PRightAt (kd : Int) (kids : List Node) (W : World) (v : Value) (wr : World) : Prop := ∃ k : Nat, v = .int .i64 (k : Nat) ∧ k ≤ kids.length ∧ Rx.rights kd (kids.take k) = true ∧ Below W.heap.size W wr
theorem rights_append (kd : Int) (a b : List Node) : Rx.rights kd (a ++ b) = (Rx.rights kd a && Rx.rights kd b) := by
  induction a with
  | nil => simp [Rx.rights]
  | cons x r ih => rw [List.cons_append, Rx.rights, Rx.rights, ih]; simp only [Bool.and_assoc]
theorem rights_bad {kd : Int} {kids : List Node} {k : Nat} (hlt : k < kids.length) (h : (Rx.right kids[k] && !(kids[k].kind == kd && kd != 4)) = false) : Rx.rights kd kids = false := by
  rw [← List.take_append_drop k kids, rights_append, List.drop_eq_getElem_cons hlt, Rx.rights, h]
  simp
theorem rights_good {kd : Int} {kids : List Node} {k : Nat} (hlt : k < kids.length) (h0 : Rx.rights kd (kids.take k) = true) (h : (Rx.right kids[k] && !(kids[k].kind == kd && kd != 4)) = true) : Rx.rights kd (kids.take (k + 1)) = true := by
  rw [List.take_succ_eq_append_getElem hlt, rights_append, h0, Rx.rights, h]
  rfl
theorem set_none (S : CSet) (w : World) : (Op.equalIn 10000 25 (.agg #[.int .u64 ((S).a.toNat : Int), .int .u64 ((S).b.toNat : Int), .int .u64 ((S).c.toNat : Int), .int .u64 ((S).d.toNat : Int)]) (.agg #[.int .u64 0, .int .u64 0, .int .u64 0, .int .u64 0])).run Tryd.prog w = .ok (decide (S = CSet.empty)) w := set_eq_run S CSet.empty w
theorem pright_any : ∀ (m : Nat) (n : Node), n.size ≤ m → n.size ≤ 10000 → ∀ (A : Option Addr) (ca : Nat) (G : Nat → Prop) (w : World), (∀ x, G x → x < w.heap.size) → SlOk A n.kids.length ca → KidsAt G w A n.kids →
    Calls Tryd.prog 13 #[.agg #[.int .i64 (n.kind), .int .u64 ((n.set).a.toNat : Int), .int .u64 ((n.set).b.toNat : Int), .int .u64 ((n.set).c.toNat : Int), .int .u64 ((n.set).d.toNat : Int), .slice (A) (n.kids.length) (ca), .int .i64 (n.min), .int .i64 (n.max)]] w (RetG (.bool (Rx.right n)) w) := by
  intro m
  induction m with
  | zero => intro a h; exact absurd h (by have := a.size_pos; omega)
  | succ m ih =>
    intro n ha ha2 A ca G w hG hsa hka
    have hal : n.kids.length ≤ 10000 := by have := Node.length_le_sizes n.kids; have := n.size_eq; omega
    have HIH := hid_mk (fun x (hx : x ∈ n.kids) => ih x (by have := Node.size_mem_kids hx; omega) (by have := Node.size_mem_kids hx; omega))
    have HG := hid_mk hG
    have HKA := hid_mk hka
    clear ih ha ha2 hG hka
    cases n with
    | mk kd S kids mn mx =>
    simp only [Node.kind, Node.set, Node.kids, Node.min, Node.max] at *
    have HE : Hid (Rx.right (.mk kd S kids mn mx) = (Rx.topB kd S kids.length mn mx && Rx.rights kd kids)) := hid_mk (by rw [Rx.right])
    generalize Rx.right (.mk kd S kids mn mx) = R at *
    clear hsa
    go_enter Tryd.func13, Tryd.ntmps13
    go_wp2
    go_loopw [8] (fun v wr => PRightAt kd kids (w.alloc (.cells #[.int .i64 (kd), .int .u64 ((S).a.toNat : Int), .int .u64 ((S).b.toNat : Int), .int .u64 ((S).c.toNat : Int), .int .u64 ((S).d.toNat : Int), .slice (A) (kids.length) (ca), .int .i64 (mn), .int .i64 (mx)] 28)) v wr) (fun v _ => kids.length - (intOf v).toNat)
    case atStart => exact ⟨0, rfl, Nat.zero_le _, rfl, Below.refl _ _⟩
    case round =>
      obtain ⟨k, rfl, hk, htk, hbw⟩ := hrel
      have HTK := hid_mk htk
      have hbw0 : Below w.heap.size w wr := (show Below w.heap.size w (w.alloc (.cells #[.int .i64 (kd), .int .u64 ((S).a.toNat : Int), .int .u64 ((S).b.toNat : Int), .int .u64 ((S).c.toNat : Int), .int .u64 ((S).d.toNat : Int), .slice (A) (kids.length) (ca), .int .i64 (mn), .int .i64 (mx)] 28)) from (by repeat (first | with_reducible exact Below.refl _ _ | with_reducible assumption | with_reducible refine Below.setCell ?_ (by first | omega | (dsimp only; omega) | (simp <;> omega)) _ | with_reducible refine Below.alloc ?_ (by first | omega | (simp <;> omega)) _ | with_reducible refine below_drewN ?_ _ | with_reducible refine Below.drew ?_))).trans (hbw.mono (by first | omega | (simp; omega) | simp))
      have hxa : Blk wr w.heap.size #[.int .i64 (kd), .int .u64 ((S).a.toNat : Int), .int .u64 ((S).b.toNat : Int), .int .u64 ((S).c.toNat : Int), .int .u64 ((S).d.toNat : Int), .slice (A) (kids.length) (ca), .int .i64 (mn), .int .i64 (mx)] 28 := (Blk.new w _ _).below hbw (by simp)
      clear htk
      by_cases hlt : k < kids.length
      · have hka := kids_two HKA.out hbw0 HG.out
        obtain ⟨ba, oa, A', ca', hAE, hga, hsa', hka', hca⟩ := kidsAt_at hka hlt
        subst hAE
        have HIX := hid_mk (HIH.out kids[k] (List.getElem_mem hlt))
        have HNO := hid_mk (rights_bad (kd := kd) hlt)
        have HOK := hid_mk (rights_good (kd := kd) hlt HTK.out)
        generalize kids[k] = x at *
        (have z0 : wr.cell? ⟨ba, oa + k * 8, none⟩ = some (.int .i64 (x.kind)) := hca 0 _ rfl; have z1 : wr.cell? ⟨ba, oa + k * 8 + 1, none⟩ = some (.int .u64 ((x.set).a.toNat : Int)) := hca 1 _ rfl; have z2 : wr.cell? ⟨ba, oa + k * 8 + 2, none⟩ = some (.int .u64 ((x.set).b.toNat : Int)) := hca 2 _ rfl; have z3 : wr.cell? ⟨ba, oa + k * 8 + 3, none⟩ = some (.int .u64 ((x.set).c.toNat : Int)) := hca 3 _ rfl; have z4 : wr.cell? ⟨ba, oa + k * 8 + 4, none⟩ = some (.int .u64 ((x.set).d.toNat : Int)) := hca 4 _ rfl; have z5 : wr.cell? ⟨ba, oa + k * 8 + 5, none⟩ = some (.slice (A') (x.kids.length) (ca')) := hca 5 _ rfl; have z6 : wr.cell? ⟨ba, oa + k * 8 + 6, none⟩ = some (.int .i64 (x.min)) := hca 6 _ rfl; have z7 : wr.cell? ⟨ba, oa + k * 8 + 7, none⟩ = some (.int .i64 (x.max)) := hca 7 _ rfl)
        have hsz := hbw0.size
        have HBW := hid_mk hbw
        have HBW0 := hid_mk hbw0
        have HXA := hid_mk hxa
        have HCX := hide (HIX.out A' ca' G (wr.alloc (.cells #[.int .i64 (x.kind), .int .u64 ((x.set).a.toNat : Int), .int .u64 ((x.set).b.toNat : Int), .int .u64 ((x.set).c.toNat : Int), .int .u64 ((x.set).d.toNat : Int), .slice (A') (x.kids.length) (ca'), .int .i64 (x.min), .int .i64 (x.max)] 28)) (fun b hb => by have := HG.out b hb; have := hsz; first | omega | (simp; omega)) hsa' (kidsAt_keep (below_keeps ((Below.refl wr.heap.size wr).alloc (Nat.le_refl _) _) (fun b hb => by have := HG.out b hb; omega)) (fun b h => h) hka'))
        clear hbw hbw0 hka hka' hca hxa HIX
        cases hx : Rx.right x with
        | false =>
          rw [hx] at HCX HNO
          have HRF : Hid (R = false) := hid_mk (by rw [HE.out, HNO.out rfl, Bool.and_false])
          clear hx HOK HNO
          go_wp2_with fail
          refine (unhide HCX).mono ?_
          rintro e w3 ⟨rfl, hb3⟩
          have hb := HBW0.out
          have HB3 : Hid (Below w.heap.size w w3) := hid_mk ((show Below w.heap.size w (wr.alloc (.cells #[.int .i64 (x.kind), .int .u64 ((x.set).a.toNat : Int), .int .u64 ((x.set).b.toNat : Int), .int .u64 ((x.set).c.toNat : Int), .int .u64 ((x.set).d.toNat : Int), .slice (A') (x.kids.length) (ca'), .int .i64 (x.min), .int .i64 (x.max)] 28)) from (by repeat (first | with_reducible exact Below.refl _ _ | with_reducible assumption | with_reducible refine Below.setCell ?_ (by first | omega | (dsimp only; omega) | (simp <;> omega)) _ | with_reducible refine Below.alloc ?_ (by first | omega | (simp <;> omega)) _ | with_reducible refine below_drewN ?_ _ | with_reducible refine Below.drew ?_))).trans (hb3.mono (by simp; omega)))
          clear hb hb3
          go_wp2
          refine bodyPost_ret (v := .bool false) (by simp [results, Tryd.results13, go_sem]) rfl ?_
          exact ret_boolG HRF.out.symm HB3.out
        | true =>
          rw [hx] at HCX HNO HOK
          clear hx
          have hbx : Blk (wr.alloc (.cells #[.int .i64 (x.kind), .int .u64 ((x.set).a.toNat : Int), .int .u64 ((x.set).b.toNat : Int), .int .u64 ((x.set).c.toNat : Int), .int .u64 ((x.set).d.toNat : Int), .slice (A') (x.kids.length) (ca'), .int .i64 (x.min), .int .i64 (x.max)] 28)) wr.heap.size #[.int .i64 (x.kind), .int .u64 ((x.set).a.toNat : Int), .int .u64 ((x.set).b.toNat : Int), .int .u64 ((x.set).c.toNat : Int), .int .u64 ((x.set).d.toNat : Int), .slice (A') (x.kids.length) (ca'), .int .i64 (x.min), .int .i64 (x.max)] 28 := Blk.new _ _ _
          have hbn : Blk (wr.alloc (.cells #[.int .i64 (x.kind), .int .u64 ((x.set).a.toNat : Int), .int .u64 ((x.set).b.toNat : Int), .int .u64 ((x.set).c.toNat : Int), .int .u64 ((x.set).d.toNat : Int), .slice (A') (x.kids.length) (ca'), .int .i64 (x.min), .int .i64 (x.max)] 28)) w.heap.size #[.int .i64 (kd), .int .u64 ((S).a.toNat : Int), .int .u64 ((S).b.toNat : Int), .int .u64 ((S).c.toNat : Int), .int .u64 ((S).d.toNat : Int), .slice (some ⟨ba, oa, none⟩) (kids.length) (ca), .int .i64 (mn), .int .i64 (mx)] 28 := by
            have h := HXA.out
            exact h.alloc _
          have HBX := hid_mk hbx
          have HBN := hid_mk hbn
          clear hbx hbn
          by_cases hkk : x.kind = kd
          · have e1 : (x.kind == kd) = true := by simpa using hkk
            by_cases hk4 : kd = 4
            · have e2 : (kd != 4) = false := by simpa using hk4
              have HT2 := hid_mk (HOK.out (by rw [e1, e2]; rfl))
              clear hkk hk4 HNO HOK
              go_wp2_with fail
              refine (unhide HCX).mono ?_
              rintro e w3 ⟨rfl, hb3⟩
              have x0 : w3.cell? ⟨wr.heap.size, 0, none⟩ = some (.int .i64 x.kind) := (HBX.out.call hb3).cell 0
              have n0 : w3.cell? ⟨w.heap.size, 0, none⟩ = some (.int .i64 kd) := (HBN.out.call hb3).cell 0
              have hb1 := HBW.out
              have hs1 := hb1.size
              have HB3 : Hid (Below (w.alloc (.cells #[.int .i64 (kd), .int .u64 ((S).a.toNat : Int), .int .u64 ((S).b.toNat : Int), .int .u64 ((S).c.toNat : Int), .int .u64 ((S).d.toNat : Int), .slice (some ⟨ba, oa, none⟩) (kids.length) (ca), .int .i64 (mn), .int .i64 (mx)] 28)).heap.size (w.alloc (.cells #[.int .i64 (kd), .int .u64 ((S).a.toNat : Int), .int .u64 ((S).b.toNat : Int), .int .u64 ((S).c.toNat : Int), .int .u64 ((S).d.toNat : Int), .slice (some ⟨ba, oa, none⟩) (kids.length) (ca), .int .i64 (mn), .int .i64 (mx)] 28)) w3) := hid_mk ((hb1.alloc hs1 (.cells #[.int .i64 (x.kind), .int .u64 ((x.set).a.toNat : Int), .int .u64 ((x.set).b.toNat : Int), .int .u64 ((x.set).c.toNat : Int), .int .u64 ((x.set).d.toNat : Int), .slice (A') (x.kids.length) (ca'), .int .i64 (x.min), .int .i64 (x.max)] 28)).trans (hb3.mono (by have := hs1; simp at *; omega)))
              clear hb1 hs1 hb3
              go_wp2
              go_roundw
              case rel => exact ⟨k + 1, by go_num, by omega, HT2.out, HB3.out⟩
              case measure => simp [intOf]; omega
            · have e2 : (kd != 4) = true := by simpa using hk4
              have HRF : Hid (R = false) := hid_mk (by rw [HE.out, HNO.out (by rw [e1, e2]; rfl), Bool.and_false])
              clear hkk hk4 HNO HOK
              go_wp2_with fail
              refine (unhide HCX).mono ?_
              rintro e w3 ⟨rfl, hb3⟩
              have x0 : w3.cell? ⟨wr.heap.size, 0, none⟩ = some (.int .i64 x.kind) := (HBX.out.call hb3).cell 0
              have n0 : w3.cell? ⟨w.heap.size, 0, none⟩ = some (.int .i64 kd) := (HBN.out.call hb3).cell 0
              have hb := HBW0.out
              have HB3 : Hid (Below w.heap.size w w3) := hid_mk ((show Below w.heap.size w (wr.alloc (.cells #[.int .i64 (x.kind), .int .u64 ((x.set).a.toNat : Int), .int .u64 ((x.set).b.toNat : Int), .int .u64 ((x.set).c.toNat : Int), .int .u64 ((x.set).d.toNat : Int), .slice (A') (x.kids.length) (ca'), .int .i64 (x.min), .int .i64 (x.max)] 28)) from (by repeat (first | with_reducible exact Below.refl _ _ | with_reducible assumption | with_reducible refine Below.setCell ?_ (by first | omega | (dsimp only; omega) | (simp <;> omega)) _ | with_reducible refine Below.alloc ?_ (by first | omega | (simp <;> omega)) _ | with_reducible refine below_drewN ?_ _ | with_reducible refine Below.drew ?_))).trans (hb3.mono (by simp; omega)))
              clear hb hb3
              go_wp2
              refine bodyPost_ret (v := .bool false) (by simp [results, Tryd.results13, go_sem]) rfl ?_
              exact ret_boolG HRF.out.symm HB3.out
          · have e1 : (x.kind == kd) = false := by simpa using hkk
            have HT2 := hid_mk (HOK.out (by rw [e1]; rfl))
            clear hkk HNO HOK
            go_wp2_with fail
            refine (unhide HCX).mono ?_
            rintro e w3 ⟨rfl, hb3⟩
            have x0 : w3.cell? ⟨wr.heap.size, 0, none⟩ = some (.int .i64 x.kind) := (HBX.out.call hb3).cell 0
            have n0 : w3.cell? ⟨w.heap.size, 0, none⟩ = some (.int .i64 kd) := (HBN.out.call hb3).cell 0
            have hb1 := HBW.out
            have hs1 := hb1.size
            have HB3 : Hid (Below (w.alloc (.cells #[.int .i64 (kd), .int .u64 ((S).a.toNat : Int), .int .u64 ((S).b.toNat : Int), .int .u64 ((S).c.toNat : Int), .int .u64 ((S).d.toNat : Int), .slice (some ⟨ba, oa, none⟩) (kids.length) (ca), .int .i64 (mn), .int .i64 (mx)] 28)).heap.size (w.alloc (.cells #[.int .i64 (kd), .int .u64 ((S).a.toNat : Int), .int .u64 ((S).b.toNat : Int), .int .u64 ((S).c.toNat : Int), .int .u64 ((S).d.toNat : Int), .slice (some ⟨ba, oa, none⟩) (kids.length) (ca), .int .i64 (mn), .int .i64 (mx)] 28)) w3) := hid_mk ((hb1.alloc hs1 (.cells #[.int .i64 (x.kind), .int .u64 ((x.set).a.toNat : Int), .int .u64 ((x.set).b.toNat : Int), .int .u64 ((x.set).c.toNat : Int), .int .u64 ((x.set).d.toNat : Int), .slice (A') (x.kids.length) (ca'), .int .i64 (x.min), .int .i64 (x.max)] 28)).trans (hb3.mono (by have := hs1; simp at *; omega)))
            clear hb1 hs1 hb3
            go_wp2
            go_roundw
            case rel => exact ⟨k + 1, by go_num, by omega, HT2.out, HB3.out⟩
            case measure => simp [intOf]; omega
      · have hkl : k = kids.length := by omega
        subst hkl
        have HB0 := hid_mk hbw0
        have HTT : Hid (Rx.rights kd kids = true) := hid_mk (by have := HTK.out; rwa [List.take_length] at this)
        (have y0 : wr.cell? ⟨w.heap.size, 0, none⟩ = some (.int .i64 (kd)) := hxa.cell 0; have y1 : wr.cell? ⟨w.heap.size, 1, none⟩ = some (.int .u64 ((S).a.toNat : Int)) := hxa.cell 1; have y2 : wr.cell? ⟨w.heap.size, 2, none⟩ = some (.int .u64 ((S).b.toNat : Int)) := hxa.cell 2; have y3 : wr.cell? ⟨w.heap.size, 3, none⟩ = some (.int .u64 ((S).c.toNat : Int)) := hxa.cell 3; have y4 : wr.cell? ⟨w.heap.size, 4, none⟩ = some (.int .u64 ((S).d.toNat : Int)) := hxa.cell 4; have y5 : wr.cell? ⟨w.heap.size, 5, none⟩ = some (.slice (A) (kids.length) (ca)) := hxa.cell 5; have y6 : wr.cell? ⟨w.heap.size, 6, none⟩ = some (.int .i64 (mn)) := hxa.cell 6; have y7 : wr.cell? ⟨w.heap.size, 7, none⟩ = some (.int .i64 (mx)) := hxa.cell 7; have yf : ∀ i, wr.frozen? ⟨w.heap.size, i, none⟩ = false := hxa.frozen)
        clear hbw hbw0 hxa HTK
        by_cases hk1 : kd = 1
        case pos =>
          subst hk1
          by_cases hmn : mn = 0
          case neg =>
            have hmb : (mn != 0) = true := by simpa using hmn
            go_wp2
            refine bodyPost_ret (v := .bool false) (by simp [results, Tryd.results13, go_sem]) rfl ?_
            exact ret_boolG (by rw [HE.out, HTT.out]; simp [Rx.topB, hmn]) HB0.out
          by_cases hmx : mx = 0
          case neg =>
            subst hmn
            have hxb : (mx != 0) = true := by simpa using hmx
            go_wp2
            refine bodyPost_ret (v := .bool false) (by simp [results, Tryd.results13, go_sem]) rfl ?_
            exact ret_boolG (by rw [HE.out, HTT.out]; simp [Rx.topB, hmx]) HB0.out
          subst hmn hmx
          by_cases hln : kids.length = 0
          case pos =>
            have g : (kids.length == 0) = true := beq_iff_eq.2 hln
            have g2 : ((kids.length : Int) == 0) = true := beq_iff_eq.2 (by omega)
            go_wp2
            refine bodyPost_ret (v := .bool true) (by simp [results, Tryd.results13, go_sem]) rfl ?_
            exact ret_boolG (by rw [HE.out, HTT.out]; simp [Rx.topB, hln]) HB0.out
          have g : (kids.length == 0) = false := beq_eq_false_iff_ne.2 hln
          have g2 : ((kids.length : Int) == 0) = false := beq_eq_false_iff_ne.2 (by omega)
          go_wp2
          refine bodyPost_ret (v := .bool false) (by simp [results, Tryd.results13, go_sem]) rfl ?_
          exact ret_boolG (by rw [HE.out, HTT.out]; simp [Rx.topB, hln]) HB0.out
        by_cases hk2 : kd = 2
        case pos =>
          subst hk2
          by_cases hS : S = CSet.empty
          case neg =>
            have hse : ∀ w, (Op.equalIn 10000 25 (.agg #[.int .u64 ((S).a.toNat : Int), .int .u64 ((S).b.toNat : Int), .int .u64 ((S).c.toNat : Int), .int .u64 ((S).d.toNat : Int)]) (.agg #[.int .u64 0, .int .u64 0, .int .u64 0, .int .u64 0])).run Tryd.prog w = .ok false w := fun w => by rw [set_none, decide_eq_false hS]
            go_wp2
            refine bodyPost_ret (v := .bool false) (by simp [results, Tryd.results13, go_sem]) rfl ?_
            exact ret_boolG (by rw [HE.out, HTT.out]; simp [Rx.topB, hS]) HB0.out
          have hse : ∀ w, (Op.equalIn 10000 25 (.agg #[.int .u64 ((S).a.toNat : Int), .int .u64 ((S).b.toNat : Int), .int .u64 ((S).c.toNat : Int), .int .u64 ((S).d.toNat : Int)]) (.agg #[.int .u64 0, .int .u64 0, .int .u64 0, .int .u64 0])).run Tryd.prog w = .ok true w := fun w => by rw [set_none, decide_eq_true hS]
          have HS := hid_mk hS
          clear hS
          by_cases hmn : mn = 0
          case neg =>
            have hmb : (mn != 0) = true := by simpa using hmn
            go_wp2
            refine bodyPost_ret (v := .bool false) (by simp [results, Tryd.results13, go_sem]) rfl ?_
            exact ret_boolG (by rw [HE.out, HTT.out]; simp [Rx.topB, HS.out, hmn]) HB0.out
          by_cases hmx : mx = 0
          case neg =>
            subst hmn
            have hxb : (mx != 0) = true := by simpa using hmx
            go_wp2
            refine bodyPost_ret (v := .bool false) (by simp [results, Tryd.results13, go_sem]) rfl ?_
            exact ret_boolG (by rw [HE.out, HTT.out]; simp [Rx.topB, HS.out, hmx]) HB0.out
          subst hmn hmx
          by_cases hln : kids.length ≠ 1
          case pos =>
            have g : (kids.length != 1) = true := bne_iff_ne.2 hln
            have g2 : ((kids.length : Int) != 1) = true := bne_iff_ne.2 (by omega)
            go_wp2
            refine bodyPost_ret (v := .bool true) (by simp [results, Tryd.results13, go_sem]) rfl ?_
            exact ret_boolG (by rw [HE.out, HTT.out]; simp [Rx.topB, HS.out, hln]) HB0.out
          have hln2 : kids.length = 1 := by omega
          clear hln
          have hln := hln2
          have g : (kids.length != 1) = false := by simp [hln2]
          have g2 : ((kids.length : Int) != 1) = false := by simp [hln2]
          go_wp2
          refine bodyPost_ret (v := .bool false) (by simp [results, Tryd.results13, go_sem]) rfl ?_
          exact ret_boolG (by rw [HE.out, HTT.out]; simp [Rx.topB, HS.out, hln]) HB0.out
        by_cases hk3 : kd = 3
        case pos =>
          subst hk3
          by_cases hS : S = CSet.empty
          case neg =>
            have hse : ∀ w, (Op.equalIn 10000 25 (.agg #[.int .u64 ((S).a.toNat : Int), .int .u64 ((S).b.toNat : Int), .int .u64 ((S).c.toNat : Int), .int .u64 ((S).d.toNat : Int)]) (.agg #[.int .u64 0, .int .u64 0, .int .u64 0, .int .u64 0])).run Tryd.prog w = .ok false w := fun w => by rw [set_none, decide_eq_false hS]
            go_wp2
            refine bodyPost_ret (v := .bool false) (by simp [results, Tryd.results13, go_sem]) rfl ?_
            exact ret_boolG (by rw [HE.out, HTT.out]; simp [Rx.topB, hS]) HB0.out
          have hse : ∀ w, (Op.equalIn 10000 25 (.agg #[.int .u64 ((S).a.toNat : Int), .int .u64 ((S).b.toNat : Int), .int .u64 ((S).c.toNat : Int), .int .u64 ((S).d.toNat : Int)]) (.agg #[.int .u64 0, .int .u64 0, .int .u64 0, .int .u64 0])).run Tryd.prog w = .ok true w := fun w => by rw [set_none, decide_eq_true hS]
          have HS := hid_mk hS
          clear hS
          by_cases hmn : mn = 0
          case neg =>
            have hmb : (mn != 0) = true := by simpa using hmn
            go_wp2
            refine bodyPost_ret (v := .bool false) (by simp [results, Tryd.results13, go_sem]) rfl ?_
            exact ret_boolG (by rw [HE.out, HTT.out]; simp [Rx.topB, HS.out, hmn]) HB0.out
          by_cases hmx : mx = 0
          case neg =>
            subst hmn
            have hxb : (mx != 0) = true := by simpa using hmx
            go_wp2
            refine bodyPost_ret (v := .bool false) (by simp [results, Tryd.results13, go_sem]) rfl ?_
            exact ret_boolG (by rw [HE.out, HTT.out]; simp [Rx.topB, HS.out, hmx]) HB0.out
          subst hmn hmx
          by_cases hln : 1 < kids.length
          case pos =>
            have g2 : decide ((1 : Int) < (kids.length : Int)) = true := decide_eq_true (by omega)
            have g3 : decide (1 < kids.length) = true := decide_eq_true hln
            go_wp2
            refine bodyPost_ret (v := .bool true) (by simp [results, Tryd.results13, go_sem]) rfl ?_
            exact ret_boolG (by rw [HE.out, HTT.out]; simp [Rx.topB, HS.out, hln]) HB0.out
          have g2 : decide ((1 : Int) < (kids.length : Int)) = false := decide_eq_false (by omega)
          have g3 : decide (1 < kids.length) = false := decide_eq_false hln
          go_wp2
          refine bodyPost_ret (v := .bool false) (by simp [results, Tryd.results13, go_sem]) rfl ?_
          exact ret_boolG (by rw [HE.out, HTT.out]; simp [Rx.topB, HS.out, hln]) HB0.out
        by_cases hk4 : kd = 4
        case pos =>
          subst hk4
          by_cases hS : S = CSet.empty
          case neg =>
            have hse : ∀ w, (Op.equalIn 10000 25 (.agg #[.int .u64 ((S).a.toNat : Int), .int .u64 ((S).b.toNat : Int), .int .u64 ((S).c.toNat : Int), .int .u64 ((S).d.toNat : Int)]) (.agg #[.int .u64 0, .int .u64 0, .int .u64 0, .int .u64 0])).run Tryd.prog w = .ok false w := fun w => by rw [set_none, decide_eq_false hS]
            go_wp2
            refine bodyPost_ret (v := .bool false) (by simp [results, Tryd.results13, go_sem]) rfl ?_
            exact ret_boolG (by rw [HE.out, HTT.out]; simp [Rx.topB, hS]) HB0.out
          have hse : ∀ w, (Op.equalIn 10000 25 (.agg #[.int .u64 ((S).a.toNat : Int), .int .u64 ((S).b.toNat : Int), .int .u64 ((S).c.toNat : Int), .int .u64 ((S).d.toNat : Int)]) (.agg #[.int .u64 0, .int .u64 0, .int .u64 0, .int .u64 0])).run Tryd.prog w = .ok true w := fun w => by rw [set_none, decide_eq_true hS]
          have HS := hid_mk hS
          clear hS
          by_cases hln : kids.length = 1
          case neg =>
            have g : (kids.length == 1) = false := beq_eq_false_iff_ne.2 hln
            have g2 : ((kids.length : Int) == 1) = false := beq_eq_false_iff_ne.2 (by omega)
            go_wp2
            refine bodyPost_ret (v := .bool false) (by simp [results, Tryd.results13, go_sem]) rfl ?_
            exact ret_boolG (by rw [HE.out, HTT.out]; simp [Rx.topB, HS.out, hln]) HB0.out
          have g : (kids.length == 1) = true := by simpa using hln
          have g2 : ((kids.length : Int) == 1) = true := by simp [hln]
          have HTM := hide (fun w => ptimes_any mn mx w)
          cases hti : Rx.timesB mn mx with
          | true =>
            rw [hti] at HTM
            have HTI := hid_mk hti
            clear hti
            go_wp2_with fail
            refine (unhide HTM _).mono ?_
            rintro e w2 ⟨rfl, rfl⟩
            go_wp2
            refine bodyPost_ret (v := .bool true) (by simp [results, Tryd.results13, go_sem]) rfl ?_
            exact ret_boolG (by rw [HE.out, HTT.out]; simp [Rx.topB, HS.out, hln, HTI.out]) HB0.out
          | false =>
            rw [hti] at HTM
            have HTI := hid_mk hti
            clear hti
            go_wp2_with fail
            refine (unhide HTM _).mono ?_
            rintro e w2 ⟨rfl, rfl⟩
            go_wp2
            refine bodyPost_ret (v := .bool false) (by simp [results, Tryd.results13, go_sem]) rfl ?_
            exact ret_boolG (by rw [HE.out, HTT.out]; simp [Rx.topB, HS.out, hln, HTI.out]) HB0.out
        have b1 : (kd == 1) = false := by simpa using hk1
        have b2 : (kd == 2) = false := by simpa using hk2
        have b3 : (kd == 3) = false := by simpa using hk3
        have b4 : (kd == 4) = false := by simpa using hk4
        have c1 : (kd != 1) = true := by simpa using hk1
        have c4 : (kd != 4) = true := by simpa using hk4
        by_cases hS : S = CSet.empty
        case neg =>
          have hse : ∀ w, (Op.equalIn 10000 25 (.agg #[.int .u64 ((S).a.toNat : Int), .int .u64 ((S).b.toNat : Int), .int .u64 ((S).c.toNat : Int), .int .u64 ((S).d.toNat : Int)]) (.agg #[.int .u64 0, .int .u64 0, .int .u64 0, .int .u64 0])).run Tryd.prog w = .ok false w := fun w => by rw [set_none, decide_eq_false hS]
          go_wp2
          refine bodyPost_ret (v := .bool false) (by simp [results, Tryd.results13, go_sem]) rfl ?_
          exact ret_boolG (by rw [HE.out, HTT.out]; simp [Rx.topB, hS, hk1, hk2, hk3, hk4]) HB0.out
        have hse : ∀ w, (Op.equalIn 10000 25 (.agg #[.int .u64 ((S).a.toNat : Int), .int .u64 ((S).b.toNat : Int), .int .u64 ((S).c.toNat : Int), .int .u64 ((S).d.toNat : Int)]) (.agg #[.int .u64 0, .int .u64 0, .int .u64 0, .int .u64 0])).run Tryd.prog w = .ok true w := fun w => by rw [set_none, decide_eq_true hS]
        have HS := hid_mk hS
        clear hS
        by_cases hmn : mn = 0
        case neg =>
          have hmb : (mn != 0) = true := by simpa using hmn
          go_wp2
          refine bodyPost_ret (v := .bool false) (by simp [results, Tryd.results13, go_sem]) rfl ?_
          exact ret_boolG (by rw [HE.out, HTT.out]; simp [Rx.topB, hk1, hk2, hk3, hk4, hmn]) HB0.out
        by_cases hmx : mx = 0
        case neg =>
          subst hmn
          have hxb : (mx != 0) = true := by simpa using hmx
          go_wp2
          refine bodyPost_ret (v := .bool false) (by simp [results, Tryd.results13, go_sem]) rfl ?_
          exact ret_boolG (by rw [HE.out, HTT.out]; simp [Rx.topB, hk1, hk2, hk3, hk4, hmx]) HB0.out
        subst hmn hmx
        go_wp2
        refine bodyPost_ret (v := .bool false) (by simp [results, Tryd.results13, go_sem]) rfl ?_
        exact ret_boolG (by rw [HE.out, HTT.out]; simp [Rx.topB, hk1, hk2, hk3, hk4]) HB0.out
end Go.Proofs.YthgcefppeaopkaaDoor
