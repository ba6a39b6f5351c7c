/- Walks: may a tenant be, may a state be (program). -/
import Derived.Test.YtgcgilcalmefgaaRnW
import Derived.Test.YtgcgilcalmefgaaNameW3
namespace Go.Proofs.Ytgcgilcalmefgaa
open Go Go.RowKit Go.Sort
open Nm (word_any)
set_option maxRecDepth 100000
set_option linter.unusedSimpArgs false
set_option linter.unusedVariables false
set_option maxHeartbeats 2000000
theorem tenB_word {t : Rn.T} (h : Nm.wordB t.name.data.toList = false) : Rn.tenB t = false := by unfold Rn.tenB; rw [h]; rfl
theorem tenB_epoch {t : Rn.T} (h : Rn.fromB t.epoch 0 = false) : Rn.tenB t = false := by unfold Rn.tenB; rw [h]; simp
theorem tenB_next {t : Rn.T} (h : Rn.fromB t.next 1 = false) : Rn.tenB t = false := by unfold Rn.tenB; rw [h]; simp
theorem tenB_len {t : Rn.T} (h : ¬ t.keys.length ≤ 8) : Rn.tenB t = false := by unfold Rn.tenB; simp [h]
theorem tenB_key {t : Rn.T} {k : Nat} (hk : k < t.keys.length) (h : Rn.keyB t.next t.keys[k] = false) : Rn.tenB t = false := by
  have : t.keys.all (Rn.keyB t.next) = false := by
    rw [List.all_eq_false]
    exact ⟨_, List.getElem_mem hk, by rw [h]; decide⟩
  unfold Rn.tenB
  rw [this]
  simp
theorem tenB_last {t : Rn.T} (h1 : Nm.wordB t.name.data.toList = true) (h2 : Rn.fromB t.epoch 0 = true) (h3 : Rn.fromB t.next 1 = true) (h4 : t.keys.length ≤ 8) (h5 : ∀ (i : Nat) (h : i < t.keys.length), Rn.keyB t.next t.keys[i] = true) : Rn.tenB t = Rn.rises Rn.ltK t.keys := by
  have : t.keys.all (Rn.keyB t.next) = true := by
    rw [List.all_eq_true]
    intro x hx
    obtain ⟨i, hi, rfl⟩ := List.mem_iff_getElem.1 hx
    exact h5 i hi
  unfold Rn.tenB
  rw [h1, h2, h3, this]
  simp [h4]
def PTenAt (t : Rn.T) (w : World) (v : Value) (wr : World) : Prop := ∃ k : Nat, v = .int .i64 (k : Nat) ∧ k ≤ t.keys.length ∧ (∀ (i : Nat) (h : i < t.keys.length), i < k → Rn.keyB t.next t.keys[i] = true) ∧ Below w.heap.size w wr
theorem pten_any (t : Rn.T) (A : Option Addr) (c : Nat) (G : Nat → Prop) (w : World) (hG : ∀ b, G b → b < w.heap.size) (hn : t.name.size ≤ maxLen) (hl : t.keys.length ≤ maxLen) (hK : KeysAt G w A t.keys) :
    Calls Try.prog 36 #[.agg #[.string (t).name, .int .i64 (t).epoch, .int .i64 (t).next, .slice (A) (t).keys.length (c)]] w (RetG (.bool (Rn.tenB t)) w) := by
  have hb0 : Below w.heap.size w (w.alloc (.cells #[.string (t).name, .int .i64 (t).epoch, .int .i64 (t).next, .slice (A) (t).keys.length (c)] 38)) := (Below.refl _ _).alloc (Nat.le_refl _) _
  have HWD := hide (word_any t.name (w.alloc (.cells #[.string (t).name, .int .i64 (t).epoch, .int .i64 (t).next, .slice (A) (t).keys.length (c)] 38)) hn)
  have HF0 := hide (fun w => from_any t.epoch 0 w)
  have HF1 := hide (fun w => from_any t.next 1 w)
  have HB0 := hid_mk hb0
  have HG := hid_mk hG
  have HK := hid_mk hK
  unfold maxLen at hl
  clear hG hK hb0 hn
  cases hw : Nm.wordB t.name.data.toList with
  | false =>
    have HE := hid_mk (tenB_word hw)
    rw [hw] at HWD
    clear hw
    go_enter Try.func36, Try.ntmps36
    go_wp2_with fail
    refine (unhide HWD).mono ?_
    rintro e w1 ⟨rfl, hb1⟩
    have HB1 := hid_mk (HB0.out.trans (hb1.mono HB0.out.size))
    clear hb1
    go_wp2
    exact bodyPost_ret (v := .bool false) (by simp [results, Try.results36, go_sem]) rfl ⟨by rw [HE.out], HB1.out⟩
  | true =>
  rw [hw] at HWD
  have HW1 := hid_mk hw
  clear hw
  cases h0 : Rn.fromB t.epoch 0 with
  | false =>
    have HE := hid_mk (tenB_epoch h0)
    rw [h0] at HF0
    clear h0
    go_enter Try.func36, Try.ntmps36
    go_wp2_with fail
    refine (unhide HWD).mono ?_
    rintro e w1 ⟨rfl, hb1⟩
    have HB1 := hid_mk (HB0.out.trans (hb1.mono HB0.out.size))
    have hx := (Blk.new w #[.string (t).name, .int .i64 (t).epoch, .int .i64 (t).next, .slice (A) (t).keys.length (c)] 38).call hb1
    (have x0 : w1.cell? ⟨w.heap.size, 0, none⟩ = some (.string (t).name) := hx.cell 0; have x1 : w1.cell? ⟨w.heap.size, 1, none⟩ = some (.int .i64 (t).epoch) := hx.cell 1; have x2 : w1.cell? ⟨w.heap.size, 2, none⟩ = some (.int .i64 (t).next) := hx.cell 2; have x3 : w1.cell? ⟨w.heap.size, 3, none⟩ = some (.slice (A) (t).keys.length (c)) := hx.cell 3; have xf : ∀ i, w1.frozen? ⟨w.heap.size, i, none⟩ = false := hx.frozen)
    clear hb1 hx
    go_wp2_with fail
    refine (unhide HF0 _).mono ?_
    rintro e w2 ⟨rfl, rfl⟩
    go_wp2
    exact bodyPost_ret (v := .bool false) (by simp [results, Try.results36, go_sem]) rfl ⟨by rw [HE.out], HB1.out⟩
  | true =>
  rw [h0] at HF0
  have HW2 := hid_mk h0
  clear h0
  cases h1 : Rn.fromB t.next 1 with
  | false =>
    have HE := hid_mk (tenB_next h1)
    rw [h1] at HF1
    clear h1
    go_enter Try.func36, Try.ntmps36
    go_wp2_with fail
    refine (unhide HWD).mono ?_
    rintro e w1 ⟨rfl, hb1⟩
    have HB1 := hid_mk (HB0.out.trans (hb1.mono HB0.out.size))
    have hx := (Blk.new w #[.string (t).name, .int .i64 (t).epoch, .int .i64 (t).next, .slice (A) (t).keys.length (c)] 38).call hb1
    (have x0 : w1.cell? ⟨w.heap.size, 0, none⟩ = some (.string (t).name) := hx.cell 0; have x1 : w1.cell? ⟨w.heap.size, 1, none⟩ = some (.int .i64 (t).epoch) := hx.cell 1; have x2 : w1.cell? ⟨w.heap.size, 2, none⟩ = some (.int .i64 (t).next) := hx.cell 2; have x3 : w1.cell? ⟨w.heap.size, 3, none⟩ = some (.slice (A) (t).keys.length (c)) := hx.cell 3; have xf : ∀ i, w1.frozen? ⟨w.heap.size, i, none⟩ = false := hx.frozen)
    clear hb1 hx
    go_wp2_with fail
    refine (unhide HF0 _).mono ?_
    rintro e w2 ⟨rfl, rfl⟩
    go_wp2_with fail
    refine (unhide HF1 _).mono ?_
    rintro e w2 ⟨rfl, rfl⟩
    go_wp2
    exact bodyPost_ret (v := .bool false) (by simp [results, Try.results36, go_sem]) rfl ⟨by rw [HE.out], HB1.out⟩
  | true =>
  rw [h1] at HF1
  have HW3 := hid_mk h1
  clear h1
  by_cases h8 : t.keys.length ≤ 8
  case neg =>
    have HE := hid_mk (tenB_len h8)
    have f8 : decide (8 < t.keys.length) = true := by simp; omega
    have f8' : decide ((8 : Int) < (t.keys.length : Int)) = true := by simp; omega
    clear h8
    go_enter Try.func36, Try.ntmps36
    go_wp2_with fail
    refine (unhide HWD).mono ?_
    rintro e w1 ⟨rfl, hb1⟩
    have HB1 := hid_mk (HB0.out.trans (hb1.mono HB0.out.size))
    have hx := (Blk.new w #[.string (t).name, .int .i64 (t).epoch, .int .i64 (t).next, .slice (A) (t).keys.length (c)] 38).call hb1
    (have x0 : w1.cell? ⟨w.heap.size, 0, none⟩ = some (.string (t).name) := hx.cell 0; have x1 : w1.cell? ⟨w.heap.size, 1, none⟩ = some (.int .i64 (t).epoch) := hx.cell 1; have x2 : w1.cell? ⟨w.heap.size, 2, none⟩ = some (.int .i64 (t).next) := hx.cell 2; have x3 : w1.cell? ⟨w.heap.size, 3, none⟩ = some (.slice (A) (t).keys.length (c)) := hx.cell 3; have xf : ∀ i, w1.frozen? ⟨w.heap.size, i, none⟩ = false := hx.frozen)
    clear hb1 hx
    go_wp2_with fail
    refine (unhide HF0 _).mono ?_
    rintro e w2 ⟨rfl, rfl⟩
    go_wp2_with fail
    refine (unhide HF1 _).mono ?_
    rintro e w2 ⟨rfl, rfl⟩
    go_wp2
    exact bodyPost_ret (v := .bool false) (by simp [results, Try.results36, go_sem]) rfl ⟨by rw [HE.out], HB1.out⟩
  case pos =>
    have f8 : decide (8 < t.keys.length) = false := by simp; omega
    have f8' : decide ((8 : Int) < (t.keys.length : Int)) = false := by simp; omega
    have H8 := hid_mk h8
    go_enter Try.func36, Try.ntmps36
    go_wp2_with fail
    refine (unhide HWD).mono ?_
    rintro e w1 ⟨rfl, hb1⟩
    have HB1 := hid_mk (HB0.out.trans (hb1.mono HB0.out.size))
    have HX := hid_mk ((Blk.new w #[.string (t).name, .int .i64 (t).epoch, .int .i64 (t).next, .slice (A) (t).keys.length (c)] 38).call hb1)
    (have x0 : w1.cell? ⟨w.heap.size, 0, none⟩ = some (.string (t).name) := HX.out.cell 0; have x1 : w1.cell? ⟨w.heap.size, 1, none⟩ = some (.int .i64 (t).epoch) := HX.out.cell 1; have x2 : w1.cell? ⟨w.heap.size, 2, none⟩ = some (.int .i64 (t).next) := HX.out.cell 2; have x3 : w1.cell? ⟨w.heap.size, 3, none⟩ = some (.slice (A) (t).keys.length (c)) := HX.out.cell 3; have xf : ∀ i, w1.frozen? ⟨w.heap.size, i, none⟩ = false := HX.out.frozen)
    clear hb1
    go_wp2_with fail
    refine (unhide HF0 _).mono ?_
    rintro e w2 ⟨rfl, rfl⟩
    go_wp2_with fail
    refine (unhide HF1 _).mono ?_
    rintro e w2 ⟨rfl, rfl⟩
    go_wp2
    clear x0 x1 x2 x3 xf f8 f8'
    go_loopw [30] (fun v wr => PTenAt t w1 v wr) (fun v _ => t.keys.length - (intOf v).toNat)
    case atStart => exact ⟨0, rfl, Nat.zero_le _, fun i h hi => absurd hi (by omega), Below.refl _ _⟩
    case round =>
      obtain ⟨k, rfl, hk, hall, hb⟩ := hrel
      have HA := hid_mk hall
      have HB := hid_mk hb
      have HXR := hid_mk (HX.out.call hb)
      (have x0 : wr.cell? ⟨w.heap.size, 0, none⟩ = some (.string (t).name) := HXR.out.cell 0; have x1 : wr.cell? ⟨w.heap.size, 1, none⟩ = some (.int .i64 (t).epoch) := HXR.out.cell 1; have x2 : wr.cell? ⟨w.heap.size, 2, none⟩ = some (.int .i64 (t).next) := HXR.out.cell 2; have x3 : wr.cell? ⟨w.heap.size, 3, none⟩ = some (.slice (A) (t).keys.length (c)) := HXR.out.cell 3; have xf : ∀ i, wr.frozen? ⟨w.heap.size, i, none⟩ = false := HXR.out.frozen)
      have HBW := hid_mk (HB1.out.trans (hb.mono HB1.out.size))
      have hzw : w.heap.size < wr.heap.size := HXR.out.lt
      clear hall
      by_cases hlt : k < t.keys.length
      · have hK2 := keysAt_keep HK.out (fun b h => h) (kept_below HBW.out HG.out)
        obtain ⟨b, o, e1, hg1, hs1, y0, y1⟩ := keys_at hK2 hlt
        have hbw : b < wr.heap.size := Nat.lt_of_lt_of_le (HG.out b hg1) HBW.out.size
        subst e1
        have HN : Hid (Rn.keyB t.next t.keys[k] = false → Rn.tenB t = false) := hid_mk (fun h => tenB_key hlt h)
        have HY : Hid (Rn.keyB t.next t.keys[k] = true → ∀ (i : Nat) (h : i < t.keys.length), i < k + 1 → Rn.keyB t.next t.keys[i] = true) := hid_mk (fun h i hi hik => by
          rcases Nat.lt_or_ge i k with h1 | h1
          · exact HA.out i hi h1
          · obtain rfl : i = k := by omega
            exact h)
        generalize t.keys[k] = p at *
        unfold Rn.keyB at HN HY
        clear hb hK2
        by_cases g1 : p.num < 1
        · have HN2 := hid_mk (HN.out (by simp [g1]))
          have d1 : decide (p.num < 1) = true := by simpa using g1
          clear HN HY
          go_wp2
          exact bodyPost_ret (v := .bool false) (by simp [results, Try.results36, go_sem]) rfl ⟨by rw [HN2.out], by have hbb := HBW.out; have := hbb.size; exact (by repeat (first | with_reducible exact Below.refl _ _ | with_reducible assumption | with_reducible refine Below.setCell ?_ (by first | omega | (dsimp only; omega) | (simp <;> omega)) _ | with_reducible refine Below.alloc ?_ (by first | omega | (simp <;> omega)) _ | with_reducible refine below_drewN ?_ _ | with_reducible refine Below.drew ?_))⟩
        have d1 : decide (p.num < 1) = false := by simpa using g1
        by_cases g2 : t.next ≤ p.num
        · have HN2 := hid_mk (HN.out (by simp [g2]))
          have d2 : decide (t.next ≤ p.num) = true := by simpa using g2
          clear HN HY
          go_wp2
          exact bodyPost_ret (v := .bool false) (by simp [results, Try.results36, go_sem]) rfl ⟨by rw [HN2.out], by have hbb := HBW.out; have := hbb.size; exact (by repeat (first | with_reducible exact Below.refl _ _ | with_reducible assumption | with_reducible refine Below.setCell ?_ (by first | omega | (dsimp only; omega) | (simp <;> omega)) _ | with_reducible refine Below.alloc ?_ (by first | omega | (simp <;> omega)) _ | with_reducible refine below_drewN ?_ _ | with_reducible refine Below.drew ?_))⟩
        have d2 : decide (t.next ≤ p.num) = false := by simpa using g2
        by_cases g3 : p.txt.size = 32
        · have HY2 := hid_mk (HY.out (by simp [g1, g2, g3]))
          have d3 : ((p.txt.size : Int) != 32) = false := by simp [g3]
          clear HN HY
          have HG3 := hid_mk g3
          clear g3
          go_wp2
          go_roundw
          case rel => exact ⟨k + 1, by go_num, by omega, HY2.out, by have hbb := HB.out; have := hbb.size; exact (by repeat (first | with_reducible exact Below.refl _ _ | with_reducible assumption | with_reducible refine Below.setCell ?_ (by first | omega | (dsimp only; omega) | (simp <;> omega)) _ | with_reducible refine Below.alloc ?_ (by first | omega | (simp <;> omega)) _ | with_reducible refine below_drewN ?_ _ | with_reducible refine Below.drew ?_))⟩
          case measure => simp [intOf]; omega
        · have HN2 := hid_mk (HN.out (by simp [g3]))
          have d3 : ((p.txt.size : Int) != 32) = true := by simp; omega
          clear HN HY
          go_wp2
          exact bodyPost_ret (v := .bool false) (by simp [results, Try.results36, go_sem]) rfl ⟨by rw [HN2.out], by have hbb := HBW.out; have := hbb.size; exact (by repeat (first | with_reducible exact Below.refl _ _ | with_reducible assumption | with_reducible refine Below.setCell ?_ (by first | omega | (dsimp only; omega) | (simp <;> omega)) _ | with_reducible refine Below.alloc ?_ (by first | omega | (simp <;> omega)) _ | with_reducible refine below_drewN ?_ _ | with_reducible refine Below.drew ?_))⟩
      · have HE := hid_mk (tenB_last HW1.out HW2.out HW3.out H8.out (fun i hi => HA.out i hi (by omega)))
        have hn : ¬ ((k : Int) < (t.keys.length : Int)) := by omega
        have HRS := hide (risesK_any t.keys A c G wr (fun b hb' => Nat.lt_of_lt_of_le (HG.out b hb') HBW.out.size) (by unfold maxLen; omega) (keysAt_keep HK.out (fun b h => h) (kept_below HBW.out HG.out)))
        clear hb
        go_wp2_with fail
        refine (unhide HRS).mono ?_
        rintro e w3 ⟨rfl, hb3⟩
        have HB3 := hid_mk (HBW.out.trans (hb3.mono HBW.out.size))
        clear hb3
        go_wp2
        exact bodyPost_ret (v := .bool (Rn.rises Rn.ltK t.keys)) (by simp [results, Try.results36, go_sem]) rfl ⟨by rw [HE.out], HB3.out⟩
end Go.Proofs.Ytgcgilcalmefgaa
