/- Walks: where a tenant is (program and reference). -/
import Derived.Test.YtgcgilcalmefgaaRnW2
import Derived.Test.YtgcgilcalmefgaaCmpW
namespace Go.Proofs.Ytgcgilcalmefgaa
open Go Go.RowKit Go.Sort
set_option maxRecDepth 100000
set_option linter.unusedSimpArgs false
set_option linter.unusedVariables false
set_option maxHeartbeats 2000000
theorem bytes_beq (a b : ByteArray) : (a.toList == b.toList) = decide (a = b) := by
  rw [toList_dat, toList_dat, Bool.eq_iff_iff, beq_iff_eq, decide_eq_true_iff]
  constructor
  · intro h
    cases a; cases b
    simp at h
    rw [h]
  · intro h; rw [h]
/-- the place as a number; -1: none -/
def findI (l : List Rn.T) (n : ByteArray) : Int := match Rn.find l n with | some i => (i : Int) | none => -1
theorem findI_at {l : List Rn.T} {n : ByteArray} {k : Nat} (hk : k < l.length) (h : l[k].name = n) (hall : ∀ (i : Nat) (h : i < l.length), i < k → ¬ l[i].name = n) : findI l n = (k : Int) := by
  unfold findI Rn.find
  have : l.findIdx? (fun t => decide (t.name = n)) = some k := by
    rw [List.findIdx?_eq_some_iff_getElem]
    exact ⟨hk, by simpa using h, fun j hj => by simpa using hall j (by omega) hj⟩
  rw [this]
theorem findI_none {l : List Rn.T} {n : ByteArray} (hall : ∀ (i : Nat) (h : i < l.length), ¬ l[i].name = n) : findI l n = -1 := by
  unfold findI Rn.find
  have : l.findIdx? (fun t => decide (t.name = n)) = none := by
    rw [List.findIdx?_eq_none_iff]
    intro x hx
    obtain ⟨i, hi, rfl⟩ := List.mem_iff_getElem.1 hx
    simpa using hall i hi
  rw [this]
theorem findfn_any (t : Rn.T) (A : Option Addr) (c : Nat) (p : Nat) (n : ByteArray) (w : World) (hp : w.cell? ⟨p, 0, none⟩ = some (.string n)) (hpl : p < w.heap.size) : Calls Try.prog 44 #[.agg #[.string (t).name, .int .i64 (t).epoch, .int .i64 (t).next, .slice (A) (t).keys.length (c)], .pointer (some ⟨p, 0, none⟩)] w (RetG (.bool (decide (t.name = n))) w) := by
  have hq := bytes_beq t.name n
  generalize decide (t.name = n) = b at *
  go_enter Try.func44, Try.ntmps44
  go_wp2
  exact bodyPost_ret (v := .bool b) (by simp [results, Try.results44, go_sem]) rfl ⟨rfl, (by repeat (first | with_reducible exact Below.refl _ _ | with_reducible assumption | with_reducible refine Below.setCell ?_ (by first | omega | (dsimp only; omega) | (simp <;> omega)) _ | with_reducible refine Below.alloc ?_ (by first | omega | (simp <;> omega)) _ | with_reducible refine below_drewN ?_ _ | with_reducible refine Below.drew ?_))⟩
def FindAt (ts : List Rn.T) (n : ByteArray) (w : World) (v : Value) (wr : World) : Prop := ∃ k : Nat, v = .int .i64 (k : Nat) ∧ k ≤ ts.length ∧ (∀ (i : Nat) (h : i < ts.length), i < k → ¬ ts[i].name = n) ∧ Below w.heap.size w wr
theorem indexT_any (ts : List Rn.T) (A : Option Addr) (c : Nat) (n : ByteArray) (p : Nat) (G : Nat → Prop) (w : World) (hG : ∀ b, G b → b < w.heap.size) (hl : ts.length ≤ maxLen) (hT : TensAt G w A ts) (hp : w.cell? ⟨p, 0, none⟩ = some (.string n)) (hpl : p < w.heap.size) :
    Calls Try.prog 43 #[.slice A ts.length c, .func (.func 44) #[] #[.pointer (some ⟨p, 0, none⟩)]] w (RetG (.int .i64 (findI ts n)) w) := by
  unfold maxLen at hl
  have HT := hid_mk hT
  have HG := hid_mk hG
  have HP := hid_mk hp
  clear hT hG hp
  go_enter Try.func43, Try.ntmps43
  go_wp2
  go_loopw [8] (fun v wr => FindAt ts n w v wr) (fun v _ => ts.length - (intOf v).toNat)
  case atStart => exact ⟨0, rfl, Nat.zero_le _, fun i h hi => absurd hi (by omega), Below.refl _ _⟩
  case round =>
    obtain ⟨k, rfl, hk, hall, hb⟩ := hrel
    have HB := hid_mk hb
    have HA := hid_mk hall
    clear hall
    by_cases hlt : k < ts.length
    · have hT2 := tensAt_keep HT.out (fun b h => h) (kept_below hb HG.out)
      obtain ⟨b, o, A', c', e1, hg1, -, -, -, -, y0, y1, y2, y3⟩ := tens_at hT2 hlt
      subst e1
      have HY : Hid (ts[k].name = n → findI ts n = (k : Int)) := hid_mk (fun h => findI_at hlt h HA.out)
      have HN : Hid (¬ ts[k].name = n → ∀ (i : Nat) (h : i < ts.length), i < k + 1 → ¬ ts[i].name = n) := hid_mk (fun h i hi hik => by
        rcases Nat.lt_or_ge i k with h1 | h1
        · exact HA.out i hi h1
        · obtain rfl : i = k := by omega
          exact h)
      generalize ts[k] = q at *
      have HC := hide (findfn_any q A' c' p n wr (by rw [hb.cell (p := ⟨p, 0, none⟩) hpl]; exact HP.out) (Nat.lt_of_lt_of_le hpl hb.size))
      clear hb hT2
      by_cases hq : q.name = n
      · have HY2 := hid_mk (HY.out hq)
        rw [decide_eq_true hq] at HC
        clear hq HY HN
        go_wp2_with fail
        refine (unhide HC).mono ?_
        rintro e w3 ⟨rfl, hb3⟩
        have HB3 := hid_mk (HB.out.trans (hb3.mono HB.out.size))
        clear hb3
        go_wp2
        exact bodyPost_ret (v := .int .i64 (k : Nat)) (by simp [results, Try.results43, go_sem]) rfl ⟨by rw [HY2.out], HB3.out⟩
      · have HN2 := hid_mk (HN.out hq)
        rw [decide_eq_false hq] at HC
        clear hq HY HN
        go_wp2_with fail
        refine (unhide HC).mono ?_
        rintro e w3 ⟨rfl, hb3⟩
        have HB3 := hid_mk (HB.out.trans (hb3.mono HB.out.size))
        clear hb3
        go_wp2
        go_roundw
        case rel => exact ⟨k + 1, by go_num, by omega, HN2.out, HB3.out⟩
        case measure => simp [intOf]; omega
    · have HE := hid_mk (findI_none (fun i hi => HA.out i hi (by omega)))
      have hn : ¬ ((k : Int) < (ts.length : Int)) := by omega
      clear hb
      go_wp2
      exact bodyPost_ret (v := .int .i64 (-1)) (by simp [results, Try.results43, go_sem]) rfl ⟨by rw [HE.out], HB.out⟩
theorem pfind_any (s : Rn.S) (A : Option Addr) (c : Nat) (n : ByteArray) (G : Nat → Prop) (w : World) (hG : ∀ b, G b → b < w.heap.size) (hl : s.tens.length ≤ maxLen) (hT : TensAt G w A s.tens) :
    Calls Try.prog 18 #[.agg #[.slice (A) (s).tens.length (c), .int .i64 (s).serial], .string n] w (RetG (.int .i64 (findI s.tens n)) w) := by
  have hb0 : Below w.heap.size w ((w.alloc (.cells #[.slice (A) (s).tens.length (c), .int .i64 (s).serial] 24)).alloc (.cells #[.string n] 9)) := (by repeat (first | with_reducible exact Below.refl _ _ | with_reducible assumption | with_reducible refine Below.setCell ?_ (by first | omega | (dsimp only; omega) | (simp <;> omega)) _ | with_reducible refine Below.alloc ?_ (by first | omega | (simp <;> omega)) _ | with_reducible refine below_drewN ?_ _ | with_reducible refine Below.drew ?_))
  have HC := hide (indexT_any s.tens A c n (w.heap.size + 1) G ((w.alloc (.cells #[.slice (A) (s).tens.length (c), .int .i64 (s).serial] 24)).alloc (.cells #[.string n] 9)) (fun b hb => Nat.lt_of_lt_of_le (hG b hb) hb0.size) hl (tensAt_keep hT (fun b h => h) (kept_below hb0 hG)) (by simp [go_sem]) (by simp))
  have HB0 := hid_mk hb0
  clear hG hl hT hb0
  go_enter Try.func18, Try.ntmps18
  go_wp2_with fail
  refine (unhide HC).mono ?_
  rintro e w3 ⟨rfl, hb3⟩
  have HB3 := hid_mk (HB0.out.trans (hb3.mono HB0.out.size))
  clear hb3
  go_wp2
  exact bodyPost_ret (v := .int .i64 (findI s.tens n)) (by simp [results, Try.results18, go_sem]) rfl ⟨rfl, HB3.out⟩
theorem rfind_any (s : Rn.S) (A : Option Addr) (c : Nat) (n : ByteArray) (G : Nat → Prop) (w : World) (hG : ∀ b, G b → b < w.heap.size) (hl : s.tens.length ≤ maxLen) (hT : TensAt G w A s.tens) :
    Calls Try.prog 25 #[.agg #[.slice (A) (s).tens.length (c), .int .i64 (s).serial], .string n] w (RetG (.int .i64 (findI s.tens n)) w) := by
  have hb0 : Below w.heap.size w (w.alloc (.cells #[.slice (A) (s).tens.length (c), .int .i64 (s).serial] 24)) := (by repeat (first | with_reducible exact Below.refl _ _ | with_reducible assumption | with_reducible refine Below.setCell ?_ (by first | omega | (dsimp only; omega) | (simp <;> omega)) _ | with_reducible refine Below.alloc ?_ (by first | omega | (simp <;> omega)) _ | with_reducible refine below_drewN ?_ _ | with_reducible refine Below.drew ?_))
  unfold maxLen at hl
  have HT := hid_mk hT
  have HG := hid_mk hG
  have HX0 := hid_mk (Blk.new w #[.slice (A) (s).tens.length (c), .int .i64 (s).serial] 24)
  have HB0 := hid_mk hb0
  clear hT hG hb0
  go_enter Try.func25, Try.ntmps25
  go_wp2
  go_loopw [5] (fun v wr => FindAt s.tens n (w.alloc (.cells #[.slice (A) (s).tens.length (c), .int .i64 (s).serial] 24)) v wr) (fun v _ => s.tens.length - (intOf v).toNat)
  case atStart => exact ⟨0, rfl, Nat.zero_le _, fun i h hi => absurd hi (by omega), Below.refl _ _⟩
  case round =>
    obtain ⟨k, rfl, hk, hall, hb⟩ := hrel
    have HB := hid_mk hb
    have HBW := hid_mk (HB0.out.trans (hb.mono HB0.out.size))
    have hx := HX0.out.call hb
    (have x0 : wr.cell? ⟨w.heap.size, 0, none⟩ = some (.slice (A) (s).tens.length (c)) := hx.cell 0; have x1 : wr.cell? ⟨w.heap.size, 1, none⟩ = some (.int .i64 (s).serial) := hx.cell 1; have xf : ∀ i, wr.frozen? ⟨w.heap.size, i, none⟩ = false := hx.frozen)
    have HA := hid_mk hall
    clear hall hx
    by_cases hlt : k < s.tens.length
    · have hT2 := tensAt_keep HT.out (fun b h => h) (kept_below HBW.out HG.out)
      obtain ⟨b, o, A', c', e1, hg1, -, -, -, -, y0, y1, y2, y3⟩ := tens_at hT2 hlt
      subst e1
      have HY : Hid (s.tens[k].name = n → findI s.tens n = (k : Int)) := hid_mk (fun h => findI_at hlt h HA.out)
      have HN : Hid (¬ s.tens[k].name = n → ∀ (i : Nat) (h : i < s.tens.length), i < k + 1 → ¬ s.tens[i].name = n) := hid_mk (fun h i hi hik => by
        rcases Nat.lt_or_ge i k with h1 | h1
        · exact HA.out i hi h1
        · obtain rfl : i = k := by omega
          exact h)
      generalize s.tens[k] = q at *
      have hbq := bytes_beq q.name n
      clear hb hT2
      by_cases hq : q.name = n
      · have HY2 := hid_mk (HY.out hq)
        rw [decide_eq_true hq] at hbq
        clear hq HY HN
        go_wp2
        exact bodyPost_ret (v := .int .i64 (k : Nat)) (by simp [results, Try.results25, go_sem]) rfl ⟨by rw [HY2.out], HBW.out⟩
      · have HN2 := hid_mk (HN.out hq)
        rw [decide_eq_false hq] at hbq
        clear hq HY HN
        go_wp2
        go_roundw
        case rel => exact ⟨k + 1, by go_num, by omega, HN2.out, HB.out⟩
        case measure => simp [intOf]; omega
    · have HE := hid_mk (findI_none (fun i hi => HA.out i hi (by omega)))
      have hn : ¬ ((k : Int) < (s.tens.length : Int)) := by omega
      clear hb
      go_wp2
      exact bodyPost_ret (v := .int .i64 (-1)) (by simp [results, Try.results25, go_sem]) rfl ⟨by rw [HE.out], HBW.out⟩
end Go.Proofs.Ytgcgilcalmefgaa
