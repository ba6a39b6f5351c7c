/- Walks: the text of a key, the last key (program and reference). -/
import Derived.Test.YtgcgilcalmefgaaRnG
namespace Go.Proofs.Ytgcgilcalmefgaa
open Go Go.RowKit Go.Sort
set_option maxRecDepth 100000
set_option linter.unusedSimpArgs false
set_option linter.unusedVariables false
set_option maxHeartbeats 2000000
/-- the place of a key as a number; -1: none -/
def keyI (l : List Rn.K) (n : Int) : Int := match l.findIdx? (fun k => decide (k.num = n)) with | some i => (i : Int) | none => -1
theorem keyI_at {l : List Rn.K} {n : Int} {k : Nat} (hk : k < l.length) (h : l[k].num = n) (hall : ∀ (i : Nat) (h : i < l.length), i < k → ¬ l[i].num = n) : keyI l n = (k : Int) := by
  unfold keyI
  have : l.findIdx? (fun t => decide (t.num = n)) = some k := by
    rw [List.findIdx?_eq_some_iff_getElem]
    exact ⟨hk, by simpa using h, fun j hj => by simpa using hall j (by omega) hj⟩
  rw [this]
theorem keyI_none {l : List Rn.K} {n : Int} (hall : ∀ (i : Nat) (h : i < l.length), ¬ l[i].num = n) : keyI l n = -1 := by
  unfold keyI
  have : l.findIdx? (fun t => decide (t.num = n)) = none := by
    rw [List.findIdx?_eq_none_iff]
    intro x hx
    obtain ⟨i, hi, rfl⟩ := List.mem_iff_getElem.1 hx
    simpa using hall i hi
  rw [this]
theorem findI_cases (l : List Rn.T) (n : ByteArray) : findI l n = -1 ∨ ∃ i, i < l.length ∧ findI l n = (i : Int) := by
  unfold findI Rn.find
  cases h : l.findIdx? (fun t => decide (t.name = n)) with
  | none => exact Or.inl rfl
  | some i => exact Or.inr ⟨i, (List.findIdx?_eq_some_iff_getElem.1 h).1, rfl⟩
theorem keyI_cases (l : List Rn.K) (n : Int) : keyI l n = -1 ∨ ∃ i, i < l.length ∧ keyI l n = (i : Int) := by
  unfold keyI
  cases h : l.findIdx? (fun t => decide (t.num = n)) with
  | none => exact Or.inl rfl
  | some i => exact Or.inr ⟨i, (List.findIdx?_eq_some_iff_getElem.1 h).1, rfl⟩
/-- the keys at a tenant's place -/
def keysOf (s : Rn.S) (n : ByteArray) : List Rn.K := match s.tens[(findI s.tens n).toNat]? with | some t => t.keys | none => []
/-- the text of a key, and whether it is there -/
def keyRes (s : Rn.S) (n : ByteArray) (num : Int) : ByteArray × Bool :=
  if findI s.tens n = -1 then (⟨#[]⟩, false) else match (keysOf s n)[(keyI (keysOf s n) num).toNat]? with | some k => if keyI (keysOf s n) num = -1 then (⟨#[]⟩, false) else (k.txt, true) | none => (⟨#[]⟩, false)
/-- the last key, and whether there is one -/
def newRes (s : Rn.S) (n : ByteArray) : Rn.K × Bool :=
  if findI s.tens n = -1 then (⟨0, ⟨#[]⟩⟩, false) else match (keysOf s n).getLast? with | some k => (k, true) | none => (⟨0, ⟨#[]⟩⟩, false)
theorem keyRes_none {s : Rn.S} {n : ByteArray} {num : Int} (h : findI s.tens n = -1) : keyRes s n num = (⟨#[]⟩, false) := by unfold keyRes; rw [if_pos h]
theorem keysOf_at {s : Rn.S} {n : ByteArray} {i : Nat} (hi : i < s.tens.length) (h : findI s.tens n = (i : Int)) : keysOf s n = s.tens[i].keys := by
  unfold keysOf
  rw [h, Int.toNat_natCast, List.getElem?_eq_getElem hi]
theorem keyRes_no {s : Rn.S} {n : ByteArray} {num : Int} {i : Nat} (hi : i < s.tens.length) (h : findI s.tens n = (i : Int)) (hk : keyI s.tens[i].keys num = -1) : keyRes s n num = (⟨#[]⟩, false) := by
  unfold keyRes
  rw [if_neg (by omega), keysOf_at hi h, hk]
  split <;> simp
theorem keyRes_yes {s : Rn.S} {n : ByteArray} {num : Int} {i k : Nat} (hi : i < s.tens.length) (h : findI s.tens n = (i : Int)) (hl : k < s.tens[i].keys.length) (hk : keyI s.tens[i].keys num = (k : Int)) : keyRes s n num = (s.tens[i].keys[k].txt, true) := by
  unfold keyRes
  rw [if_neg (by omega), keysOf_at hi h, hk, Int.toNat_natCast, List.getElem?_eq_getElem hl]
  dsimp only
  rw [if_neg (by omega)]
theorem newRes_none {s : Rn.S} {n : ByteArray} (h : findI s.tens n = -1) : newRes s n = (⟨0, ⟨#[]⟩⟩, false) := by unfold newRes; rw [if_pos h]
theorem newRes_nil {s : Rn.S} {n : ByteArray} {i : Nat} (hi : i < s.tens.length) (h : findI s.tens n = (i : Int)) (hk : s.tens[i].keys.length = 0) : newRes s n = (⟨0, ⟨#[]⟩⟩, false) := by
  unfold newRes
  rw [if_neg (by omega), keysOf_at hi h, List.eq_nil_of_length_eq_zero hk]
  rfl
theorem newRes_last {s : Rn.S} {n : ByteArray} {i k : Nat} (hi : i < s.tens.length) (h : findI s.tens n = (i : Int)) (hk : k < s.tens[i].keys.length) (hl : s.tens[i].keys.length = k + 1) : newRes s n = (s.tens[i].keys[k], true) := by
  unfold newRes
  rw [if_neg (by omega), keysOf_at hi h, List.getLast?_eq_getElem?, hl, Nat.add_sub_cancel, List.getElem?_eq_getElem hk]
def KeyAt (ks : List Rn.K) (n : Int) (w : World) (v : Value) (wr : World) : Prop := ∃ k : Nat, v = .int .i64 (k : Nat) ∧ k ≤ ks.length ∧ (∀ (i : Nat) (h : i < ks.length), i < k → ¬ ks[i].num = n) ∧ Below w.heap.size w wr
theorem pkey_any (s : Rn.S) (A : Option Addr) (c : Nat) (n : ByteArray) (num : Int) (G : Nat → Prop) (w : World) (hG : ∀ b, G b → b < w.heap.size) (hl : s.tens.length ≤ maxLen) (hT : TensAt G w A s.tens) :
    Calls Try.prog 21 #[.agg #[.slice (A) (s).tens.length (c), .int .i64 (s).serial], .string n, .int .i64 num] w (RetG (.tuple #[.string (keyRes s n num).1, .bool (keyRes s n num).2]) w) := by
  have hb0 : Below w.heap.size w (w.alloc (.cells #[.slice (A) (s).tens.length (c), .int .i64 (s).serial] 24)) := (by repeat (first | with_reducible exact Below.refl _ _ | with_reducible assumption | with_reducible refine Below.setCell ?_ (by first | omega | (dsimp only; omega) | (simp <;> omega)) _ | with_reducible refine Below.alloc ?_ (by first | omega | (simp <;> omega)) _ | with_reducible refine below_drewN ?_ _ | with_reducible refine Below.drew ?_))
  have HC := hide (pfind_any s A c n G (w.alloc (.cells #[.slice (A) (s).tens.length (c), .int .i64 (s).serial] 24)) (fun b hb => Nat.lt_of_lt_of_le (hG b hb) hb0.size) hl (tensAt_keep hT (fun b h => h) (kept_below hb0 hG)))
  have HX0 := hid_mk (Blk.new w #[.slice (A) (s).tens.length (c), .int .i64 (s).serial] 24)
  have HB0 := hid_mk hb0
  have HT := hid_mk hT
  have HG := hid_mk hG
  unfold maxLen at hl
  clear hG hT hb0
  rcases findI_cases s.tens n with hf | ⟨i, hi, hf⟩
  · have HE := hid_mk (keyRes_none (num := num) hf)
    rw [HE.out]
    rw [hf] at HC
    clear hf
    go_enter Try.func21, Try.ntmps21
    go_wp2_with fail
    refine (unhide HC).mono ?_
    rintro e w3 ⟨rfl, hb3⟩
    have HB3 := hid_mk (HB0.out.trans (hb3.mono HB0.out.size))
    clear hb3
    go_wp2
    exact bodyPost_ret (v := .tuple #[.string ⟨#[]⟩, .bool false]) (by simp [results, Try.results21, go_sem]) rfl ⟨rfl, HB3.out⟩
  · rw [hf] at HC
    have HNO : Hid (keyI s.tens[i].keys num = -1 → keyRes s n num = (⟨#[]⟩, false)) := hid_mk (keyRes_no hi hf)
    have HYE : Hid (∀ (k : Nat) (hl : k < s.tens[i].keys.length), keyI s.tens[i].keys num = (k : Int) → keyRes s n num = (s.tens[i].keys[k].txt, true)) := hid_mk (fun k hl hk => keyRes_yes hi hf hl hk)
    clear hf
    have i0 : (0 : Int) ≤ (i : Int) := by omega
    go_enter Try.func21, Try.ntmps21
    go_wp2_with fail
    refine (unhide HC).mono ?_
    rintro e w3 ⟨rfl, hb3⟩
    have HB3 := hid_mk (HB0.out.trans (hb3.mono HB0.out.size))
    have hx := HX0.out.call hb3
    (have x0 : w3.cell? ⟨w.heap.size, 0, none⟩ = some (.slice (A) (s).tens.length (c)) := hx.cell 0; have x1 : w3.cell? ⟨w.heap.size, 1, none⟩ = some (.int .i64 (s).serial) := hx.cell 1; have xf : ∀ i, w3.frozen? ⟨w.heap.size, i, none⟩ = false := hx.frozen)
    clear hb3 hx
    have hT2 := tensAt_keep HT.out (fun b h => h) (kept_below HB3.out HG.out)
    obtain ⟨b, o, A', c', e1, hg1, hft, hkl, hsn, hks, y0, y1, y2, y3⟩ := tens_at hT2 hi
    subst e1
    generalize s.tens[i].keys = ks at *
    have HK := hid_mk hks
    unfold maxLen at hkl
    clear hT2 hks hft hsn y0 y1 y2
    go_wp2
    clear x0 x1 xf y3
    go_loopw [23] (fun v wr => KeyAt ks num w3 v wr) (fun v _ => ks.length - (intOf v).toNat)
    case atStart => exact ⟨0, rfl, Nat.zero_le _, fun i h hi => absurd hi (by omega), Below.refl _ _⟩
    case round =>
      obtain ⟨k, rfl, hk, hall, hb⟩ := hrel
      have HB := hid_mk hb
      have HBW := hid_mk (HB3.out.trans (hb.mono HB3.out.size))
      have HA := hid_mk hall
      clear hall
      by_cases hlt : k < ks.length
      · have hK2 := keysAt_keep HK.out (fun b h => h) (kept_below hb (fun b hb' => Nat.lt_of_lt_of_le (HG.out b hb') HB3.out.size))
        obtain ⟨kb, ko, e2, hg2, hs2, z0, z1⟩ := keys_at hK2 hlt
        have hkbw : kb < wr.heap.size := Nat.lt_of_lt_of_le (HG.out kb hg2) HBW.out.size
        subst e2
        have HY : Hid (ks[k].num = num → keyRes s n num = (ks[k].txt, true)) := hid_mk (fun h => HYE.out k hlt (keyI_at hlt h HA.out))
        have HN : Hid (¬ ks[k].num = num → ∀ (i : Nat) (h : i < ks.length), i < k + 1 → ¬ ks[i].num = num) := hid_mk (fun h i hi hik => by
          rcases Nat.lt_or_ge i k with h1 | h1
          · exact HA.out i hi h1
          · obtain rfl : i = k := by omega
            exact h)
        generalize ks[k] = q at *
        clear hb hK2 hs2
        by_cases hq : q.num = num
        · have HY2 := hid_mk (HY.out hq)
          have d1 : (q.num == num) = true := by simpa using hq
          clear hq HY HN
          go_wp2
          exact bodyPost_ret (v := .tuple #[.string q.txt, .bool true]) (by simp [results, Try.results21, go_sem]) rfl ⟨by rw [HY2.out], by have hbb := HBW.out; have := hbb.size; exact (by repeat (first | with_reducible exact Below.refl _ _ | with_reducible assumption | with_reducible refine Below.setCell ?_ (by first | omega | (dsimp only; omega) | (simp <;> omega)) _ | with_reducible refine Below.alloc ?_ (by first | omega | (simp <;> omega)) _ | with_reducible refine below_drewN ?_ _ | with_reducible refine Below.drew ?_))⟩
        · have HN2 := hid_mk (HN.out hq)
          have d1 : (q.num == num) = false := by simpa using hq
          clear hq HY HN
          go_wp2
          go_roundw
          case rel => exact ⟨k + 1, by go_num, by omega, HN2.out, by have hbb := HB.out; have := hbb.size; exact (by repeat (first | with_reducible exact Below.refl _ _ | with_reducible assumption | with_reducible refine Below.setCell ?_ (by first | omega | (dsimp only; omega) | (simp <;> omega)) _ | with_reducible refine Below.alloc ?_ (by first | omega | (simp <;> omega)) _ | with_reducible refine below_drewN ?_ _ | with_reducible refine Below.drew ?_))⟩
          case measure => simp [intOf]; omega
      · have HE := hid_mk (HNO.out (keyI_none (fun i hi => HA.out i hi (by omega))))
        have hn : ¬ ((k : Int) < (ks.length : Int)) := by omega
        clear hb
        go_wp2
        exact bodyPost_ret (v := .tuple #[.string ⟨#[]⟩, .bool false]) (by simp [results, Try.results21, go_sem]) rfl ⟨by rw [HE.out], HBW.out⟩
theorem rkeyI_any (ks : List Rn.K) (A : Option Addr) (c : Nat) (num : Int) (G : Nat → Prop) (w : World) (hG : ∀ b, G b → b < w.heap.size) (hl : ks.length ≤ maxLen) (hK : KeysAt G w A ks) :
    Calls Try.prog 33 #[.slice A ks.length c, .int .i64 num] w (Ret (.int .i64 (keyI ks num)) w) := by
  unfold maxLen at hl
  have HK := hid_mk hK
  clear hK hG
  go_enter Try.func33, Try.ntmps33
  go_wp2
  go_loop [5] (fun v => ∃ k : Nat, v = .int .i64 (k : Nat) ∧ k ≤ ks.length ∧ (∀ (i : Nat) (h : i < ks.length), i < k → ¬ ks[i].num = num)) (fun v => ks.length - (intOf v).toNat)
  case atStart => exact ⟨0, rfl, Nat.zero_le _, fun i h hi => absurd hi (by omega)⟩
  case round =>
    obtain ⟨k, rfl, hk, hall⟩ := hrel
    have HA := hid_mk hall
    clear hall
    by_cases hlt : k < ks.length
    · obtain ⟨kb, ko, e2, hg2, hs2, z0, z1⟩ := keys_at HK.out hlt
      subst e2
      have HY : Hid (ks[k].num = num → keyI ks num = (k : Int)) := hid_mk (fun h => keyI_at hlt h HA.out)
      have HN : Hid (¬ ks[k].num = num → ∀ (i : Nat) (h : i < ks.length), i < k + 1 → ¬ ks[i].num = num) := hid_mk (fun h i hi hik => by
        rcases Nat.lt_or_ge i k with h1 | h1
        · exact HA.out i hi h1
        · obtain rfl : i = k := by omega
          exact h)
      generalize ks[k] = q at *
      clear hs2
      by_cases hq : q.num = num
      · have HY2 := hid_mk (HY.out hq)
        have d1 : (q.num == num) = true := by simpa using hq
        clear hq HY HN
        go_wp2
        exact bodyPost_ret (v := .int .i64 (k : Nat)) (by simp [results, Try.results33, go_sem]) rfl ⟨by rw [HY2.out], rfl⟩
      · have HN2 := hid_mk (HN.out hq)
        have d1 : (q.num == num) = false := by simpa using hq
        clear hq HY HN
        go_wp2
        go_round
        case rel => exact ⟨k + 1, by go_num, by omega, HN2.out⟩
        case measure => simp [intOf]; omega
    · have HE := hid_mk (keyI_none (fun i hi => HA.out i hi (by omega)))
      have hn : ¬ ((k : Int) < (ks.length : Int)) := by omega
      go_wp2
      exact bodyPost_ret (v := .int .i64 (-1)) (by simp [results, Try.results33, go_sem]) rfl ⟨by rw [HE.out], rfl⟩
end Go.Proofs.Ytgcgilcalmefgaa
