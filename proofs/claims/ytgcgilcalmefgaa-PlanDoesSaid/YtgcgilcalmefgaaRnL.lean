/- Walks: the text of a key (reference), the last key (program and reference). -/
import Derived.Test.YtgcgilcalmefgaaRnK
import Derived.IntWalk
namespace Go.Proofs.Ytgcgilcalmefgaa
open Go Go.RowKit Go.Sort
set_option maxRecDepth 100000
set_option linter.unusedSimpArgs false
set_option linter.unusedVariables false
set_option maxHeartbeats 2000000
theorem rkey38_any (s : Rn.S) (A : Option Addr) (c : Nat) (n : ByteArray) (num : Int) (G : Nat → Prop) (w : World) (hG : ∀ b, G b → b < w.heap.size) (hl : s.tens.length ≤ maxLen) (hT : TensAt G w A s.tens) :
    Calls Try.prog 22 #[.agg #[.slice (A) (s).tens.length (c), .int .i64 (s).serial], .string n, .int .i64 num] w (RetG (.tuple #[.string (keyRes s n num).1, .bool (keyRes s n num).2]) w) := by
  have hb0 : Below w.heap.size w (w.alloc (.cells #[.slice (A) (s).tens.length (c), .int .i64 (s).serial] 24)) := (by repeat (first | with_reducible exact Below.refl _ _ | with_reducible assumption | with_reducible refine Below.setCell ?_ (by first | omega | (dsimp only; omega) | (simp <;> omega)) _ | with_reducible refine Below.alloc ?_ (by first | omega | (simp <;> omega)) _ | with_reducible refine below_drewN ?_ _ | with_reducible refine Below.drew ?_))
  have hb1 : Below w.heap.size w ((w.alloc (.cells #[.slice (A) (s).tens.length (c), .int .i64 (s).serial] 24)).alloc (.cells #[.int .i64 0, .string ⟨#[]⟩] 44)) := (by repeat (first | with_reducible exact Below.refl _ _ | with_reducible assumption | with_reducible refine Below.setCell ?_ (by first | omega | (dsimp only; omega) | (simp <;> omega)) _ | with_reducible refine Below.alloc ?_ (by first | omega | (simp <;> omega)) _ | with_reducible refine below_drewN ?_ _ | with_reducible refine Below.drew ?_))
  have HC := hide (fun V (hb : Below w.heap.size w V) => rfind_any s A c n G V (fun b hb' => Nat.lt_of_lt_of_le (hG b hb') hb.size) hl (tensAt_keep hT (fun b h => h) (kept_below hb hG)))
  have HX0 := hid_mk (Blk.new w #[.slice (A) (s).tens.length (c), .int .i64 (s).serial] 24)
  have HB0 := hid_mk hb0
  have HB1 := hid_mk hb1
  have HT := hid_mk hT
  have HG := hid_mk hG
  unfold maxLen at hl
  clear hG hT hb0 hb1
  rcases findI_cases s.tens n with hf | ⟨i, hi, hf⟩
  · have HE := hid_mk (keyRes_none (num := num) hf)
    rw [HE.out]
    rw [hf] at HC
    clear hf
    go_enter Try.func22, Try.ntmps22
    go_wp2_with fail
    refine (unhide HC _ HB0.out).mono ?_
    rintro e w3 ⟨rfl, hb3⟩
    have HB3 := hid_mk (HB0.out.trans (hb3.mono HB0.out.size))
    clear hb3
    go_wp2
    exact bodyPost_ret (v := .tuple #[.string ⟨#[]⟩, .bool false]) (by simp [results, Try.results22, go_sem]) rfl ⟨rfl, HB3.out⟩
  · rw [hf] at HC
    have HNO : Hid (keyI s.tens[i].keys num = -1 → keyRes s n num = (⟨#[]⟩, false)) := hid_mk (keyRes_no hi hf)
    have HYE : Hid (∀ (k : Nat) (hl : k < s.tens[i].keys.length), keyI s.tens[i].keys num = (k : Int) → keyRes s n num = (s.tens[i].keys[k].txt, true)) := hid_mk (fun k hl hk => keyRes_yes hi hf hl hk)
    clear hf
    have i0 : (0 : Int) ≤ (i : Int) := by omega
    go_enter Try.func22, Try.ntmps22
    go_wp2_with fail
    refine (unhide HC _ HB0.out).mono ?_
    rintro e w3 ⟨rfl, hb3⟩
    have HB3 := hid_mk (HB0.out.trans (hb3.mono HB0.out.size))
    have hx := HX0.out.call hb3
    (have x0 : w3.cell? ⟨w.heap.size, 0, none⟩ = some (.slice (A) (s).tens.length (c)) := hx.cell 0; have x1 : w3.cell? ⟨w.heap.size, 1, none⟩ = some (.int .i64 (s).serial) := hx.cell 1; have xf : ∀ i, w3.frozen? ⟨w.heap.size, i, none⟩ = false := hx.frozen)
    clear hb3 hx
    have hT2 := tensAt_keep HT.out (fun b h => h) (kept_below HB3.out HG.out)
    obtain ⟨b, o, A', c', e1, hg1, hft, hkl, hsn, hks, y0, y1, y2, y3⟩ := tens_at hT2 hi
    subst e1
    have HKI := hide (rkeyI_any s.tens[i].keys A' c' num G w3 (fun b hb' => Nat.lt_of_lt_of_le (HG.out b hb') HB3.out.size) hkl hks)
    have HKK := hid_mk hks
    rcases keyI_cases s.tens[i].keys num with hk | ⟨k, hk, hke⟩
    · have HE := hid_mk (HNO.out hk)
      rw [hk] at HKI
      clear hk HNO HYE hT2 hks hft hsn hkl y0 y1 y2
      generalize s.tens[i].keys = ks at *
      go_wp2_with fail
      refine (unhide HKI).mono ?_
      rintro e w4 ⟨rfl, rfl⟩
      go_wp2
      exact bodyPost_ret (v := .tuple #[.string ⟨#[]⟩, .bool false]) (by simp [results, Try.results22, go_sem]) rfl ⟨by rw [HE.out], HB3.out⟩
    · have HE := hid_mk (HYE.out k hk hke)
      rw [hke] at HKI
      obtain ⟨kb, ko, e2, hg2, hs2, z0, z1⟩ := keys_at hks hk
      subst e2
      have k0 : (0 : Int) ≤ (k : Int) := by omega
      clear hke HNO HYE hT2 hks hft hsn hkl HKK y0 y1 y2 hs2
      generalize s.tens[i].keys[k] = q at *
      generalize s.tens[i].keys = ks at *
      go_wp2_with fail
      refine (unhide HKI).mono ?_
      rintro e w4 ⟨rfl, rfl⟩
      go_wp2
      exact bodyPost_ret (v := .tuple #[.string q.txt, .bool true]) (by simp [results, Try.results22, go_sem]) rfl ⟨by rw [HE.out], HB3.out⟩
theorem pnew_any (s : Rn.S) (A : Option Addr) (c : Nat) (n : ByteArray) (G : Nat → Prop) (w : World) (hG : ∀ b, G b → b < w.heap.size) (hl : s.tens.length ≤ maxLen) (hT : TensAt G w A s.tens) :
    Calls Try.prog 23 #[.agg #[.slice (A) (s).tens.length (c), .int .i64 (s).serial], .string n] w (RetG (.tuple #[.agg #[.int .i64 ((newRes s n).1).num, .string ((newRes s n).1).txt], .bool (newRes s n).2]) w) := by
  have hb0 : Below w.heap.size w (w.alloc (.cells #[.slice (A) (s).tens.length (c), .int .i64 (s).serial] 24)) := (by repeat (first | with_reducible exact Below.refl _ _ | with_reducible assumption | with_reducible refine Below.setCell ?_ (by first | omega | (dsimp only; omega) | (simp <;> omega)) _ | with_reducible refine Below.alloc ?_ (by first | omega | (simp <;> omega)) _ | with_reducible refine below_drewN ?_ _ | with_reducible refine Below.drew ?_))
  have hb1 : Below w.heap.size w ((w.alloc (.cells #[.slice (A) (s).tens.length (c), .int .i64 (s).serial] 24)).alloc (.cells #[.int .i64 0, .string ⟨#[]⟩] 44)) := (by repeat (first | with_reducible exact Below.refl _ _ | with_reducible assumption | with_reducible refine Below.setCell ?_ (by first | omega | (dsimp only; omega) | (simp <;> omega)) _ | with_reducible refine Below.alloc ?_ (by first | omega | (simp <;> omega)) _ | with_reducible refine below_drewN ?_ _ | with_reducible refine Below.drew ?_))
  have HC := hide (fun V (hb : Below w.heap.size w V) => pfind_any s A c n G V (fun b hb' => Nat.lt_of_lt_of_le (hG b hb') hb.size) hl (tensAt_keep hT (fun b h => h) (kept_below hb hG)))
  have HX0 := hid_mk (Blk.new w #[.slice (A) (s).tens.length (c), .int .i64 (s).serial] 24)
  have HB0 := hid_mk hb0
  have HB1 := hid_mk hb1
  have HT := hid_mk hT
  have HG := hid_mk hG
  unfold maxLen at hl
  clear hG hT hb0 hb1
  rcases findI_cases s.tens n with hf | ⟨i, hi, hf⟩
  · have HE := hid_mk (newRes_none hf)
    rw [HE.out]
    rw [hf] at HC
    clear hf
    go_enter Try.func23, Try.ntmps23
    go_wp2_with fail
    refine (unhide HC _ HB1.out).mono ?_
    rintro e w3 ⟨rfl, hb3⟩
    have HB3 := hid_mk (HB1.out.trans (hb3.mono HB1.out.size))
    have hy : Blk w3 (w.heap.size + 1) #[.int .i64 0, .string ⟨#[]⟩] 44 := (blk_new (by simp)).call hb3
    (have k0 : w3.cell? ⟨w.heap.size + 1, 0, none⟩ = some (.int .i64 0) := hy.cell 0; have k1 : w3.cell? ⟨w.heap.size + 1, 1, none⟩ = some (.string ⟨#[]⟩) := hy.cell 1; have kf : ∀ i, w3.frozen? ⟨w.heap.size + 1, i, none⟩ = false := hy.frozen)
    have hzy := hy.lt
    clear hb3 hy
    go_wp2
    exact bodyPost_ret (v := .tuple #[.agg #[.int .i64 0, .string ⟨#[]⟩], .bool false]) (by simp [results, Try.results23, go_sem, k0, k1]) rfl ⟨rfl, by have hbb := HB3.out; have := hbb.size; exact (by repeat (first | with_reducible exact Below.refl _ _ | with_reducible assumption | with_reducible refine Below.setCell ?_ (by first | omega | (dsimp only; omega) | (simp <;> omega)) _ | with_reducible refine Below.alloc ?_ (by first | omega | (simp <;> omega)) _ | with_reducible refine below_drewN ?_ _ | with_reducible refine Below.drew ?_))⟩
  · rw [hf] at HC
    have HNO : Hid (s.tens[i].keys.length = 0 → newRes s n = (⟨0, ⟨#[]⟩⟩, false)) := hid_mk (newRes_nil hi hf)
    have HYE : Hid (∀ (k : Nat) (hk : k < s.tens[i].keys.length), s.tens[i].keys.length = k + 1 → newRes s n = (s.tens[i].keys[k], true)) := hid_mk (fun k hk hl => newRes_last hi hf hk hl)
    clear hf
    have i0 : (0 : Int) ≤ (i : Int) := by omega
    go_enter Try.func23, Try.ntmps23
    go_wp2_with fail
    refine (unhide HC _ HB1.out).mono ?_
    rintro e w3 ⟨rfl, hb3⟩
    have HB3 := hid_mk (HB1.out.trans (hb3.mono HB1.out.size))
    have hx : Blk w3 w.heap.size #[.slice (A) (s).tens.length (c), .int .i64 (s).serial] 24 := (Blk.alloc (Blk.new w _ _) _).call hb3
    (have x0 : w3.cell? ⟨w.heap.size, 0, none⟩ = some (.slice (A) (s).tens.length (c)) := hx.cell 0; have x1 : w3.cell? ⟨w.heap.size, 1, none⟩ = some (.int .i64 (s).serial) := hx.cell 1; have xf : ∀ i, w3.frozen? ⟨w.heap.size, i, none⟩ = false := hx.frozen)
    have hy : Blk w3 (w.heap.size + 1) #[.int .i64 0, .string ⟨#[]⟩] 44 := (blk_new (by simp)).call hb3
    (have k0 : w3.cell? ⟨w.heap.size + 1, 0, none⟩ = some (.int .i64 0) := hy.cell 0; have k1 : w3.cell? ⟨w.heap.size + 1, 1, none⟩ = some (.string ⟨#[]⟩) := hy.cell 1; have kf : ∀ i, w3.frozen? ⟨w.heap.size + 1, i, none⟩ = false := hy.frozen)
    have hzy := hy.lt
    have hyk := hy
    clear hb3 hx hy
    have hT2 := tensAt_keep HT.out (fun b h => h) (kept_below HB3.out HG.out)
    obtain ⟨b, o, A', c', e1, hg1, hft, hkl, hsn, hks, y0, y1, y2, y3⟩ := tens_at hT2 hi
    subst e1
    by_cases hk0 : s.tens[i].keys.length = 0
    · have HE := hid_mk (HNO.out hk0)
      have l1 : ((s.tens[i].keys.length : Int) == 0) = true := by simp [hk0]
      have l2 : (s.tens[i].keys.length == 0) = true := by simp [hk0]
      have HK0 := hid_mk hk0
      clear hk0 HNO HYE hT2 hks hft hsn hkl y0 y1 y2
      generalize s.tens[i].keys.length = kl at *
      go_wp2
      exact bodyPost_ret (v := .tuple #[.agg #[.int .i64 0, .string ⟨#[]⟩], .bool false]) (by simp [results, Try.results23, go_sem, k0, k1]) rfl ⟨by rw [HE.out], by have hbb := HB3.out; have := hbb.size; exact (by repeat (first | with_reducible exact Below.refl _ _ | with_reducible assumption | with_reducible refine Below.setCell ?_ (by first | omega | (dsimp only; omega) | (simp <;> omega)) _ | with_reducible refine Below.alloc ?_ (by first | omega | (simp <;> omega)) _ | with_reducible refine below_drewN ?_ _ | with_reducible refine Below.drew ?_))⟩
    · obtain ⟨k, hkl2⟩ : ∃ k, s.tens[i].keys.length = k + 1 := ⟨s.tens[i].keys.length - 1, by omega⟩
      have hk : k < s.tens[i].keys.length := by omega
      have HE := hid_mk (HYE.out k hk hkl2)
      obtain ⟨kb, ko, e2, hg2, hs2, z0, z1⟩ := keys_at hks hk
      have hkbw : kb < w3.heap.size := Nat.lt_of_lt_of_le (HG.out kb hg2) HB3.out.size
      subst e2
      have l1 : ((s.tens[i].keys.length : Int) == 0) = false := beq_false_of_ne (by omega)
      have l2 : (s.tens[i].keys.length == 0) = false := beq_false_of_ne (by omega)
      have l3 : (s.tens[i].keys.length : Int) - 1 = (k : Int) := by omega
      have l4 : (0 : Int) ≤ (s.tens[i].keys.length : Int) - 1 := by omega
      have hkn : kb ≠ w.heap.size + 1 := by have := HG.out kb hg2; omega
      clear hk0 HNO HYE hT2 hks hft hsn y0 y1 y2 hs2
      generalize s.tens[i].keys[k] = q at *
      unfold maxLen at hkl
      generalize s.tens[i].keys.length = kl at *
      go_wp2
      exact bodyPost_ret (v := .tuple #[.agg #[.int .i64 (q).num, .string (q).txt], .bool true]) (by simp [results, Try.results23, go_sem, k0, k1]) rfl ⟨by rw [HE.out], by have hbb := HB3.out; have := hbb.size; exact (by repeat (first | with_reducible exact Below.refl _ _ | with_reducible assumption | with_reducible refine Below.setCell ?_ (by first | omega | (dsimp only; omega) | (simp <;> omega)) _ | with_reducible refine Below.alloc ?_ (by first | omega | (simp <;> omega)) _ | with_reducible refine below_drewN ?_ _ | with_reducible refine Below.drew ?_))⟩
theorem rnew_any (s : Rn.S) (A : Option Addr) (c : Nat) (n : ByteArray) (G : Nat → Prop) (w : World) (hG : ∀ b, G b → b < w.heap.size) (hl : s.tens.length ≤ maxLen) (hT : TensAt G w A s.tens) :
    Calls Try.prog 24 #[.agg #[.slice (A) (s).tens.length (c), .int .i64 (s).serial], .string n] w (RetG (.tuple #[.agg #[.int .i64 ((newRes s n).1).num, .string ((newRes s n).1).txt], .bool (newRes s n).2]) w) := by
  have hb0 : Below w.heap.size w (w.alloc (.cells #[.slice (A) (s).tens.length (c), .int .i64 (s).serial] 24)) := (by repeat (first | with_reducible exact Below.refl _ _ | with_reducible assumption | with_reducible refine Below.setCell ?_ (by first | omega | (dsimp only; omega) | (simp <;> omega)) _ | with_reducible refine Below.alloc ?_ (by first | omega | (simp <;> omega)) _ | with_reducible refine below_drewN ?_ _ | with_reducible refine Below.drew ?_))
  have hb1 : Below w.heap.size w ((w.alloc (.cells #[.slice (A) (s).tens.length (c), .int .i64 (s).serial] 24)).alloc (.cells #[.int .i64 0, .string ⟨#[]⟩] 44)) := (by repeat (first | with_reducible exact Below.refl _ _ | with_reducible assumption | with_reducible refine Below.setCell ?_ (by first | omega | (dsimp only; omega) | (simp <;> omega)) _ | with_reducible refine Below.alloc ?_ (by first | omega | (simp <;> omega)) _ | with_reducible refine below_drewN ?_ _ | with_reducible refine Below.drew ?_))
  have HC := hide (fun V (hb : Below w.heap.size w V) => rfind_any s A c n G V (fun b hb' => Nat.lt_of_lt_of_le (hG b hb') hb.size) hl (tensAt_keep hT (fun b h => h) (kept_below hb hG)))
  have HX0 := hid_mk (Blk.new w #[.slice (A) (s).tens.length (c), .int .i64 (s).serial] 24)
  have HB0 := hid_mk hb0
  have HB1 := hid_mk hb1
  have HT := hid_mk hT
  have HG := hid_mk hG
  unfold maxLen at hl
  clear hG hT hb0 hb1
  rcases findI_cases s.tens n with hf | ⟨i, hi, hf⟩
  · have HE := hid_mk (newRes_none hf)
    rw [HE.out]
    rw [hf] at HC
    clear hf
    go_enter Try.func24, Try.ntmps24
    go_wp2_with fail
    refine (unhide HC _ HB1.out).mono ?_
    rintro e w3 ⟨rfl, hb3⟩
    have HB3 := hid_mk (HB1.out.trans (hb3.mono HB1.out.size))
    have hy : Blk w3 (w.heap.size + 1) #[.int .i64 0, .string ⟨#[]⟩] 44 := (blk_new (by simp)).call hb3
    (have k0 : w3.cell? ⟨w.heap.size + 1, 0, none⟩ = some (.int .i64 0) := hy.cell 0; have k1 : w3.cell? ⟨w.heap.size + 1, 1, none⟩ = some (.string ⟨#[]⟩) := hy.cell 1; have kf : ∀ i, w3.frozen? ⟨w.heap.size + 1, i, none⟩ = false := hy.frozen)
    have hzy := hy.lt
    clear hb3 hy
    go_wp2
    exact bodyPost_ret (v := .tuple #[.agg #[.int .i64 0, .string ⟨#[]⟩], .bool false]) (by simp [results, Try.results24, go_sem, k0, k1]) rfl ⟨rfl, by have hbb := HB3.out; have := hbb.size; exact (by repeat (first | with_reducible exact Below.refl _ _ | with_reducible assumption | with_reducible refine Below.setCell ?_ (by first | omega | (dsimp only; omega) | (simp <;> omega)) _ | with_reducible refine Below.alloc ?_ (by first | omega | (simp <;> omega)) _ | with_reducible refine below_drewN ?_ _ | with_reducible refine Below.drew ?_))⟩
  · rw [hf] at HC
    have HNO : Hid (s.tens[i].keys.length = 0 → newRes s n = (⟨0, ⟨#[]⟩⟩, false)) := hid_mk (newRes_nil hi hf)
    have HYE : Hid (∀ (k : Nat) (hk : k < s.tens[i].keys.length), s.tens[i].keys.length = k + 1 → newRes s n = (s.tens[i].keys[k], true)) := hid_mk (fun k hk hl => newRes_last hi hf hk hl)
    clear hf
    have i0 : (0 : Int) ≤ (i : Int) := by omega
    go_enter Try.func24, Try.ntmps24
    go_wp2_with fail
    refine (unhide HC _ HB1.out).mono ?_
    rintro e w3 ⟨rfl, hb3⟩
    have HB3 := hid_mk (HB1.out.trans (hb3.mono HB1.out.size))
    have hx : Blk w3 w.heap.size #[.slice (A) (s).tens.length (c), .int .i64 (s).serial] 24 := (Blk.alloc (Blk.new w _ _) _).call hb3
    (have x0 : w3.cell? ⟨w.heap.size, 0, none⟩ = some (.slice (A) (s).tens.length (c)) := hx.cell 0; have x1 : w3.cell? ⟨w.heap.size, 1, none⟩ = some (.int .i64 (s).serial) := hx.cell 1; have xf : ∀ i, w3.frozen? ⟨w.heap.size, i, none⟩ = false := hx.frozen)
    have hy : Blk w3 (w.heap.size + 1) #[.int .i64 0, .string ⟨#[]⟩] 44 := (blk_new (by simp)).call hb3
    (have k0 : w3.cell? ⟨w.heap.size + 1, 0, none⟩ = some (.int .i64 0) := hy.cell 0; have k1 : w3.cell? ⟨w.heap.size + 1, 1, none⟩ = some (.string ⟨#[]⟩) := hy.cell 1; have kf : ∀ i, w3.frozen? ⟨w.heap.size + 1, i, none⟩ = false := hy.frozen)
    have hzy := hy.lt
    have hyk := hy
    clear hb3 hx hy
    have hT2 := tensAt_keep HT.out (fun b h => h) (kept_below HB3.out HG.out)
    obtain ⟨b, o, A', c', e1, hg1, hft, hkl, hsn, hks, y0, y1, y2, y3⟩ := tens_at hT2 hi
    subst e1
    by_cases hk0 : s.tens[i].keys.length = 0
    · have HE := hid_mk (HNO.out hk0)
      have l1 : ((s.tens[i].keys.length : Int) == 0) = true := by simp [hk0]
      have l2 : (s.tens[i].keys.length == 0) = true := by simp [hk0]
      have HK0 := hid_mk hk0
      clear hk0 HNO HYE hT2 hks hft hsn hkl y0 y1 y2
      generalize s.tens[i].keys.length = kl at *
      go_wp2
      exact bodyPost_ret (v := .tuple #[.agg #[.int .i64 0, .string ⟨#[]⟩], .bool false]) (by simp [results, Try.results24, go_sem, k0, k1]) rfl ⟨by rw [HE.out], by have hbb := HB3.out; have := hbb.size; exact (by repeat (first | with_reducible exact Below.refl _ _ | with_reducible assumption | with_reducible refine Below.setCell ?_ (by first | omega | (dsimp only; omega) | (simp <;> omega)) _ | with_reducible refine Below.alloc ?_ (by first | omega | (simp <;> omega)) _ | with_reducible refine below_drewN ?_ _ | with_reducible refine Below.drew ?_))⟩
    · obtain ⟨k, hkl2⟩ : ∃ k, s.tens[i].keys.length = k + 1 := ⟨s.tens[i].keys.length - 1, by omega⟩
      have hk : k < s.tens[i].keys.length := by omega
      have HE := hid_mk (HYE.out k hk hkl2)
      obtain ⟨kb, ko, e2, hg2, hs2, z0, z1⟩ := keys_at hks hk
      have hkbw : kb < w3.heap.size := Nat.lt_of_lt_of_le (HG.out kb hg2) HB3.out.size
      subst e2
      have l1 : ((s.tens[i].keys.length : Int) == 0) = false := beq_false_of_ne (by omega)
      have l2 : (s.tens[i].keys.length == 0) = false := beq_false_of_ne (by omega)
      have l3 : (s.tens[i].keys.length : Int) - 1 = (k : Int) := by omega
      have l4 : (0 : Int) ≤ (s.tens[i].keys.length : Int) - 1 := by omega
      have hkn : kb ≠ w.heap.size + 1 := by have := HG.out kb hg2; omega
      clear hk0 HNO HYE hT2 hks hft hsn y0 y1 y2 hs2
      generalize s.tens[i].keys[k] = q at *
      unfold maxLen at hkl
      have HHY := hid_mk hyk
      have zx0 : ∀ d os, (grow (redrawn w3 d) os).cell? ⟨w.heap.size, 0, none⟩ = some (.slice (some ⟨b, o, none⟩) s.tens.length c) := fun d os => cell_regrown x0 d os
      have zy3 : ∀ d os, (grow (redrawn w3 d) os).cell? ⟨b, o + i * 4 + 3, none⟩ = some (.slice (some ⟨kb, ko, none⟩) s.tens[i].keys.length c') := fun d os => cell_regrown y3 d os
      have zz0 : ∀ d os, (grow (redrawn w3 d) os).cell? ⟨kb, ko + k * 2, none⟩ = some (.int .i64 q.num) := fun d os => cell_regrown z0 d os
      have zz1 : ∀ d os, (grow (redrawn w3 d) os).cell? ⟨kb, ko + k * 2 + 1, none⟩ = some (.string q.txt) := fun d os => cell_regrown z1 d os
      have hkl3 : k < s.tens[i].keys.length := hk
      have lw : IntKind.i64.wrap ((s.tens[i].keys.length : Int) - 1) = (k : Int) := by rw [l3]; exact IntWalk.i64_in _ (by omega)
      have lw2 : IntKind.i64.wrap (k : Int) = (k : Int) := IntWalk.i64_in _ (by omega)
      generalize s.tens[i].keys.length = kl at *
      clear hyk hk hkl2
      go_wp2
      (refine region_below_tail 16 (by kernel_rfl) (by kernel_rfl) ?_; simp only [List.take_succ_cons, List.take_zero, List.drop_succ_cons, List.drop_zero]; (repeat (quiet_step (fail))); refine wpQuiet_nil ?_; intro _ hw'; obtain ⟨⟨nq, osq⟩, hw''⟩ := hw'; subst hw'')
      have hbv := below_regrown w3 nq osq
      have hyv := HHY.out.call hbv
      have HB4 := hid_mk (HB3.out.trans (hbv.mono HB3.out.size))
      clear zx0 zy3 zz0 zz1 k0 k1 kf
      generalize grow (redrawn w3 nq) osq = V at *
      (have k0 : V.cell? ⟨w.heap.size + 1, 0, none⟩ = some (.int .i64 0) := hyv.cell 0; have k1 : V.cell? ⟨w.heap.size + 1, 1, none⟩ = some (.string ⟨#[]⟩) := hyv.cell 1; have kf : ∀ i, V.frozen? ⟨w.heap.size + 1, i, none⟩ = false := hyv.frozen)
      have hzv := hyv.lt
      clear hbv hyv
      go_wp2
      exact bodyPost_ret (v := .tuple #[.agg #[.int .i64 (q).num, .string (q).txt], .bool true]) (by simp [results, Try.results24, go_sem, k0, k1]) rfl ⟨by rw [HE.out], by have hbb := HB4.out; have := hbb.size; exact (by repeat (first | with_reducible exact Below.refl _ _ | with_reducible assumption | with_reducible refine Below.setCell ?_ (by first | omega | (dsimp only; omega) | (simp <;> omega)) _ | with_reducible refine Below.alloc ?_ (by first | omega | (simp <;> omega)) _ | with_reducible refine below_drewN ?_ _ | with_reducible refine Below.drew ?_))⟩
end Go.Proofs.Ytgcgilcalmefgaa
