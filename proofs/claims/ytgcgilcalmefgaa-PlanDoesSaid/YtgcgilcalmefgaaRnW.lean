/- Walks: small functions of the ring. -/
import Derived.Test.YtgcgilcalmefgaaRnM
import Derived.Test.YtgcgilcalmefgaaNameW
import Derived.Test.YtgcgilcalmefgaaReg
import Derived.Deep.QuietTactic
import Derived.BigQuiet
namespace Go.Proofs.Ytgcgilcalmefgaa
open Go Go.RowKit Go.Sort
set_option maxRecDepth 100000
set_option linter.unusedSimpArgs false
set_option linter.unusedVariables false
set_option maxHeartbeats 1000000
theorem from_any (n f : Int) (w : World) : Calls Try.prog 35 #[.int .i64 n, .int .i64 f] w (Ret (.bool (Rn.fromB n f)) w) := by
  unfold Rn.fromB
  by_cases h1 : f ≤ n
  · have f1 : decide (f ≤ n) = true := by simpa using h1
    rw [f1]
    go_enter Try.func35, Try.ntmps35
    go_wp2
    go_ret
    exact ret_bool (by simp)
  · have f1 : decide (f ≤ n) = false := by simpa using h1
    rw [f1]
    go_enter Try.func35, Try.ntmps35
    go_wp2
    go_ret
    exact ret_bool (by simp)
theorem in_any (n f : Int) (w : World) : Calls Try.prog 39 #[.int .i64 n, .int .i64 f] w (Ret (.bool (Rn.fromB n f)) w) := by
  unfold Rn.fromB
  by_cases h1 : f ≤ n
  · have f1 : decide (f ≤ n) = true := by simpa using h1
    rw [f1]
    go_enter Try.func39, Try.ntmps39
    go_wp2
    go_ret
    exact ret_bool (by simp)
  · have f1 : decide (f ≤ n) = false := by simpa using h1
    rw [f1]
    go_enter Try.func39, Try.ntmps39
    go_wp2
    go_ret
    exact ret_bool (by simp)
/-- a struct's two boxes, and one answer -/
theorem ltK_any (a b : Rn.K) (w : World) : Calls Try.prog 53 #[.agg #[.int .i64 (a).num, .string (a).txt], .agg #[.int .i64 (b).num, .string (b).txt]] w (RetG (.bool (Rn.ltK a b)) w) := by
  unfold Rn.ltK
  go_enter Try.func53, Try.ntmps53
  go_wp2
  exact bodyPost_ret (v := .bool (decide (a.num < b.num))) (by simp [results, Try.results53, go_sem]) rfl ⟨rfl, (by repeat (first | with_reducible exact Below.refl _ _ | with_reducible assumption | with_reducible refine Below.setCell ?_ (by first | omega | (dsimp only; omega) | (simp <;> omega)) _ | with_reducible refine Below.alloc ?_ (by first | omega | (simp <;> omega)) _ | with_reducible refine below_drewN ?_ _ | with_reducible refine Below.drew ?_))⟩
theorem ltT_any (a b : Rn.T) (A B : Option Addr) (ca cb : Nat) (w : World) : Calls Try.prog 38 #[.agg #[.string (a).name, .int .i64 (a).epoch, .int .i64 (a).next, .slice (A) (a).keys.length (ca)], .agg #[.string (b).name, .int .i64 (b).epoch, .int .i64 (b).next, .slice (B) (b).keys.length (cb)]] w (RetG (.bool (Rn.ltT a b)) w) := by
  unfold Rn.ltT Rn.less
  go_enter Try.func38, Try.ntmps38
  go_wp2
  exact bodyPost_ret (v := .bool (Op.bytesLess a.name.toList b.name.toList)) (by simp [results, Try.results38, go_sem]) rfl ⟨rfl, (by repeat (first | with_reducible exact Below.refl _ _ | with_reducible assumption | with_reducible refine Below.setCell ?_ (by first | omega | (dsimp only; omega) | (simp <;> omega)) _ | with_reducible refine Below.alloc ?_ (by first | omega | (simp <;> omega)) _ | with_reducible refine below_drewN ?_ _ | with_reducible refine Below.drew ?_))⟩
theorem rises_iff {α : Type} (lt : α → α → Bool) : ∀ (l : List α), Rn.rises lt l = true ↔ ∀ (i : Nat) (h : i + 1 < l.length), lt l[i] l[i + 1] = true
  | [] => by simp [Rn.rises]
  | [a] => by simp [Rn.rises]
  | a :: b :: r => by
    rw [Rn.rises, Bool.and_eq_true, rises_iff lt (b :: r)]
    constructor
    · rintro ⟨h1, h2⟩ i hi
      cases i with
      | zero => exact h1
      | succ i => exact h2 i (by simpa using hi)
    · intro h
      exact ⟨h 0 (by simp), fun i hi => h (i + 1) (by simpa using hi)⟩
theorem rises_no {α : Type} {lt : α → α → Bool} {l : List α} {i : Nat} (h : i + 1 < l.length) (hn : lt l[i] l[i + 1] = false) : Rn.rises lt l = false := by
  cases hr : Rn.rises lt l with
  | false => rfl
  | true => have := (rises_iff lt l).1 hr i h; rw [hn] at this; cases this
/-- at a round's head: so many are held to rise -/
def RisesAt {α : Type} (lt : α → α → Bool) (l : List α) (w : World) (v : Value) (wr : World) : Prop := ∃ k : Nat, v = .int .i64 ((k + 1 : Nat) : Int) ∧ (∀ (i : Nat) (h : i + 1 < l.length), i < k → lt l[i] l[i + 1] = true) ∧ (k = 0 ∨ k < l.length) ∧ Below w.heap.size w wr
theorem risesT_any (ts : List Rn.T) (A : Option Addr) (c : Nat) (G : Nat → Prop) (w : World) (hG : ∀ b, G b → b < w.heap.size) (hl : ts.length ≤ maxLen) (hT : TensAt G w A ts) :
    Calls Try.prog 37 #[.slice A ts.length c, .func (.func 38) #[] #[]] w (RetG (.bool (Rn.rises Rn.ltT ts)) w) := by
  unfold maxLen at hl
  have HT := hid_mk hT
  have HG := hid_mk hG
  clear hT hG
  go_enter Try.func37, Try.ntmps37
  go_wp2
  go_loopw [5] (fun v wr => RisesAt Rn.ltT ts w v wr) (fun v _ => ts.length + 1 - (intOf v).toNat)
  case atStart => exact ⟨0, rfl, fun i h hi => absurd hi (by omega), Or.inl rfl, Below.refl _ _⟩
  case round =>
    obtain ⟨k, rfl, hall, hk, hb⟩ := hrel
    have HB := hid_mk hb
    have HA := hid_mk hall
    clear hall
    by_cases hlt : k + 1 < ts.length
    · have hk0 : k < ts.length := by omega
      have hi1 : ((k : Int) + 1) < (ts.length : Int) := by omega
      have hT2 := tensAt_keep HT.out (fun b h => h) (kept_below hb HG.out)
      obtain ⟨b1, o1, A1, c1, e1, hg1, -, -, -, -, x0, x1, x2, x3⟩ := tens_at hT2 hk0
      obtain ⟨b2, o2, A2, c2, e2, hg2, -, -, -, -, y0, y1, y2, y3⟩ := tens_at hT2 hlt
      obtain ⟨rfl, rfl⟩ : b2 = b1 ∧ o2 = o1 := by rw [e1] at e2; simpa using e2.symm
      subst e1
      have HN : Hid (Rn.ltT ts[k] ts[k + 1] = false → Rn.rises Rn.ltT ts = false) := hid_mk (fun h => rises_no hlt h)
      have HY : Hid (Rn.ltT ts[k] ts[k + 1] = true → ∀ (i : Nat) (h : i + 1 < ts.length), i < k + 1 → Rn.ltT ts[i] ts[i + 1] = true) := hid_mk (fun h i hi hik => by
        rcases Nat.lt_or_ge i k with h1 | h1
        · exact HA.out i hi h1
        · obtain rfl : i = k := by omega
          exact h)
      generalize ts[k] = p at *
      generalize ts[k + 1] = q at *
      have HC : Hid (∀ d os, Calls Try.prog 38 #[.agg #[.string (p).name, .int .i64 (p).epoch, .int .i64 (p).next, .slice (A1) (p).keys.length (c1)], .agg #[.string (q).name, .int .i64 (q).epoch, .int .i64 (q).next, .slice (A2) (q).keys.length (c2)]] (grow (redrawn wr d) os) (fun e w'' => e = .returned (.bool (Rn.ltT p q)) ∧ ∃ p : Regrown, w'' = grow (redrawn wr p.d) p.os)) := hid_mk (fun d os => regrown_call (ltT_any p q A1 A2 c1 c2 _))
      have za0 : ∀ d os, (grow (redrawn wr d) os).cell? ⟨b2, o2 + k * 4, none⟩ = some (.string p.name) := fun d os => cell_regrown x0 d os
      have za1 : ∀ d os, (grow (redrawn wr d) os).cell? ⟨b2, o2 + k * 4 + 1, none⟩ = some (.int .i64 p.epoch) := fun d os => cell_regrown x1 d os
      have za2 : ∀ d os, (grow (redrawn wr d) os).cell? ⟨b2, o2 + k * 4 + 2, none⟩ = some (.int .i64 p.next) := fun d os => cell_regrown x2 d os
      have za3 : ∀ d os, (grow (redrawn wr d) os).cell? ⟨b2, o2 + k * 4 + 3, none⟩ = some (.slice A1 p.keys.length c1) := fun d os => cell_regrown x3 d os
      have zb0 : ∀ d os, (grow (redrawn wr d) os).cell? ⟨b2, o2 + (k + 1) * 4, none⟩ = some (.string q.name) := fun d os => cell_regrown y0 d os
      have zb1 : ∀ d os, (grow (redrawn wr d) os).cell? ⟨b2, o2 + (k + 1) * 4 + 1, none⟩ = some (.int .i64 q.epoch) := fun d os => cell_regrown y1 d os
      have zb2 : ∀ d os, (grow (redrawn wr d) os).cell? ⟨b2, o2 + (k + 1) * 4 + 2, none⟩ = some (.int .i64 q.next) := fun d os => cell_regrown y2 d os
      have zb3 : ∀ d os, (grow (redrawn wr d) os).cell? ⟨b2, o2 + (k + 1) * 4 + 3, none⟩ = some (.slice A2 q.keys.length c2) := fun d os => cell_regrown y3 d os
      clear x0 x1 x2 x3 y0 y1 y2 y3 hT2 hb e2
      generalize Rn.ltT p q = t at *
      cases t
      · have HN2 := hid_mk (HN.out rfl)
        clear HN HY
        go_wp2
        (refine wp_region_quiet_below (by kernel_rfl) (by kernel_rfl) ?_; (repeat (first | go_big_quiet_step ((go_at_call 38; with_reducible exact HC.out _ _)) | quiet_step ((go_at_call 38; with_reducible exact HC.out _ _)))); refine wpQuiet_nil ?_; intro _ hw'; obtain ⟨⟨nq, osq⟩, hw''⟩ := hw'; subst hw'')
        have HBX := hid_mk (HB.out.trans ((below_regrown wr nq osq).mono HB.out.size))
        generalize grow (redrawn wr nq) osq = V at *
        go_wp2
        exact bodyPost_ret (v := .bool false) (by simp [results, Try.results37, go_sem]) rfl ⟨by rw [HN2.out], HBX.out⟩
      · have HY2 := hid_mk (HY.out rfl)
        clear HN HY
        go_wp2
        (refine wp_region_quiet_below (by kernel_rfl) (by kernel_rfl) ?_; (repeat (first | go_big_quiet_step ((go_at_call 38; with_reducible exact HC.out _ _)) | quiet_step ((go_at_call 38; with_reducible exact HC.out _ _)))); refine wpQuiet_nil ?_; intro _ hw'; obtain ⟨⟨nq, osq⟩, hw''⟩ := hw'; subst hw'')
        have HBX := hid_mk (HB.out.trans ((below_regrown wr nq osq).mono HB.out.size))
        generalize grow (redrawn wr nq) osq = V at *
        go_wp2
        go_roundw
        case rel => exact ⟨k + 1, by go_num, HY2.out, Or.inr hlt, HBX.out⟩
        case measure => simp [intOf]; omega
    · have hn : ¬ ((k : Int) + 1) < (ts.length : Int) := by omega
      have HE : Hid (Rn.rises Rn.ltT ts = true) := hid_mk ((rises_iff _ _).2 (fun i hi => HA.out i hi (by omega)))
      clear hb
      go_wp2
      exact bodyPost_ret (v := .bool true) (by simp [results, Try.results37, go_sem]) rfl ⟨by rw [HE.out], HB.out⟩
theorem risesK_any (ts : List Rn.K) (A : Option Addr) (c : Nat) (G : Nat → Prop) (w : World) (hG : ∀ b, G b → b < w.heap.size) (hl : ts.length ≤ maxLen) (hT : KeysAt G w A ts) :
    Calls Try.prog 52 #[.slice A ts.length c, .func (.func 53) #[] #[]] w (RetG (.bool (Rn.rises Rn.ltK ts)) w) := by
  unfold maxLen at hl
  have HT := hid_mk hT
  have HG := hid_mk hG
  clear hT hG
  go_enter Try.func52, Try.ntmps52
  go_wp2
  go_loopw [5] (fun v wr => RisesAt Rn.ltK ts w v wr) (fun v _ => ts.length + 1 - (intOf v).toNat)
  case atStart => exact ⟨0, rfl, fun i h hi => absurd hi (by omega), Or.inl rfl, Below.refl _ _⟩
  case round =>
    obtain ⟨k, rfl, hall, hk, hb⟩ := hrel
    have HB := hid_mk hb
    have HA := hid_mk hall
    clear hall
    by_cases hlt : k + 1 < ts.length
    · have hk0 : k < ts.length := by omega
      have hi1 : ((k : Int) + 1) < (ts.length : Int) := by omega
      have hT2 := keysAt_keep HT.out (fun b h => h) (kept_below hb HG.out)
      obtain ⟨b1, o1, e1, hg1, -, x0, x1⟩ := keys_at hT2 hk0
      obtain ⟨b2, o2, e2, hg2, -, y0, y1⟩ := keys_at hT2 hlt
      obtain ⟨rfl, rfl⟩ : b2 = b1 ∧ o2 = o1 := by rw [e1] at e2; simpa using e2.symm
      subst e1
      have HN : Hid (Rn.ltK ts[k] ts[k + 1] = false → Rn.rises Rn.ltK ts = false) := hid_mk (fun h => rises_no hlt h)
      have HY : Hid (Rn.ltK ts[k] ts[k + 1] = true → ∀ (i : Nat) (h : i + 1 < ts.length), i < k + 1 → Rn.ltK ts[i] ts[i + 1] = true) := hid_mk (fun h i hi hik => by
        rcases Nat.lt_or_ge i k with h1 | h1
        · exact HA.out i hi h1
        · obtain rfl : i = k := by omega
          exact h)
      generalize ts[k] = p at *
      generalize ts[k + 1] = q at *
      have HC : Hid (∀ d os, Calls Try.prog 53 #[.agg #[.int .i64 (p).num, .string (p).txt], .agg #[.int .i64 (q).num, .string (q).txt]] (grow (redrawn wr d) os) (fun e w'' => e = .returned (.bool (Rn.ltK p q)) ∧ ∃ p : Regrown, w'' = grow (redrawn wr p.d) p.os)) := hid_mk (fun d os => regrown_call (ltK_any p q _))
      have za0 : ∀ d os, (grow (redrawn wr d) os).cell? ⟨b2, o2 + k * 2, none⟩ = some (.int .i64 p.num) := fun d os => cell_regrown x0 d os
      have za1 : ∀ d os, (grow (redrawn wr d) os).cell? ⟨b2, o2 + k * 2 + 1, none⟩ = some (.string p.txt) := fun d os => cell_regrown x1 d os
      have zb0 : ∀ d os, (grow (redrawn wr d) os).cell? ⟨b2, o2 + (k + 1) * 2, none⟩ = some (.int .i64 q.num) := fun d os => cell_regrown y0 d os
      have zb1 : ∀ d os, (grow (redrawn wr d) os).cell? ⟨b2, o2 + (k + 1) * 2 + 1, none⟩ = some (.string q.txt) := fun d os => cell_regrown y1 d os
      clear x0 x1 y0 y1 hT2 hb e2
      generalize Rn.ltK p q = t at *
      cases t
      · have HN2 := hid_mk (HN.out rfl)
        clear HN HY
        go_wp2
        (refine wp_region_quiet_below (by kernel_rfl) (by kernel_rfl) ?_; (repeat (first | go_big_quiet_step ((go_at_call 53; with_reducible exact HC.out _ _)) | quiet_step ((go_at_call 53; with_reducible exact HC.out _ _)))); refine wpQuiet_nil ?_; intro _ hw'; obtain ⟨⟨nq, osq⟩, hw''⟩ := hw'; subst hw'')
        have HBX := hid_mk (HB.out.trans ((below_regrown wr nq osq).mono HB.out.size))
        generalize grow (redrawn wr nq) osq = V at *
        go_wp2
        exact bodyPost_ret (v := .bool false) (by simp [results, Try.results52, go_sem]) rfl ⟨by rw [HN2.out], HBX.out⟩
      · have HY2 := hid_mk (HY.out rfl)
        clear HN HY
        go_wp2
        (refine wp_region_quiet_below (by kernel_rfl) (by kernel_rfl) ?_; (repeat (first | go_big_quiet_step ((go_at_call 53; with_reducible exact HC.out _ _)) | quiet_step ((go_at_call 53; with_reducible exact HC.out _ _)))); refine wpQuiet_nil ?_; intro _ hw'; obtain ⟨⟨nq, osq⟩, hw''⟩ := hw'; subst hw'')
        have HBX := hid_mk (HB.out.trans ((below_regrown wr nq osq).mono HB.out.size))
        generalize grow (redrawn wr nq) osq = V at *
        go_wp2
        go_roundw
        case rel => exact ⟨k + 1, by go_num, HY2.out, Or.inr hlt, HBX.out⟩
        case measure => simp [intOf]; omega
    · have hn : ¬ ((k : Int) + 1) < (ts.length : Int) := by omega
      have HE : Hid (Rn.rises Rn.ltK ts = true) := hid_mk ((rises_iff _ _).2 (fun i hi => HA.out i hi (by omega)))
      clear hb
      go_wp2
      exact bodyPost_ret (v := .bool true) (by simp [results, Try.results52, go_sem]) rfl ⟨by rw [HE.out], HB.out⟩
end Go.Proofs.Ytgcgilcalmefgaa
