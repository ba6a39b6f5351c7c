/- Walks: slices.BinarySearchFunc at tenants by name and at keys by number: the place, and whether it is there. -/
import Derived.Test.YtgcgilcalmefgaaRnJ
import Derived.Deep.LoopGhost
namespace Go.Proofs.Ytgcgilcalmefgaa
open Go Go.RowKit Go.Sort
set_option maxRecDepth 100000
set_option linter.unusedSimpArgs false
set_option linter.unusedVariables false
set_option maxHeartbeats 4000000
namespace Rn
section
variable {α κ : Type} {key : α → κ} {lt : κ → κ → Bool}
theorem spot_ahead (tr : ∀ a b c, lt a b = true → lt b c = true → lt a c = true) {l : List α} {n : κ} (h : rises (fun a b => lt (key a) (key b)) l = true) {k m : Nat} (hm : m < l.length) (hk : k ≤ m) (hl : lt (key l[m]) n = true) : lt (key (l[k]'(by omega))) n = true := by
  rcases Nat.lt_or_ge k m with h1 | h1
  · exact tr _ _ _ (List.pairwise_iff_getElem.1 (rises_pw (key := key) tr l h) k m (by omega) hm h1) hl
  · obtain rfl : k = m := by omega
    exact hl
theorem spot_is {l : List α} {n : κ} {i : Nat} (hi : i ≤ l.length) (h1 : ∀ (k : Nat) (h : k < l.length), k < i → lt (key l[k]) n = true) (h2 : ∀ (h : i < l.length), lt (key l[i]) n = false) : spot key lt l n = i := by
  unfold spot
  have e : l = l.take i ++ l.drop i := (List.take_append_drop i l).symm
  have hp : ∀ a ∈ l.take i, lt (key a) n = true := fun a ha => by
    obtain ⟨k, hk, rfl⟩ := List.mem_iff_getElem.1 ha
    rw [List.length_take] at hk
    rw [List.getElem_take]
    exact h1 k (by omega) (by omega)
  conv => lhs; rw [e]
  rw [List.takeWhile_append_of_pos hp]
  have e2 : (l.drop i).takeWhile (fun x => lt (key x) n) = [] := by
    rcases Nat.lt_or_ge i l.length with h | h
    · rw [List.drop_eq_getElem_cons h, List.takeWhile_cons, if_neg (by rw [h2 h]; decide)]
    · rw [List.drop_eq_nil_of_le h]; rfl
  rw [e2, List.append_nil, List.length_take, Nat.min_eq_left hi]
end
end Rn


theorem cmpL_nn {a b : ByteArray} (h : Rn.less a b = false) : ¬ cmpL a.data.toList b.data.toList < 0 := by
  have h1 := cmp_sign a b
  rw [h] at h1
  simp at h1
  omega
theorem cmpL_z (t : Rn.T) (n : ByteArray) : decide (t.name = n) = decide (cmpL t.name.data.toList n.data.toList = 0) := by
  rw [Bool.eq_iff_iff, decide_eq_true_iff, decide_eq_true_iff]
  constructor
  · intro h; rw [h]; exact cmpL_self _
  · intro h
    cases e : Rn.less t.name n with
    | true => rw [Rn.cmp_less e] at h; cases h
    | false =>
      cases e2 : Rn.less n t.name with
      | true => rw [Rn.cmp_gr e2] at h; cases h
      | false => exact Rn.less_tri _ _ e e2
theorem cmpI_neg {a b : Int} (h : decide (a < b) = true) : cmpI a b = -1 := by
  unfold cmpI; rw [if_pos (by simpa using h)]
theorem cmpI_nn {a b : Int} (h : decide (a < b) = false) : ¬ cmpI a b < 0 := by
  unfold cmpI; rw [if_neg (by simpa using h)]; split <;> decide
theorem cmpI_z (t : Rn.K) (n : Int) : decide (t.num = n) = decide (cmpI t.num n = 0) := by
  unfold cmpI
  rw [Bool.eq_iff_iff, decide_eq_true_iff, decide_eq_true_iff]
  by_cases h : t.num < n
  · rw [if_pos h]; omega
  · rw [if_neg h]; split <;> omega


def binTAt (l : List Rn.T) (n : ByteArray) (w : World) (g : Nat) (u v : Value) (wr : World) : Prop :=
  ∃ lo hi : Nat, u = .int .i64 (lo : Nat) ∧ v = .int .i64 (hi : Nat) ∧ lo ≤ hi ∧ hi ≤ l.length ∧ hi - lo ≤ g ∧ (∀ (k : Nat) (h : k < l.length), k < lo → Rn.less (l[k]).name n = true) ∧ (∀ (k : Nat) (h : k < l.length), hi ≤ k → Rn.less (l[k]).name n = false) ∧ Below w.heap.size w wr
theorem binT_any (l : List Rn.T) (A : Option Addr) (c : Nat) (n : ByteArray) (G : Nat → Prop) (w : World) (hG : ∀ b, G b → b < w.heap.size) (hl : l.length ≤ 1000) (hT : TensAt G w A l) (hr : Rn.rises Rn.ltT l = true) :
    Calls Try.prog 63 #[.slice A l.length c, .string n, .func (.func 64) #[] #[]] w (RetG (.tuple #[.int .i64 ((Rn.spotT l n : Nat) : Int), .bool (Rn.hasT l n)]) w) := by
  have HT := hid_mk hT
  have HG := hid_mk hG
  have HR : Hid (∀ (k m : Nat) (hm : m < l.length) (hk : k ≤ m), Rn.less (l[m]).name n = true → Rn.less (l[k]'(by omega)).name n = true) := hid_mk (fun k m hm hk h => Rn.spot_ahead (key := Rn.T.name) (lt := Rn.less) Rn.less_tr (n := n) hr hm hk h)
  have hl3 : (l.length : Int) ≤ 1000 := by omega
  clear hT hG hr
  go_enter Try.func63, Try.ntmps63
  go_wp2
  go_loopg [9, 10] l.length (fun g u v wr => binTAt l n w g u v wr)
  case atStart => exact ⟨0, l.length, rfl, rfl, Nat.zero_le _, Nat.le_refl _, by omega, fun k h hk => absurd hk (by omega), fun k h hk => absurd hk (by omega), Below.refl _ _⟩
  case round =>
    obtain ⟨lo, hi, rfl, rfl, hlh, hin, hgg, h1, h2, hb⟩ := hrel
    have H1 := hid_mk h1
    have H2 := hid_mk h2
    have HB := hid_mk hb
    have hT2 := tensAt_keep HT.out (fun b h => h) (kept_below hb HG.out)
    clear h1 h2
    by_cases hlt : lo < hi
    · have hm : (lo + hi) / 2 < l.length := by omega
      obtain ⟨b, o, A', c', e1, hg1, -, -, -, -, y0, y1, y2, y3⟩ := tens_at hT2 hm
      subst e1
      have HL : Hid (Rn.less (l[(lo + hi) / 2]).name n = true → ∀ (k : Nat) (h : k < l.length), k < (lo + hi) / 2 + 1 → Rn.less (l[k]).name n = true) := hid_mk (fun h k hk hkm => HR.out k _ hm (by omega) h)
      have HN : Hid (Rn.less (l[(lo + hi) / 2]).name n = false → ∀ (k : Nat) (h : k < l.length), (lo + hi) / 2 ≤ k → Rn.less (l[k]).name n = false) := hid_mk (fun h k hk hkm => by
        cases e : Rn.less (l[k]).name n with
        | false => rfl
        | true => have := HR.out ((lo + hi) / 2) k hk hkm e; rw [h] at this; cases this)
      generalize l[(lo + hi) / 2] = q at *
      have HC := hide (byname_any q A' c' n wr)
      clear hb hT2
      cases hq : Rn.less (q).name n with
      | true =>
        have HL2 := hid_mk (HL.out hq)
        have hx : cmpL q.name.data.toList n.data.toList = -1 := Rn.cmp_less hq
        rw [hx] at HC
        clear hq HL HN hx
        go_wp2_with fail
        refine (unhide HC).mono ?_
        rintro e w3 ⟨rfl, hb3⟩
        have HB3 := hid_mk (HB.out.trans (hb3.mono HB.out.size))
        clear hb3
        go_wp2
        go_roundg (hi - ((lo + hi) / 2 + 1))
        case measure => omega
        case rel => exact ⟨(lo + hi) / 2 + 1, hi, by rw [show ((lo : Int) + (hi : Int)) / 2 + 1 = (((lo + hi) / 2 + 1 : Nat) : Int) by omega], rfl, by omega, hin, Nat.le_refl _, HL2.out, H2.out, HB3.out⟩
      | false =>
        have HN2 := hid_mk (HN.out hq)
        have hx : ¬ cmpL q.name.data.toList n.data.toList < 0 := cmpL_nn hq
        clear hq HL HN
        generalize cmpL q.name.data.toList n.data.toList = x at *
        go_wp2_with fail
        refine (unhide HC).mono ?_
        rintro e w3 ⟨rfl, hb3⟩
        have HB3 := hid_mk (HB.out.trans (hb3.mono HB.out.size))
        clear hb3
        go_wp2
        go_roundg ((lo + hi) / 2 - lo)
        case measure => omega
        case rel => exact ⟨lo, (lo + hi) / 2, rfl, by rw [show ((lo : Int) + (hi : Int)) / 2 = (((lo + hi) / 2 : Nat) : Int) by omega], by omega, by omega, Nat.le_refl _, H1.out, HN2.out, HB3.out⟩
    · obtain rfl : lo = hi := by omega
      have hs : Rn.spotT l n = lo := Rn.spot_is (key := Rn.T.name) (lt := Rn.less) hin H1.out (fun h => H2.out lo h (Nat.le_refl _))
      by_cases hln : lo < l.length
      · obtain ⟨b, o, A', c', e1, hg1, -, -, -, -, y0, y1, y2, y3⟩ := tens_at hT2 hln
        subst e1
        have hh : Rn.hasT l n = decide (cmpL l[lo].name.data.toList n.data.toList = 0) := by
          unfold Rn.hasT
          rw [hs, List.getElem?_eq_getElem hln]
          exact cmpL_z _ _
        have HS := hid_mk hs
        have HH := hid_mk hh
        generalize l[lo] = q at *
        have HC := hide (byname_any q A' c' n wr)
        clear hb hT2 hs hh
        generalize cmpL q.name.data.toList n.data.toList = x at *
        have hx2 : (x == 0) = decide (x = 0) := by rw [Bool.eq_iff_iff]; simp
        generalize decide (x = 0) = z at *
        go_wp2_with fail
        refine (unhide HC).mono ?_
        rintro e w3 ⟨rfl, hb3⟩
        have HB3 := hid_mk (HB.out.trans (hb3.mono HB.out.size))
        clear hb3
        go_wp2
        exact bodyPost_ret (v := .tuple #[.int .i64 (lo : Nat), .bool z]) (by simp [results, Try.results63, go_sem]) rfl ⟨by rw [HS.out, HH.out], HB3.out⟩
      · have hh : Rn.hasT l n = false := by
          unfold Rn.hasT
          rw [hs, List.getElem?_eq_none (by omega)]
        have HS := hid_mk hs
        have HH := hid_mk hh
        obtain rfl : lo = l.length := by omega
        clear hb hT2 hs hh
        go_wp2
        exact bodyPost_ret (v := .tuple #[.int .i64 (l.length : Nat), .bool false]) (by simp [results, Try.results63, go_sem]) rfl ⟨by rw [HS.out, HH.out], HB.out⟩


def binKAt (l : List Rn.K) (n : Int) (w : World) (g : Nat) (u v : Value) (wr : World) : Prop :=
  ∃ lo hi : Nat, u = .int .i64 (lo : Nat) ∧ v = .int .i64 (hi : Nat) ∧ lo ≤ hi ∧ hi ≤ l.length ∧ hi - lo ≤ g ∧ (∀ (k : Nat) (h : k < l.length), k < lo → decide ((l[k]).num < n) = true) ∧ (∀ (k : Nat) (h : k < l.length), hi ≤ k → decide ((l[k]).num < n) = false) ∧ Below w.heap.size w wr
theorem binK_any (l : List Rn.K) (A : Option Addr) (c : Nat) (n : Int) (G : Nat → Prop) (w : World) (hG : ∀ b, G b → b < w.heap.size) (hl : l.length ≤ 1000) (hT : KeysAt G w A l) (hr : Rn.rises Rn.ltK l = true) :
    Calls Try.prog 66 #[.slice A l.length c, .int .i64 n, .func (.func 67) #[] #[]] w (RetG (.tuple #[.int .i64 ((Rn.spotK l n : Nat) : Int), .bool (Rn.hasK l n)]) w) := by
  have HT := hid_mk hT
  have HG := hid_mk hG
  have HR : Hid (∀ (k m : Nat) (hm : m < l.length) (hk : k ≤ m), decide ((l[m]).num < n) = true → decide ((l[k]'(by omega)).num < n) = true) := hid_mk (fun k m hm hk h => Rn.spot_ahead (key := Rn.K.num) (lt := (fun a b => decide (a < b))) Rn.numlt_tr (n := n) hr hm hk h)
  have hl3 : (l.length : Int) ≤ 1000 := by omega
  clear hT hG hr
  go_enter Try.func66, Try.ntmps66
  go_wp2
  go_loopg [9, 10] l.length (fun g u v wr => binKAt l n w g u v wr)
  case atStart => exact ⟨0, l.length, rfl, rfl, Nat.zero_le _, Nat.le_refl _, by omega, fun k h hk => absurd hk (by omega), fun k h hk => absurd hk (by omega), Below.refl _ _⟩
  case round =>
    obtain ⟨lo, hi, rfl, rfl, hlh, hin, hgg, h1, h2, hb⟩ := hrel
    have H1 := hid_mk h1
    have H2 := hid_mk h2
    have HB := hid_mk hb
    have hT2 := keysAt_keep HT.out (fun b h => h) (kept_below hb HG.out)
    clear h1 h2
    by_cases hlt : lo < hi
    · have hm : (lo + hi) / 2 < l.length := by omega
      obtain ⟨b, o, e1, hg1, -, y0, y1⟩ := keys_at hT2 hm
      subst e1
      have HL : Hid (decide ((l[(lo + hi) / 2]).num < n) = true → ∀ (k : Nat) (h : k < l.length), k < (lo + hi) / 2 + 1 → decide ((l[k]).num < n) = true) := hid_mk (fun h k hk hkm => HR.out k _ hm (by omega) h)
      have HN : Hid (decide ((l[(lo + hi) / 2]).num < n) = false → ∀ (k : Nat) (h : k < l.length), (lo + hi) / 2 ≤ k → decide ((l[k]).num < n) = false) := hid_mk (fun h k hk hkm => by
        cases e : decide ((l[k]).num < n) with
        | false => rfl
        | true => have := HR.out ((lo + hi) / 2) k hk hkm e; rw [h] at this; cases this)
      generalize l[(lo + hi) / 2] = q at *
      have HC := hide (bynum_any q n wr)
      clear hb hT2
      cases hq : decide ((q).num < n) with
      | true =>
        have HL2 := hid_mk (HL.out hq)
        have hx : cmpI q.num n = -1 := cmpI_neg hq
        rw [hx] at HC
        clear hq HL HN hx
        go_wp2_with fail
        refine (unhide HC).mono ?_
        rintro e w3 ⟨rfl, hb3⟩
        have HB3 := hid_mk (HB.out.trans (hb3.mono HB.out.size))
        clear hb3
        go_wp2
        go_roundg (hi - ((lo + hi) / 2 + 1))
        case measure => omega
        case rel => exact ⟨(lo + hi) / 2 + 1, hi, by rw [show ((lo : Int) + (hi : Int)) / 2 + 1 = (((lo + hi) / 2 + 1 : Nat) : Int) by omega], rfl, by omega, hin, Nat.le_refl _, HL2.out, H2.out, HB3.out⟩
      | false =>
        have HN2 := hid_mk (HN.out hq)
        have hx : ¬ cmpI q.num n < 0 := cmpI_nn hq
        clear hq HL HN
        generalize cmpI q.num n = x at *
        go_wp2_with fail
        refine (unhide HC).mono ?_
        rintro e w3 ⟨rfl, hb3⟩
        have HB3 := hid_mk (HB.out.trans (hb3.mono HB.out.size))
        clear hb3
        go_wp2
        go_roundg ((lo + hi) / 2 - lo)
        case measure => omega
        case rel => exact ⟨lo, (lo + hi) / 2, rfl, by rw [show ((lo : Int) + (hi : Int)) / 2 = (((lo + hi) / 2 : Nat) : Int) by omega], by omega, by omega, Nat.le_refl _, H1.out, HN2.out, HB3.out⟩
    · obtain rfl : lo = hi := by omega
      have hs : Rn.spotK l n = lo := Rn.spot_is (key := Rn.K.num) (lt := (fun a b => decide (a < b))) hin H1.out (fun h => H2.out lo h (Nat.le_refl _))
      by_cases hln : lo < l.length
      · obtain ⟨b, o, e1, hg1, -, y0, y1⟩ := keys_at hT2 hln
        subst e1
        have hh : Rn.hasK l n = decide (cmpI l[lo].num n = 0) := by
          unfold Rn.hasK
          rw [hs, List.getElem?_eq_getElem hln]
          exact cmpI_z _ _
        have HS := hid_mk hs
        have HH := hid_mk hh
        generalize l[lo] = q at *
        have HC := hide (bynum_any q n wr)
        clear hb hT2 hs hh
        generalize cmpI q.num n = x at *
        have hx2 : (x == 0) = decide (x = 0) := by rw [Bool.eq_iff_iff]; simp
        generalize decide (x = 0) = z at *
        go_wp2_with fail
        refine (unhide HC).mono ?_
        rintro e w3 ⟨rfl, hb3⟩
        have HB3 := hid_mk (HB.out.trans (hb3.mono HB.out.size))
        clear hb3
        go_wp2
        exact bodyPost_ret (v := .tuple #[.int .i64 (lo : Nat), .bool z]) (by simp [results, Try.results66, go_sem]) rfl ⟨by rw [HS.out, HH.out], HB3.out⟩
      · have hh : Rn.hasK l n = false := by
          unfold Rn.hasK
          rw [hs, List.getElem?_eq_none (by omega)]
        have HS := hid_mk hs
        have HH := hid_mk hh
        obtain rfl : lo = l.length := by omega
        clear hb hT2 hs hh
        go_wp2
        exact bodyPost_ret (v := .tuple #[.int .i64 (l.length : Nat), .bool false]) (by simp [results, Try.results66, go_sem]) rfl ⟨by rw [HS.out, HH.out], HB.out⟩

end Go.Proofs.Ytgcgilcalmefgaa
