/- Plain: a state that may be stays one by any change, no number falls, the other tenants stay. -/
import Derived.Test.YtgcgilcalmefgaaRnQ
import Derived.Test.YtgcgilcalmefgaaRnAq
namespace Go.Proofs.Ytgcgilcalmefgaa
open Go
set_option linter.unusedVariables false
namespace Rn
section
variable {α κ : Type} {key : α → κ} {lt : κ → κ → Bool}
theorem rises_map : ∀ (l : List α), rises (fun a b => lt (key a) (key b)) l = rises lt (l.map key)
  | [] => rfl
  | [_] => rfl
  | a :: b :: r => by
    have ih := rises_map (b :: r)
    simp only [rises, List.map_cons] at ih ⊢
    rw [ih]
theorem rises_set {l : List α} {i : Nat} {x : α} (hi : i < l.length) (hk : key x = key l[i]) (h : rises (fun a b => lt (key a) (key b)) l = true) : rises (fun a b => lt (key a) (key b)) (l.set i x) = true := by
  rw [rises_map] at h ⊢
  have e : (l.set i x).map key = l.map key := by
    rw [List.map_set, hk]
    have h2 : key l[i] = (l.map key)[i]'(by simpa using hi) := by simp
    rw [h2, List.set_getElem_self]
  rw [e]; exact h
theorem rises_sub (tr : ∀ a b c, lt a b = true → lt b c = true → lt a c = true) {l m : List α} (hs : m.Sublist l) (h : rises (fun a b => lt (key a) (key b)) l = true) : rises (fun a b => lt (key a) (key b)) m = true :=
  pw_rises (key := key) m ((rises_pw (key := key) tr l h).sublist hs)
theorem rises_ins (tr : ∀ a b c, lt a b = true → lt b c = true → lt a c = true) (tri : ∀ a b, lt a b = false → lt b a = false → a = b) {l : List α} {x : α} (h : rises (fun a b => lt (key a) (key b)) l = true)
    (hno : ∀ y, l[spot key lt l (key x)]? = some y → key y ≠ key x) : rises (fun a b => lt (key a) (key b)) (ins l (spot key lt l (key x)) x) = true := by
  obtain ⟨pre, post, e, hs, hp, hq⟩ := parted (key := key) (lt := lt) tr tri l (key x) h
  have hpw := rises_pw (key := key) tr l h
  refine pw_rises (key := key) _ ?_
  rw [hs] at hno
  rw [hs]
  unfold ins
  subst e
  rw [List.take_left', List.drop_left'] <;> try rfl
  rw [List.pairwise_append] at hpw ⊢
  have hpost : ∀ z ∈ post, lt (key x) (key z) = true := by
    rcases hq with rfl | ⟨y, r, rfl, hy, hr⟩
    · intro z hz; cases hz
    · have hy2 : lt (key x) (key y) = true := by
        cases e : lt (key x) (key y) with
        | true => rfl
        | false => exact absurd (tri _ _ hy e) (hno y (by simp))
      intro z hz
      rcases List.mem_cons.1 hz with rfl | hz
      · exact hy2
      · exact hr z hz
  refine ⟨hpw.1, List.pairwise_cons.2 ⟨hpost, hpw.2.1⟩, fun a ha b hb => ?_⟩
  rcases List.mem_cons.1 hb with rfl | hb
  · exact hp a ha
  · exact tr _ _ _ (hp a ha) (hpost b hb)
theorem mem_ins {l : List α} {i : Nat} {x y : α} : y ∈ ins l i x ↔ y = x ∨ y ∈ l := by
  unfold ins
  rw [List.mem_append, List.mem_cons]
  constructor
  · rintro (h | rfl | h)
    · exact Or.inr (List.mem_of_mem_take h)
    · exact Or.inl rfl
    · exact Or.inr (List.mem_of_mem_drop h)
  · rintro (rfl | h)
    · exact Or.inr (Or.inl rfl)
    · rw [← List.take_append_drop i l, List.mem_append] at h
      rcases h with h | h
      · exact Or.inl h
      · exact Or.inr (Or.inr h)
theorem ins_length {l : List α} {i : Nat} {x : α} (h : i ≤ l.length) : (ins l i x).length = l.length + 1 := by
  unfold ins
  simp; omega
theorem del_sub {l : List α} {i : Nat} : (del l i).Sublist l := by
  unfold del
  have h : (l.take i ++ l.drop (i + 1)).Sublist (l.take i ++ l.drop i) := List.Sublist.append (List.Sublist.refl _) (by
    rw [← List.drop_drop]; exact List.drop_sublist _ _)
  rwa [List.take_append_drop] at h
end
theorem right_mk {s : S} (h1 : s.tens.length ≤ 16) (h2 : fromB s.serial 0 = true) (h3 : ∀ t ∈ s.tens, tenB t = true) (h4 : rises ltT s.tens = true) : right s = true := by
  unfold right
  simp only [Bool.and_eq_true, decide_eq_true_eq, List.all_eq_true]
  exact ⟨⟨⟨h1, h2⟩, h3⟩, h4⟩
theorem ten_mk {t : T} (h1 : Nm.wordB t.name.data.toList = true) (h2 : fromB t.epoch 0 = true) (h3 : fromB t.next 1 = true) (h4 : t.keys.length ≤ 8) (h5 : ∀ k ∈ t.keys, keyB t.next k = true) (h6 : rises ltK t.keys = true) : tenB t = true := by
  unfold tenB
  simp only [Bool.and_eq_true, decide_eq_true_eq, List.all_eq_true]
  exact ⟨⟨⟨⟨⟨h1, h2⟩, h3⟩, h4⟩, h5⟩, h6⟩
theorem keyB_iff {n : Int} {k : K} : keyB n k = true ↔ 1 ≤ k.num ∧ k.num < n ∧ k.txt.size = 32 := by
  unfold keyB
  rw [Bool.not_eq_true', Bool.or_eq_false_iff, Bool.or_eq_false_iff]
  simp only [decide_eq_false_iff_not, Bool.not_eq_false', decide_eq_true_eq]
  omega
/-- a tenant stays, or rises -/
def Up (e : E) (t x : T) : Prop := x.name = t.name ∧ t.epoch ≤ x.epoch ∧ t.next ≤ x.next ∧ (t.name ≠ e.ten → x = t)
def Rose (e : E) (s r : S) : Prop := right r = true ∧ s.serial ≤ r.serial ∧ s.tens.length ≤ r.tens.length ∧ ∀ t ∈ s.tens, ∃ x ∈ r.tens, Up e t x
theorem up_refl (e : E) (t : T) : Up e t t := ⟨rfl, Int.le_refl _, Int.le_refl _, fun _ => rfl⟩
theorem rose_set {s : S} {e : E} {i : Nat} {x : T} (hr : right s = true) (hi : i < s.tens.length) (hn : s.tens[i].name = e.ten) (hx : tenB x = true) (hxn : x.name = s.tens[i].name) (he : s.tens[i].epoch ≤ x.epoch) (hne : s.tens[i].next ≤ x.next) : Rose e s ⟨s.tens.set i x, s.serial⟩ := by
  obtain ⟨h1, h2, h3, h4⟩ := right_parts hr
  refine ⟨right_mk (by simpa using h1) h2 (fun t ht => ?_) (rises_set (key := T.name) (lt := less) hi hxn h4), Int.le_refl _, by simp, fun t ht => ?_⟩
  · rcases List.mem_or_eq_of_mem_set ht with h | rfl
    · exact h3 t h
    · exact hx
  · obtain ⟨j, hj, rfl⟩ := List.mem_iff_getElem.1 ht
    by_cases hji : j = i
    · subst hji
      exact ⟨x, List.mem_iff_getElem.2 ⟨j, by simpa using hj, by simp⟩, hxn, he, hne, fun h => absurd hn h⟩
    · exact ⟨s.tens[j], List.mem_iff_getElem.2 ⟨j, by simpa using hj, by rw [List.getElem_set_ne (by omega)]⟩, up_refl _ _⟩
theorem do_rose {s r : S} {e : E} (hr : right s = true) (hf : form e = true) (h : doE s e = .ok r) : Rose e s r := by
  obtain ⟨h16, hser, htens, hris⟩ := right_parts hr
  obtain ⟨kind, ten, num, epoch, txt⟩ := e
  rcases form_kind hf with hk | hk | hk | hk
  · obtain rfl : kind = 1 := hk
    obtain ⟨hw, he, hn, -⟩ := form_one hf
    rw [do_one] at h
    unfold doTen at h
    dsimp only at h
    cases hh : hasT s.tens ten with
    | false =>
      rw [hh] at h
      by_cases h16' : s.tens.length = 16
      · rw [if_pos ⟨rfl, h16'⟩] at h; cases h
      · rw [if_neg (fun h => h16' h.2), if_neg (by simp), ins_get _ (spotT_le _ _)] at h
        dsimp only at h
        rw [fromB_iff] at he hn
        rw [if_neg (by show ¬ (epoch < (0 : Int) ∨ num < (0 : Int)); omega), ins_set _ (spotT_le _ _)] at h
        cases h
        refine ⟨right_mk (by rw [ins_length (spotT_le _ _)]; omega) hser (fun t ht => ?_) ?_, Int.le_refl _, by rw [ins_length (spotT_le _ _)]; omega, fun t ht => ⟨t, mem_ins.2 (Or.inr ht), up_refl _ _⟩⟩
        · rcases mem_ins.1 ht with rfl | ht
          · exact ten_mk hw (fromB_iff.2 he) (fromB_iff.2 hn) (by simp [zeroT]) (fun k hk => by simp [zeroT] at hk) rfl
          · exact htens t ht
        · refine rises_ins (key := T.name) (lt := less) less_tr less_tri (x := ⟨ten, epoch, num, []⟩) hris (fun y hy hyn => ?_)
          unfold hasT at hh
          have hy' : s.tens[spotT s.tens ten]? = some y := hy
          rw [hy'] at hh
          dsimp only at hh hyn
          rw [hyn] at hh
          simp at hh
    | true =>
      obtain ⟨hi, hnm⟩ := spotT_hit hh
      rw [hh, if_neg (fun h => by cases h.1), if_pos rfl, List.getElem?_eq_getElem hi] at h
      dsimp only at h
      by_cases h1 : epoch < s.tens[spotT s.tens ten].epoch ∨ num < s.tens[spotT s.tens ten].next
      · rw [if_pos h1] at h; cases h
      · rw [if_neg h1] at h
        cases h
        obtain ⟨k1, k2, k3, k4, k5, k6⟩ := ten_parts (htens _ (List.getElem_mem hi))
        refine rose_set hr hi hnm (ten_mk k1 he hn k4 (fun k hk => ?_) k6) rfl (by dsimp only; omega) (by dsimp only; omega)
        have := keyB_iff.1 (k5 k hk)
        exact keyB_iff.2 ⟨this.1, by dsimp only; omega, this.2.2⟩
  · obtain rfl : kind = 2 := hk
    obtain ⟨hw, he, hn, ht⟩ := form_two hf
    rw [do_two] at h
    unfold doKey at h
    dsimp only at h
    cases hh : hasT s.tens ten with
    | false => rw [hh, if_pos rfl] at h; cases h
    | true =>
      obtain ⟨hi, hnm⟩ := spotT_hit hh
      rw [hh, if_neg (by decide), List.getElem?_eq_getElem hi] at h
      dsimp only at h
      rw [if_neg (by decide)] at h
      obtain ⟨k1, k2, k3, k4, k5, k6⟩ := ten_parts (htens _ (List.getElem_mem hi))
      by_cases h1 : s.tens[spotT s.tens ten].next ≤ num
      · rw [if_pos h1] at h; cases h
      rw [if_neg h1] at h
      cases hk : hasK s.tens[spotT s.tens ten].keys num with
      | true => rw [hk, if_pos rfl] at h; cases h
      | false =>
        rw [hk, if_neg (by decide)] at h
        by_cases h8 : s.tens[spotT s.tens ten].keys.length = 8
        · rw [if_pos h8] at h; cases h
        rw [if_neg h8] at h
        cases h
        rw [fromB_iff] at hn
        refine rose_set hr hi hnm (ten_mk k1 k2 k3 (by show (ins _ _ _).length ≤ 8; rw [ins_length (spotK_le _ _)]; omega) (fun k hkm => ?_) ?_) rfl (Int.le_refl _) (Int.le_refl _)
        · rcases mem_ins.1 hkm with rfl | hkm
          · exact keyB_iff.2 ⟨hn.1, by dsimp only; omega, ht⟩
          · exact k5 k hkm
        · refine rises_ins (key := K.num) (lt := fun a b => decide (a < b)) numlt_tr numlt_tri (x := ⟨num, txt⟩) k6 (fun y hy hyn => ?_)
          unfold hasK at hk
          have hy' : s.tens[spotT s.tens ten].keys[spotK s.tens[spotT s.tens ten].keys num]? = some y := hy
          rw [hy'] at hk
          dsimp only at hk hyn
          rw [hyn] at hk
          simp at hk
  · obtain rfl : kind = 3 := hk
    rw [do_three] at h
    unfold doKey at h
    dsimp only at h
    cases hh : hasT s.tens ten with
    | false => rw [hh, if_pos rfl] at h; cases h
    | true =>
      obtain ⟨hi, hnm⟩ := spotT_hit hh
      rw [hh, if_neg (by decide), List.getElem?_eq_getElem hi] at h
      dsimp only at h
      rw [if_pos rfl] at h
      obtain ⟨k1, k2, k3, k4, k5, k6⟩ := ten_parts (htens _ (List.getElem_mem hi))
      cases hk : hasK s.tens[spotT s.tens ten].keys num with
      | false => rw [hk, if_pos rfl] at h; cases h
      | true =>
        rw [hk, if_neg (by decide)] at h
        cases h
        have hsub := del_sub (l := s.tens[spotT s.tens ten].keys) (i := spotK s.tens[spotT s.tens ten].keys num)
        exact rose_set hr hi hnm (ten_mk k1 k2 k3 (Nat.le_trans hsub.length_le k4) (fun k hkm => k5 k (hsub.mem hkm)) (rises_sub (key := K.num) (lt := fun a b => decide (a < b)) numlt_tr hsub k6)) rfl (Int.le_refl _) (Int.le_refl _)
  · obtain rfl : kind = 4 := hk
    obtain ⟨-, -, hn, -⟩ := form_four hf
    rw [do_four] at h
    by_cases h1 : num < s.serial
    · rw [if_pos h1] at h; cases h
    · rw [if_neg h1] at h
      cases h
      exact ⟨right_mk h16 hn htens hris, by dsimp only; omega, Nat.le_refl _, fun t ht => ⟨t, ht, up_refl _ _⟩⟩
theorem apply_rose {s r : S} {e : E} (h : apply s e = .ok r) : Rose e s r := by
  cases hr : right s with
  | false => rw [apply_bad hr] at h; cases h
  | true =>
  cases hf : form e with
  | false => rw [apply_form hr hf] at h; cases h
  | true => rw [apply_do hr hf] at h; exact do_rose hr hf h
/-- where a tenant of a state that may be is found -/
theorem find_mem {l : List T} (h : rises ltT l = true) {x : T} (hx : x ∈ l) : ∃ (j : Nat) (hj : j < l.length), findI l x.name = (j : Int) ∧ l[j] = x := by
  obtain ⟨j, hj, rfl⟩ := List.mem_iff_getElem.1 hx
  refine ⟨j, hj, findI_at hj rfl (fun i hi hij hn => ?_), rfl⟩
  have hp := rises_pw (key := T.name) less_tr l h
  have h1 := List.pairwise_iff_getElem.1 hp i j hi hj hij
  rw [hn, less_irr] at h1
  cases h1
/-- changes one behind the other, as the reference does them -/
theorem run_cons {s : S} {e : E} {r : List E} (hr : right s = true) : run s (e :: r) = match apply s e with | .ok t => run t r | .bad x => .bad x := by
  cases hf : form e with
  | false =>
    rw [apply_form hr hf]
    unfold run
    rw [if_pos hf]
  | true =>
    rw [apply_do hr hf]
    conv => lhs; unfold run
    rw [hf, if_neg (by decide)]
    cases doE s e <;> rfl
theorem run_eq (s : S) (e : E) (r : List E) : run s (e :: r) = if form e = false then .bad 2 else match doE s e with | .ok t => run t r | .bad x => .bad x := by
  conv => lhs; unfold run
  cases doE s e <;> rfl
theorem run_append {l r : List E} : ∀ {s : S}, run s (l ++ r) = match run s l with | .ok t => run t r | .bad x => .bad x := by
  induction l with
  | nil => intro s; rfl
  | cons e l ih =>
    intro s
    rw [List.cons_append, run_eq, run_eq]
    by_cases hf : form e = false
    · rw [if_pos hf, if_pos hf]
    · rw [if_neg hf, if_neg hf]
      cases doE s e with
      | bad x => rfl
      | ok t => exact ih
theorem run_right {l : List E} : ∀ {s t : S}, right s = true → run s l = .ok t → right t = true := by
  induction l with
  | nil => intro s t h e; cases e; exact h
  | cons e l ih =>
    intro s t h hh
    rw [run_cons h] at hh
    cases ha : apply s e with
    | bad x => rw [ha] at hh; cases hh
    | ok u => rw [ha] at hh; exact ih (apply_rose ha).1 hh
end Rn
end Go.Proofs.Ytgcgilcalmefgaa
