/- Plain: what the reference does to a state is what is done (lists that rise, and a place in them). -/
import Derived.Test.YtgcgilcalmefgaaRnZ
import Derived.Test.YtgcgilcalmefgaaRnK
import Derived.Test.YtgcgilcalmefgaaRnX
namespace Go.Proofs.Ytgcgilcalmefgaa
open Go Go.RowKit Go.Sort
set_option linter.unusedVariables false
namespace Rn
theorem less_def (a b : ByteArray) : less a b = decide (a.data.toList < b.data.toList) := by
  unfold less
  rw [bytesLess_eq, toList_dat, toList_dat]
theorem less_irr (a : ByteArray) : less a a = false := by
  rw [less_def]; exact decide_eq_false (List.lt_irrefl _)
theorem less_tr (a b c : ByteArray) (h : less a b = true) (k : less b c = true) : less a c = true := by
  rw [less_def, decide_eq_true_iff] at *
  exact List.lt_trans h k
theorem less_tri (a b : ByteArray) (h : less a b = false) (k : less b a = false) : a = b := by
  rw [less_def, decide_eq_false_iff_not] at *
  have e : a.data.toList = b.data.toList := List.le_antisymm (List.not_lt.1 k) (List.not_lt.1 h)
  cases a; cases b
  simp at e
  rw [e]
theorem numlt_irr (a : Int) : decide (a < a) = false := by simp
theorem numlt_tr (a b c : Int) (h : decide (a < b) = true) (k : decide (b < c) = true) : decide (a < c) = true := by simp at *; omega
theorem numlt_tri (a b : Int) (h : decide (a < b) = false) (k : decide (b < a) = false) : a = b := by simp at *; omega
section
variable {α κ : Type} {key : α → κ} {lt : κ → κ → Bool}
theorem rises_pw (tr : ∀ a b c, lt a b = true → lt b c = true → lt a c = true) : ∀ (l : List α), rises (fun a b => lt (key a) (key b)) l = true → l.Pairwise (fun a b => lt (key a) (key b) = true)
  | [], _ => List.Pairwise.nil
  | [a], _ => List.pairwise_singleton _ _
  | a :: b :: r, h => by
    simp only [rises, Bool.and_eq_true] at h
    have ih := rises_pw tr (b :: r) h.2
    refine List.pairwise_cons.2 ⟨fun x hx => ?_, ih⟩
    rcases List.mem_cons.1 hx with rfl | hx
    · exact h.1
    · exact tr _ _ _ h.1 ((List.pairwise_cons.1 ih).1 x hx)
theorem pw_rises : ∀ (l : List α), l.Pairwise (fun a b => lt (key a) (key b) = true) → rises (fun a b => lt (key a) (key b)) l = true
  | [], _ => rfl
  | [a], _ => rfl
  | a :: b :: r, h => by
    have h1 := List.pairwise_cons.1 h
    simp only [rises, Bool.and_eq_true]
    exact ⟨h1.1 b (by simp), pw_rises (b :: r) h1.2⟩
def spot (key : α → κ) (lt : κ → κ → Bool) (l : List α) (n : κ) : Nat := (l.takeWhile (fun x => lt (key x) n)).length
/-- a list that rises, parted at a key -/
theorem parted (tr : ∀ a b c, lt a b = true → lt b c = true → lt a c = true) (tri : ∀ a b, lt a b = false → lt b a = false → a = b) (l : List α) (n : κ) (h : rises (fun a b => lt (key a) (key b)) l = true) :
    ∃ pre post, l = pre ++ post ∧ spot key lt l n = pre.length ∧ (∀ x ∈ pre, lt (key x) n = true) ∧ (post = [] ∨ ∃ y r, post = y :: r ∧ lt (key y) n = false ∧ ∀ z ∈ r, lt n (key z) = true) := by
  refine ⟨l.takeWhile (fun x => lt (key x) n), l.dropWhile (fun x => lt (key x) n), List.takeWhile_append_dropWhile.symm, rfl, fun x hx => List.all_eq_true.1 List.all_takeWhile x hx, ?_⟩
  have hp := rises_pw tr l h
  cases hd : l.dropWhile (fun x => lt (key x) n) with
  | nil => exact Or.inl rfl
  | cons y r =>
    refine Or.inr ⟨y, r, rfl, ?_, fun z hz => ?_⟩
    · have h1 := List.head?_dropWhile_not (fun x => lt (key x) n) l
      rw [hd] at h1
      simpa using h1
    · have hy : lt (key y) n = false := by
        have h1 := List.head?_dropWhile_not (fun x => lt (key x) n) l
        rw [hd] at h1
        simpa using h1
      have hs : (y :: r).Sublist l := by rw [← hd]; exact List.dropWhile_sublist _
      have h2 := (List.pairwise_cons.1 (hp.sublist hs)).1 z hz
      cases hn : lt n (key y) with
      | false => rw [tri _ _ hy hn] at h2; exact h2
      | true => exact tr _ _ _ hn h2
end
theorem ltT_rises (l : List T) : rises ltT l = rises (fun a b => less (T.name a) (T.name b)) l := rfl
theorem ltK_rises (l : List K) : rises ltK l = rises (fun a b => decide (K.num a < K.num b)) l := rfl
theorem partT {l : List T} (n : ByteArray) (h : rises ltT l = true) : ∃ pre post, l = pre ++ post ∧ spotT l n = pre.length ∧ (∀ x ∈ pre, less x.name n = true) ∧ (post = [] ∨ ∃ y r, post = y :: r ∧ less y.name n = false ∧ ∀ z ∈ r, less n z.name = true) :=
  parted (key := T.name) (lt := less) less_tr less_tri l n h
theorem partK {l : List K} (n : Int) (h : rises ltK l = true) : ∃ pre post, l = pre ++ post ∧ spotK l n = pre.length ∧ (∀ x ∈ pre, x.num < n) ∧ (post = [] ∨ ∃ y r, post = y :: r ∧ n ≤ y.num ∧ ∀ z ∈ r, n < z.num) := by
  obtain ⟨pre, post, h1, h2, h3, h4⟩ := parted (key := K.num) (lt := fun a b => decide (a < b)) numlt_tr numlt_tri l n h
  refine ⟨pre, post, h1, h2, fun x hx => by simpa using h3 x hx, ?_⟩
  rcases h4 with h4 | ⟨y, r, h5, h6, h7⟩
  · exact Or.inl h4
  · exact Or.inr ⟨y, r, h5, by simpa using h6, fun z hz => by simpa using h7 z hz⟩
theorem cmp_less {a b : ByteArray} (h : less a b = true) : cmpL a.data.toList b.data.toList = -1 := by
  unfold cmpL less at *
  rw [toList_dat, toList_dat] at h
  rw [if_pos h]
theorem cmp_gr {a b : ByteArray} (h : less b a = true) : cmpL a.data.toList b.data.toList = 1 := by
  have h1 : less a b = false := by
    cases e : less a b with
    | false => rfl
    | true => have := less_tr _ _ _ e h; rw [less_irr] at this; cases this
  have h2 : ¬ a.data.toList = b.data.toList := fun e => by
    have e2 : a = b := by cases a; cases b; simp at e; rw [e]
    rw [e2, less_irr] at h; cases h
  unfold cmpL
  unfold less at h1
  rw [toList_dat, toList_dat] at h1
  rw [h1, if_neg (by simp), if_neg h2]
theorem ne_less {a b : ByteArray} (h : less a b = true) : ¬ a = b := fun e => by rw [e, less_irr] at h; cases h
/-- put: in the place, or at it -/
theorem putRun_less (t : T) : ∀ (l : List T) (p : List T × Bool), (∀ x ∈ l, less x.name t.name = true) → l.foldl (putStep t) p = (p.1 ++ l, p.2)
  | [], p, _ => by simp
  | x :: r, p, h => by
    have hx := cmp_less (h x (by simp))
    have e : putStep t p x = (p.1 ++ [x], p.2) := by
      unfold putStep
      rw [hx]
      rw [if_neg (fun h => absurd h.2 (by decide)), if_neg (by decide)]
    rw [List.foldl_cons, e, putRun_less t r _ (fun y hy => h y (by simp [hy]))]
    simp
theorem putRun_gr (t : T) : ∀ (l : List T) (p : List T × Bool), p.2 = true → (∀ x ∈ l, less t.name x.name = true) → l.foldl (putStep t) p = (p.1 ++ l, true)
  | [], p, h, _ => by simp [← h]
  | x :: r, p, h0, h => by
    have hx := cmp_gr (h x (by simp))
    have e : putStep t p x = (p.1 ++ [x], p.2) := by
      unfold putStep
      rw [hx]
      rw [if_neg (fun h => by rw [h0] at h; cases h.1), if_neg (by decide)]
    rw [List.foldl_cons, e, putRun_gr t r (p.1 ++ [x], p.2) h0 (fun y hy => h y (by simp [hy]))]
    simp
theorem hasT_at {l : List T} {n : ByteArray} {pre : List T} (h : l = pre) (hs : spotT l n = pre.length) : hasT l n = false := by
  unfold hasT
  rw [hs, h, List.getElem?_eq_none (Nat.le_refl _)]
theorem putT_new {l : List T} {t : T} (h : rises ltT l = true) (hh : hasT l t.name = false) : putT l t = ins l (spotT l t.name) t := by
  obtain ⟨pre, post, e, hs, hp, hq⟩ := partT t.name h
  unfold putT putRun ins
  rw [hs]
  subst e
  rw [List.foldl_append, putRun_less t pre _ hp]
  rcases hq with rfl | ⟨y, r, rfl, hy, hr⟩
  · simp
  · have hne : ¬ y.name = t.name := fun e => by
      unfold hasT at hh
      rw [hs] at hh
      simp [e] at hh
    have hgy : less t.name y.name = true := by
      cases e : less t.name y.name with
      | true => rfl
      | false => exact absurd (less_tri _ _ hy e) hne
    have e : putStep t ([] ++ pre, false) y = (pre ++ [t] ++ [y], true) := by
      unfold putStep
      rw [cmp_gr hgy]
      rw [if_pos ⟨rfl, by decide⟩, if_neg (by decide)]
      rfl
    rw [List.foldl_cons, e, putRun_gr t r _ rfl hr]
    simp
theorem hasT_get {l : List T} {n : ByteArray} (h : hasT l n = true) : ∃ t, l[spotT l n]? = some t ∧ t.name = n := by
  unfold hasT at h
  cases e : l[spotT l n]? with
  | none => rw [e] at h; cases h
  | some t => rw [e] at h; exact ⟨t, rfl, by simpa using h⟩
theorem putT_old {l : List T} {t : T} (h : rises ltT l = true) (hh : hasT l t.name = true) : putT l t = l.set (spotT l t.name) t := by
  obtain ⟨x, hx1, hx2⟩ := hasT_get hh
  obtain ⟨pre, post, e, hs, hp, hq⟩ := partT t.name h
  unfold putT putRun
  rw [hs] at hx1 ⊢
  subst e
  rw [List.foldl_append, putRun_less t pre _ hp]
  rcases hq with rfl | ⟨y, r, rfl, hy, hr⟩
  · simp at hx1
  · have hxy : y = x := by simpa using hx1
    subst hxy
    have e : putStep t ([] ++ pre, false) y = (pre ++ [t], true) := by
      unfold putStep
      rw [hx2, cmpL_self]
      rw [if_pos ⟨rfl, by decide⟩, if_pos rfl]
      rfl
    rw [List.foldl_cons, e, putRun_gr t r _ rfl hr]
    simp
theorem findI_has {l : List T} {n : ByteArray} (h : rises ltT l = true) : findI l n = if hasT l n = true then ((spotT l n : Nat) : Int) else -1 := by
  obtain ⟨pre, post, e, hs, hp, hq⟩ := partT n h
  split
  · rename_i hh
    obtain ⟨x, hx1, hx2⟩ := hasT_get hh
    have hlt : spotT l n < l.length := (List.getElem?_eq_some_iff.1 hx1).1
    refine findI_at hlt ?_ (fun i hi hik => ?_)
    · rw [List.getElem?_eq_getElem hlt] at hx1
      injection hx1 with hx1
      rw [hx1, hx2]
    · rw [hs] at hik
      have : l[i] ∈ pre := by
        subst e
        rw [List.getElem_append_left hik]
        exact List.getElem_mem _
      exact ne_less (hp _ this)
  · rename_i hh
    refine findI_none (fun i hi hn => hh ?_)
    obtain ⟨x, hm, hxn⟩ : ∃ x, x ∈ l ∧ x.name = n := ⟨_, List.getElem_mem hi, hn⟩
    rw [e] at hm
    rcases List.mem_append.1 hm with hm | hm
    · exact absurd hxn (ne_less (hp _ hm))
    · rcases hq with rfl | ⟨y, r, rfl, hy, hr⟩
      · simp at hm
      · unfold hasT
        rw [hs]
        have e2 : l[pre.length]? = some y := by rw [e]; simp
        rw [e2]
        rcases List.mem_cons.1 hm with hm | hm
        · simp [← hm]; exact hxn
        · exact absurd hxn.symm (ne_less (hr _ hm))
theorem withRun_less (k : K) : ∀ (l : List K) (p : List K × Bool), (∀ x ∈ l, x.num < k.num) → l.foldl (withStep k) p = (p.1 ++ l, p.2)
  | [], p, _ => by simp
  | x :: r, p, h => by
    have hx := h x (by simp)
    have e : withStep k p x = (p.1 ++ [x], p.2) := by
      unfold withStep
      rw [if_neg (fun h => by omega)]
    rw [List.foldl_cons, e, withRun_less k r _ (fun y hy => h y (by simp [hy]))]
    simp
theorem withRun_gr (k : K) : ∀ (l : List K) (p : List K × Bool), p.2 = true → l.foldl (withStep k) p = (p.1 ++ l, true)
  | [], p, h => by simp [← h]
  | x :: r, p, h0 => by
    have e : withStep k p x = (p.1 ++ [x], p.2) := by
      unfold withStep
      rw [if_neg (fun h => by rw [h0] at h; cases h.1)]
    rw [List.foldl_cons, e, withRun_gr k r (p.1 ++ [x], p.2) h0]
    simp
theorem hasK_get {l : List K} {n : Int} (h : hasK l n = true) : ∃ t, l[spotK l n]? = some t ∧ t.num = n := by
  unfold hasK at h
  cases e : l[spotK l n]? with
  | none => rw [e] at h; cases h
  | some t => rw [e] at h; exact ⟨t, rfl, by simpa using h⟩
theorem withK_new {l : List K} {k : K} (h : rises ltK l = true) (hh : hasK l k.num = false) : withK l k = ins l (spotK l k.num) k := by
  obtain ⟨pre, post, e, hs, hp, hq⟩ := partK k.num h
  unfold withK withRun ins
  rw [hs]
  subst e
  rw [List.foldl_append, withRun_less k pre _ hp]
  rcases hq with rfl | ⟨y, r, rfl, hy, hr⟩
  · simp
  · have hne : ¬ y.num = k.num := fun e => by
      unfold hasK at hh
      rw [hs] at hh
      simp [e] at hh
    have e : withStep k ([] ++ pre, false) y = (pre ++ [k] ++ [y], true) := by
      unfold withStep
      rw [if_pos ⟨rfl, by omega⟩]
      rfl
    rw [List.foldl_cons, e, withRun_gr k r _ rfl]
    simp
theorem keyI_has {l : List K} {n : Int} (h : rises ltK l = true) : keyI l n = if hasK l n = true then ((spotK l n : Nat) : Int) else -1 := by
  obtain ⟨pre, post, e, hs, hp, hq⟩ := partK n h
  split
  · rename_i hh
    obtain ⟨x, hx1, hx2⟩ := hasK_get hh
    have hlt : spotK l n < l.length := (List.getElem?_eq_some_iff.1 hx1).1
    refine keyI_at hlt ?_ (fun i hi hik => ?_)
    · rw [List.getElem?_eq_getElem hlt] at hx1
      injection hx1 with hx1
      rw [hx1, hx2]
    · rw [hs] at hik
      have : l[i] ∈ pre := by
        subst e
        rw [List.getElem_append_left hik]
        exact List.getElem_mem _
      have := hp _ this
      omega
  · rename_i hh
    refine keyI_none (fun i hi hn => hh ?_)
    obtain ⟨x, hm, hxn⟩ : ∃ x, x ∈ l ∧ x.num = n := ⟨_, List.getElem_mem hi, hn⟩
    rw [e] at hm
    rcases List.mem_append.1 hm with hm | hm
    · have := hp _ hm; omega
    · rcases hq with rfl | ⟨y, r, rfl, hy, hr⟩
      · simp at hm
      · unfold hasK
        rw [hs]
        have e2 : l[pre.length]? = some y := by rw [e]; simp
        rw [e2]
        rcases List.mem_cons.1 hm with hm | hm
        · simp [← hm]; exact hxn
        · have := hr _ hm; omega
end Rn
end Go.Proofs.Ytgcgilcalmefgaa
