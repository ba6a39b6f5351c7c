/- porterref38.Apply: a change done, or what is wrong: as Rn.apply. -/
import Derived.Test.YtgcgilcalmefgaaRnAp
import Derived.Test.YtgcgilcalmefgaaRnQ
namespace Go.Proofs.Ytgcgilcalmefgaa
open Go Go.RowKit Go.Sort
set_option maxRecDepth 100000
set_option linter.unusedSimpArgs false
set_option linter.unusedVariables false
namespace Rn
theorem right_parts {s : S} (h : right s = true) : s.tens.length ≤ 16 ∧ fromB s.serial 0 = true ∧ (∀ t ∈ s.tens, tenB t = true) ∧ rises ltT s.tens = true := by
  unfold right at h
  simp only [Bool.and_eq_true, decide_eq_true_eq, List.all_eq_true] at h
  exact ⟨h.1.1.1, h.1.1.2, h.1.2, h.2⟩
theorem ten_parts {t : T} (h : tenB t = true) : Nm.wordB t.name.data.toList = true ∧ fromB t.epoch 0 = true ∧ fromB t.next 1 = true ∧ t.keys.length ≤ 8 ∧ (∀ k ∈ t.keys, keyB t.next k = true) ∧ rises ltK t.keys = true := by
  unfold tenB at h
  simp only [Bool.and_eq_true, decide_eq_true_eq, List.all_eq_true] at h
  obtain ⟨⟨⟨⟨⟨h1, h2⟩, h3⟩, h4⟩, h5⟩, h6⟩ := h
  exact ⟨h1, h2, h3, h4, h5, h6⟩
theorem fromB_iff {n f : Int} : fromB n f = true ↔ f ≤ n ∧ n ≤ 1099511627776 := by
  unfold fromB
  rw [Bool.and_eq_true, decide_eq_true_iff, decide_eq_true_iff]
theorem apply_bad {s : S} {e : E} (h : right s = false) : apply s e = .bad 7 := by unfold apply all; rw [if_pos h]
theorem apply_form {s : S} {e : E} (h : right s = true) (hf : form e = false) : apply s e = .bad 2 := by
  unfold apply all
  rw [h, if_neg (by decide)]
  unfold run
  rw [if_pos hf]
theorem apply_do {s : S} {e : E} (h : right s = true) (hf : form e = true) : apply s e = doE s e := by
  unfold apply all
  rw [h, if_neg (by decide)]
  unfold run
  rw [hf, if_neg (by decide)]
  cases doE s e <;> rfl
theorem form_kind {e : E} (h : form e = true) : e.kind = 1 ∨ e.kind = 2 ∨ e.kind = 3 ∨ e.kind = 4 := by
  unfold form at h
  by_cases h1 : e.kind = 1
  · exact Or.inl h1
  · rw [if_neg h1] at h
    by_cases h2 : e.kind = 2
    · exact Or.inr (Or.inl h2)
    · rw [if_neg h2] at h
      by_cases h3 : e.kind = 3
      · exact Or.inr (Or.inr (Or.inl h3))
      · rw [if_neg h3] at h
        by_cases h4 : e.kind = 4
        · exact Or.inr (Or.inr (Or.inr h4))
        · rw [if_neg h4] at h; cases h
theorem ins_set {α : Type} (l : List α) {i : Nat} (h : i ≤ l.length) (x y : α) : (ins l i x).set i y = ins l i y := by
  unfold ins
  rw [List.set_append_right _ _ (by simp; omega)]
  have : i - (l.take i).length = 0 := by simp; omega
  rw [this]
  rfl
theorem ins_get {α : Type} (l : List α) {i : Nat} (h : i ≤ l.length) (x : α) : (ins l i x)[i]? = some x := by
  unfold ins
  rw [List.getElem?_append_right (by simp; omega)]
  have : i - (l.take i).length = 0 := by simp; omega
  rw [this]
  rfl
theorem spotT_le (l : List T) (n : ByteArray) : spotT l n ≤ l.length := by
  unfold spotT
  have h := congrArg List.length (List.takeWhile_append_dropWhile (p := fun t => less t.name n) (l := l))
  rw [List.length_append] at h
  omega
theorem spotK_le (l : List K) (n : Int) : spotK l n ≤ l.length := by
  unfold spotK
  have h := congrArg List.length (List.takeWhile_append_dropWhile (p := fun t => decide (K.num t < n)) (l := l))
  rw [List.length_append] at h
  omega
theorem form_one {ten txt : ByteArray} {num epoch : Int} (h : form ⟨1, ten, num, epoch, txt⟩ = true) : Nm.wordB ten.data.toList = true ∧ fromB epoch 0 = true ∧ fromB num 1 = true ∧ txt.size = 0 := by
  unfold form at h
  simp only [if_pos, Bool.and_eq_true, decide_eq_true_eq] at h
  exact ⟨h.1.1.1, h.1.1.2, h.1.2, h.2⟩
theorem form_two {ten txt : ByteArray} {num epoch : Int} (h : form ⟨2, ten, num, epoch, txt⟩ = true) : Nm.wordB ten.data.toList = true ∧ epoch = 0 ∧ fromB num 1 = true ∧ txt.size = 32 := by
  unfold form at h
  rw [if_neg (by show ¬ (2 : Int) = 1; decide), if_pos rfl] at h
  simp only [Bool.and_eq_true, decide_eq_true_eq] at h
  exact ⟨h.1.1.1, h.1.1.2, h.1.2, h.2⟩
theorem form_three {ten txt : ByteArray} {num epoch : Int} (h : form ⟨3, ten, num, epoch, txt⟩ = true) : Nm.wordB ten.data.toList = true ∧ epoch = 0 ∧ fromB num 1 = true ∧ txt.size = 0 := by
  unfold form at h
  rw [if_neg (by show ¬ (3 : Int) = 1; decide), if_neg (by show ¬ (3 : Int) = 2; decide), if_pos rfl] at h
  simp only [Bool.and_eq_true, decide_eq_true_eq] at h
  exact ⟨h.1.1.1, h.1.1.2, h.1.2, h.2⟩
theorem form_four {ten txt : ByteArray} {num epoch : Int} (h : form ⟨4, ten, num, epoch, txt⟩ = true) : ten.size = 0 ∧ epoch = 0 ∧ fromB num 0 = true ∧ txt.size = 0 := by
  unfold form at h
  rw [if_neg (by show ¬ (4 : Int) = 1; decide), if_neg (by show ¬ (4 : Int) = 2; decide), if_neg (by show ¬ (4 : Int) = 3; decide), if_pos rfl] at h
  simp only [Bool.and_eq_true, decide_eq_true_eq] at h
  exact ⟨h.1.1.1, h.1.1.2, h.1.2, h.2⟩
theorem do_one (s : S) (ten txt : ByteArray) (num epoch : Int) : doE s ⟨1, ten, num, epoch, txt⟩ = doTen s ⟨1, ten, num, epoch, txt⟩ := rfl
theorem do_two (s : S) (ten txt : ByteArray) (num epoch : Int) : doE s ⟨2, ten, num, epoch, txt⟩ = doKey s ⟨2, ten, num, epoch, txt⟩ := rfl
theorem do_three (s : S) (ten txt : ByteArray) (num epoch : Int) : doE s ⟨3, ten, num, epoch, txt⟩ = doKey s ⟨3, ten, num, epoch, txt⟩ := rfl
theorem do_four (s : S) (ten txt : ByteArray) (num epoch : Int) : doE s ⟨4, ten, num, epoch, txt⟩ = if num < s.serial then .bad 7 else .ok ⟨s.tens, num⟩ := rfl
theorem spotT_hit {l : List T} {n : ByteArray} (h : hasT l n = true) : ∃ hi : spotT l n < l.length, l[spotT l n].name = n := by
  obtain ⟨x, h1, h2⟩ := hasT_get h
  obtain ⟨hi, e⟩ := List.getElem?_eq_some_iff.1 h1
  exact ⟨hi, by rw [e]; exact h2⟩
theorem spotK_hit {l : List K} {n : Int} (h : hasK l n = true) : ∃ hi : spotK l n < l.length, l[spotK l n].num = n := by
  obtain ⟨x, h1, h2⟩ := hasK_get h
  obtain ⟨hi, e⟩ := List.getElem?_eq_some_iff.1 h1
  exact ⟨hi, by rw [e]; exact h2⟩
end Rn
open Rn in
theorem rapply_any (s : Rn.S) (e : Rn.E) (A : Option Addr) (c : Nat) (G : Nat → Prop) (w : World) (hG : ∀ b, G b → b < w.heap.size) (hl : s.tens.length ≤ 1000) (hfit : Fits A s.tens.length c) (hT : TensAt G w A s.tens) (hen : e.ten.size ≤ maxLen) (htx : e.txt.size ≤ maxLen) :
    Calls Try.prog 12 #[.agg #[.slice (A) (s).tens.length (c), .int .i64 (s).serial], .agg #[.int .i64 (e).kind, .string (e).ten, .int .i64 (e).num, .int .i64 (e).epoch, .string (e).txt]] w (RetSE G (Rn.apply s e) w) := by
  cases hr : right s with
  | false => rw [apply_bad hr]; exact rap_right s e hen A c G w hG hl hT hr
  | true =>
  cases hf : form e with
  | false => rw [apply_form hr hf]; exact rap_form s e hen A c G w hG hl hT hr hf
  | true =>
  rw [apply_do hr hf]
  obtain ⟨h16, hser, htens, hris⟩ := right_parts hr
  obtain ⟨kind, ten, num, epoch, txt⟩ := e
  have hfind := findI_has (n := ten) hris
  rcases form_kind hf with hk | hk | hk | hk
  · obtain rfl : kind = 1 := hk
    obtain ⟨-, he, hn, -⟩ := form_one hf
    rw [fromB_iff] at he hn
    rw [do_one]
    unfold doTen
    dsimp only at hen htx ⊢
    cases hh : hasT s.tens ten with
    | false =>
      rw [hh, if_neg (by simp)] at hfind
      by_cases h16' : s.tens.length = 16
      · rw [if_pos ⟨rfl, h16'⟩]
        exact rap_one_full s ten txt num epoch hen htx A c G w hG hl hT hr hf hfind h16'
      · rw [if_neg (fun h => h16' h.2), if_neg (by simp), ins_get _ (spotT_le _ _)]
        dsimp only
        rw [if_neg (by show ¬ (epoch < (0 : Int) ∨ num < (0 : Int)); omega), ins_set _ (spotT_le _ _)]
        have h1 := putT_new (t := ⟨ten, epoch, num, []⟩) hris hh
        dsimp only at h1
        show Calls _ _ _ _ (RetSE G (.ok ⟨ins s.tens (spotT s.tens ten) ⟨ten, epoch, num, []⟩, s.serial⟩) w)
        rw [← h1]
        exact rap_one_new s ten txt num epoch hen htx A c G w hG hl hT hr hf hfind h16' (by omega) (by omega)
    | true =>
      rw [hh, if_pos rfl] at hfind
      obtain ⟨hi, hnm⟩ := spotT_hit hh
      rw [if_neg (fun h => by cases h.1), if_pos rfl, List.getElem?_eq_getElem hi]
      dsimp only
      by_cases h1 : epoch < s.tens[spotT s.tens ten].epoch
      · rw [if_pos (Or.inl h1)]
        exact rap_one_no s ten txt num epoch hen htx A c G w hG hl hT hr hf _ hi hfind h1
      by_cases h2 : num < s.tens[spotT s.tens ten].next
      · rw [if_pos (Or.inr h2)]
        exact rap_one_no2 s ten txt num epoch hen htx A c G w hG hl hT hr hf _ hi hfind h1 h2
      rw [if_neg (fun h => by rcases h with h | h; exact h1 h; exact h2 h)]
      have h3 := putT_old (t := ⟨s.tens[spotT s.tens ten].name, epoch, num, s.tens[spotT s.tens ten].keys⟩) hris (by dsimp only; rw [hnm]; exact hh)
      have h4 : spotT s.tens (T.name ⟨s.tens[spotT s.tens ten].name, epoch, num, s.tens[spotT s.tens ten].keys⟩) = spotT s.tens ten := by dsimp only; rw [hnm]
      rw [h4] at h3
      rw [← h3]
      exact rap_one_old s ten txt num epoch hen htx A c G w hG hl hT hr hf _ hi hfind h1 h2
  · obtain rfl : kind = 2 := hk
    rw [do_two]
    unfold doKey
    dsimp only at hen htx ⊢
    cases hh : hasT s.tens ten with
    | false =>
      rw [hh, if_neg (by simp)] at hfind
      rw [if_pos rfl]
      exact rap_none s ten txt num epoch hen htx A c G w hG hl hT hr hf hfind
    | true =>
      rw [hh, if_pos rfl] at hfind
      obtain ⟨hi, hnm⟩ := spotT_hit hh
      rw [if_neg (by decide), List.getElem?_eq_getElem hi]
      dsimp only
      rw [if_neg (by decide)]
      obtain ⟨-, -, -, h8, -, hrk⟩ := ten_parts (htens _ (List.getElem_mem hi))
      have hkey := keyI_has (n := num) hrk
      by_cases h1 : s.tens[spotT s.tens ten].next ≤ num
      · rw [if_pos h1]
        exact rap_key_next s ten txt num epoch hen htx A c G w hG hl hT hr hf _ hi hfind h1
      rw [if_neg h1]
      cases hk : hasK s.tens[spotT s.tens ten].keys num with
      | true =>
        rw [hk, if_pos rfl] at hkey
        rw [if_pos rfl]
        exact rap_key_twice s ten txt num epoch hen htx A c G w hG hl hT hr hf _ hi hfind _ hkey h1
      | false =>
        rw [hk, if_neg (by decide)] at hkey
        rw [if_neg (by decide)]
        by_cases h8' : s.tens[spotT s.tens ten].keys.length = 8
        · rw [if_pos h8']
          exact rap_key_limit s ten txt num epoch hen htx A c G w hG hl hT hr hf _ hi hfind hkey h1 h8'
        rw [if_neg h8']
        have h3 := putT_old (t := ⟨s.tens[spotT s.tens ten].name, s.tens[spotT s.tens ten].epoch, s.tens[spotT s.tens ten].next, withK s.tens[spotT s.tens ten].keys ⟨num, txt⟩⟩) hris (by dsimp only; rw [hnm]; exact hh)
        have h4 : spotT s.tens (T.name ⟨s.tens[spotT s.tens ten].name, s.tens[spotT s.tens ten].epoch, s.tens[spotT s.tens ten].next, withK s.tens[spotT s.tens ten].keys ⟨num, txt⟩⟩) = spotT s.tens ten := by dsimp only; rw [hnm]
        rw [h4] at h3
        have h5 := withK_new (k := ⟨num, txt⟩) hrk hk
        dsimp only at h5
        rw [← h5, ← h3]
        refine rap_key_ok s ten txt num epoch hen htx A c G w hG hl hT hr hf _ hi hfind hkey h1 h8' (by omega) (fun x hx => ?_)
        obtain ⟨b, o, A', c', -, -, -, -, -, hks, -⟩ := tens_at hT hi
        obtain ⟨j, hj, rfl⟩ := List.mem_iff_getElem.1 hx
        obtain ⟨_, _, _, _, h, _⟩ := keys_at hks hj
        exact h
  · obtain rfl : kind = 3 := hk
    rw [do_three]
    unfold doKey
    dsimp only at hen htx ⊢
    cases hh : hasT s.tens ten with
    | false =>
      rw [hh, if_neg (by simp)] at hfind
      rw [if_pos rfl]
      exact rap_none3 s ten txt num epoch hen htx A c G w hG hl hT hr hf hfind
    | true =>
      rw [hh, if_pos rfl] at hfind
      obtain ⟨hi, hnm⟩ := spotT_hit hh
      rw [if_neg (by decide), List.getElem?_eq_getElem hi]
      dsimp only
      rw [if_pos rfl]
      obtain ⟨-, -, -, h8, -, hrk⟩ := ten_parts (htens _ (List.getElem_mem hi))
      have hkey := keyI_has (n := num) hrk
      cases hk : hasK s.tens[spotT s.tens ten].keys num with
      | false =>
        rw [hk, if_neg (by decide)] at hkey
        rw [if_pos rfl]
        exact rap_drop_none s ten txt num epoch hen htx A c G w hG hl hT hr hf _ hi hfind hkey
      | true =>
        rw [hk, if_pos rfl] at hkey
        rw [if_neg (by decide)]
        obtain ⟨hki, hkn⟩ := spotK_hit hk
        have h3 := putT_old (t := ⟨s.tens[spotT s.tens ten].name, s.tens[spotT s.tens ten].epoch, s.tens[spotT s.tens ten].next, del s.tens[spotT s.tens ten].keys (spotK s.tens[spotT s.tens ten].keys num)⟩) hris (by dsimp only; rw [hnm]; exact hh)
        have h4 : spotT s.tens (T.name ⟨s.tens[spotT s.tens ten].name, s.tens[spotT s.tens ten].epoch, s.tens[spotT s.tens ten].next, del s.tens[spotT s.tens ten].keys (spotK s.tens[spotT s.tens ten].keys num)⟩) = spotT s.tens ten := by dsimp only; rw [hnm]
        rw [h4] at h3
        rw [← h3]
        exact rap_drop s ten txt num epoch hen htx A c G w hG hl hT hr hf _ hi hfind _ hkey hki (by omega)
  · obtain rfl : kind = 4 := hk
    rw [do_four]
    dsimp only at hen htx ⊢
    by_cases h : num < s.serial
    · rw [if_pos h]
      exact rap_four_no s ten txt num epoch hen htx A c G w hG hl hT hr hf h
    · rw [if_neg h]
      exact rap_four s ten txt num epoch hen htx A c G w hG hl hT hr hf h hfit
end Go.Proofs.Ytgcgilcalmefgaa
