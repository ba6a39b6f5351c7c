/- A plain machine: trees, and slices of rows as the elder texts tell them. -/
import Derived.Test.YtgcgilcalmefgaaAbZ
import Derived.Test.YtgcgilcalmefgaaRw
namespace Go.Proofs.Ytgcgilcalmefgaa
open Go Go.RowKit
set_option linter.unusedVariables false
set_option linter.unusedSimpArgs false
namespace Ab
/-- cells that these trees tell -/
def CRep (G : Nat → Prop) (w : World) (ts : List T) (cs : List Value) : Prop := cs.length = ts.length ∧ ∀ (j : Nat) t u, ts[j]? = some t → cs[j]? = some u → TRep G w t u
theorem CRep.nil {G : Nat → Prop} {w : World} : CRep G w [] [] := ⟨rfl, fun j t u h => by simp at h⟩
theorem CRep.cons {G : Nat → Prop} {w : World} {t : T} {u : Value} {ts : List T} {cs : List Value} (h : TRep G w t u) (hr : CRep G w ts cs) : CRep G w (t :: ts) (u :: cs) := by
  refine ⟨by simp [hr.1], fun j a b h1 h2 => ?_⟩
  cases j with
  | zero => simp at h1 h2; subst h1; subst h2; exact h
  | succ j => exact hr.2 j a b (by simpa using h1) (by simpa using h2)
theorem CRep.uncons {G : Nat → Prop} {w : World} {t : T} {ts : List T} {cs : List Value} (h : CRep G w (t :: ts) cs) : ∃ u r, cs = u :: r ∧ TRep G w t u ∧ CRep G w ts r := by
  cases cs with
  | nil => have := h.1; simp at this
  | cons u r => exact ⟨u, r, rfl, h.2 0 t u rfl rfl, by have := h.1; simpa using this, fun j a b h1 h2 => h.2 (j + 1) a b (by simpa using h1) (by simpa using h2)⟩
theorem trep_int {G : Nat → Prop} {w : World} {k : IntKind} {n : Int} {u : Value} (h : TRep G w (.flat (.int k n)) u) : u = .int k n := by cases h; rfl
theorem trep_str {G : Nat → Prop} {w : World} {s : ByteArray} {u : Value} (h : TRep G w (.flat (.string s)) u) : u = .string s := by cases h; rfl
theorem trep_bool {G : Nat → Prop} {w : World} {b : Bool} {u : Value} (h : TRep G w (.flat (.bool b)) u) : u = .bool b := by cases h; rfl
/-- a slice of rows off a tree -/
theorem rows_of {α : Type} {n : Nat} {row : α → List T} {R : α → List Value → Prop} {G : Nat → Prop} {w : World} {xs : List α} {v : Value} (hn : ∀ x ∈ xs, (row x).length = n) (hR : ∀ x cs, x ∈ xs → CRep G w (row x) cs → R x cs)
    (h : TRep G w (.slc (xs.map row)) v) : ∃ A cap, v = .slice A xs.length cap ∧ Fits A xs.length cap ∧ RowsAt n R G w A xs := by
  generalize hrows : xs.map row = rows at h
  cases h with
  | slc rows a b o es cap u hcap hnil ha hes hc hr =>
    subst hrows
    rw [List.length_map] at hcap
    refine ⟨a, cap, by rw [List.length_map], ⟨hcap, hnil⟩, fun hpos => ?_⟩
    have hne : xs.map row ≠ [] := by intro e; have := congrArg List.length e; rw [List.length_map, List.length_nil] at this; omega
    obtain ⟨rfl, hG⟩ := ha hne
    refine ⟨b, o, rfl, hG, fun k hk => ?_⟩
    have hk' : (xs.map row)[k]? = some (row xs[k]) := by simp [hk]
    have hes' : es = n := by rw [← hes _ (List.mem_of_getElem? hk'), hn _ (List.getElem_mem hk)]
    subst hes'
    refine ⟨(List.range (row xs[k]).length).map (u k), hR _ _ (List.getElem_mem hk) ⟨by simp, fun j t x h1 h2 => ?_⟩, fun j x hx => ?_⟩
    · have hj := (List.getElem?_eq_some_iff.1 h1).1
      rw [List.getElem?_map, List.getElem?_range hj] at h2
      cases h2
      exact hr k j t (by rw [hk', Option.bind_some]; exact h1)
    · rw [List.getElem?_map] at hx
      obtain ⟨y, hy, rfl⟩ := Option.map_eq_some_iff.1 hx
      have hj : j < (row xs[k]).length := by have := (List.getElem?_eq_some_iff.1 hy).1; simpa using this
      rw [List.getElem?_range hj] at hy
      cases hy
      have := hc k j _ (by rw [hk', Option.bind_some]; exact List.getElem?_eq_getElem hj)
      rwa [show o + (k * es + j) = o + k * es + j by omega] at this
/-- a tree off a slice of rows -/
theorem of_rows {α : Type} {n : Nat} {row : α → List T} {R : α → List Value → Prop} {G : Nat → Prop} {w : World} {xs : List α} {A : Option Addr} {cap : Nat} (hn : ∀ x ∈ xs, (row x).length = n) (hR : ∀ x cs, x ∈ xs → R x cs → CRep G w (row x) cs)
    (hf : Fits A xs.length cap) (h : RowsAt n R G w A xs) : TRep G w (.slc (xs.map row)) (.slice A xs.length cap) := by
  by_cases hpos : 0 < xs.length
  · obtain ⟨b, o, rfl, hG, hk⟩ := h hpos
    have key : ∀ i j t, ((xs.map row)[i]?).bind (fun r => r[j]?) = some t → ∃ u, w.cell? ⟨b, o + (i * n + j), none⟩ = some u ∧ TRep G w t u := fun i j t ht => by
      rw [List.getElem?_map] at ht
      cases hx : xs[i]? with
      | none => rw [hx] at ht; cases ht
      | some x =>
        rw [hx] at ht
        simp only [Option.map_some, Option.bind_some] at ht
        obtain ⟨hi, rfl⟩ := List.getElem?_eq_some_iff.1 hx
        obtain ⟨cs, h1, h2⟩ := hk i hi
        obtain ⟨g1, g2⟩ := hR _ cs (List.getElem_mem hi) h1
        have hj : j < cs.length := by have := (List.getElem?_eq_some_iff.1 ht).1; omega
        refine ⟨cs[j], ?_, g2 j t _ ht (List.getElem?_eq_getElem hj)⟩
        have := h2 j _ (List.getElem?_eq_getElem hj)
        rwa [show o + i * n + j = o + (i * n + j) by omega] at this
    have hlen : (xs.map row).length = xs.length := List.length_map ..
    rw [← hlen]
    refine .slc _ _ b o n cap (fun i j => (w.cell? ⟨b, o + (i * n + j), none⟩).getD undef) (by rw [hlen]; exact hf.1) (fun e => by cases e) (fun _ => ⟨rfl, hG⟩) (fun r hr => ?_) (fun i j t ht => ?_) (fun i j t ht => ?_)
    · obtain ⟨x, hx, rfl⟩ := List.mem_map.1 hr
      exact hn x hx
    · obtain ⟨u, h1, -⟩ := key i j t ht
      rw [h1]
      rfl
    · obtain ⟨u, h1, h2⟩ := key i j t ht
      rw [h1]
      exact h2
  · obtain rfl : xs = [] := List.eq_nil_of_length_eq_zero (by omega)
    exact .slc [] A 0 0 0 cap (fun _ _ => undef) (Nat.zero_le _) hf.2 (fun h => absurd rfl h) (fun r h => by simp at h) (fun i j t h => by simp at h) (fun i j t h => by simp at h)
/-- a struct's cells -/
theorem vrep_agg {cx : Cx} {w : World} {ts : List T} {v : Value} (h : VRep cx w (.agg (ts.map V.t)) v) : ∃ cs, v = .agg cs ∧ CRep cx.G w ts cs.toList := by
  generalize he : ts.map V.t = l at h
  cases h with
  | agg l vs hn hc hr =>
    subst he
    refine ⟨vs, rfl, by simpa using hn, fun j t u h1 h2 => ?_⟩
    have := hr j (.t t) u (by simp [h1]) (by simpa using h2)
    cases this with | t x v h => exact h
theorem agg_vrep {cx : Cx} {w : World} {ts : List T} {cs : Array Value} (h : CRep cx.G w ts cs.toList) : VRep cx w (.agg (ts.map V.t)) (.agg cs) := by
  refine .agg _ _ (by simpa using h.1) (fun c hc => by obtain ⟨t, -, rfl⟩ := List.mem_map.1 hc; rfl) (fun i c u h1 h2 => ?_)
  rw [List.getElem?_map] at h1
  obtain ⟨t, ht, rfl⟩ := Option.map_eq_some_iff.1 h1
  exact .t _ _ (h.2 i t u ht (by simpa using h2))
theorem vreps_cons {cx : Cx} {w : World} {v : V} {vs : List V} {us : Array Value} (h : VReps cx w (v :: vs) us) : ∃ u r, us = #[u] ++ r ∧ VRep cx w v u ∧ VReps cx w vs r := by
  obtain ⟨l⟩ := us
  cases l with
  | nil => have := h.1; simp at this
  | cons u r =>
    refine ⟨u, ⟨r⟩, by simp, h.2 0 v u rfl rfl, by have := h.1; simpa using this, fun i c x h1 h2 => h.2 (i + 1) c x (by simpa using h1) (by simpa using h2)⟩
theorem vreps_nil {cx : Cx} {w : World} {us : Array Value} (h : VReps cx w [] us) : us = #[] := by have := h.1; simpa using this
/-- a contract of the elder kind whose answer has no memory -/
theorem fun_flat {P : Program} {f : FuncId} {args : List V} {v : V} {u : Value} (hcall : Callable P f) (hv : ∀ cx w, VRep cx w v u)
    (h : ∀ (G : Nat → Prop) (w : World) (cargs : Array Value), (∀ b, G b → b < w.heap.size) → VReps (Cx.none G) w args cargs → Calls P f cargs w fun e w' => e = .returned u ∧ Below w.heap.size w w') : Fun P f args v :=
  ⟨hcall, fun G w cargs hG ha => (h G w cargs hG ha).mono fun e w' ⟨h1, h2⟩ => ⟨u, h1, h2, hv _ _⟩⟩
end Ab
end Go.Proofs.Ytgcgilcalmefgaa
