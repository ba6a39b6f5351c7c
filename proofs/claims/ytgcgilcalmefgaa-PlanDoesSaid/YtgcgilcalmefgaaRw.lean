/- Slices of rows of so many cells each: how they lie, are kept, are opened, are built. Of no program. -/
import Derived.Test.YtgcgilcalmefgaaBase
import Derived.ChangeArms
import Derived.OpenShut
import Derived.DataReads
import Derived.WideShapes
import Derived.Deep.Slices
import Derived.Laws.OwnMore
import Derived.Laws.AppendOwn
namespace Go.Proofs.Ytgcgilcalmefgaa
open Go Go.RowKit Go.ChangeShapes Go.WideShapes
theorem addr_off (b o j : Nat) : (⟨b, o, none⟩ : Addr).add j = ⟨b, o + j, none⟩ := by simp [Addr.add]
theorem blk_new {w : World} {g : Nat} {cs : Array Value} {t : TypeId} (h : g = w.heap.size) : Blk (w.alloc (.cells cs t)) g cs t := by subst h; exact Blk.new w cs t
/-- a slice's length and capacity fit; nil has none -/
def Fits (A : Option Addr) (n cap : Nat) : Prop := n ≤ cap ∧ (A = none → cap = 0)
theorem Fits.none_ : Fits none 0 0 := ⟨Nat.le_refl _, fun _ => rfl⟩
section
variable {α : Type}
/-- the slice at A holds these things, each as n cells that R tells; they lie in a block that G lets -/
def RowsAt (n : Nat) (R : α → List Value → Prop) (G : Nat → Prop) (w : World) (A : Option Addr) (xs : List α) : Prop :=
  0 < xs.length → ∃ b o, A = some ⟨b, o, none⟩ ∧ G b ∧ ∀ (k : Nat) (h : k < xs.length), ∃ cs, R xs[k] cs ∧ ∀ j u, cs[j]? = some u → w.cell? ⟨b, o + k * n + j, none⟩ = some u
/-- the cells of one block after the other are kept -/
def Kept (G : Nat → Prop) (w w' : World) : Prop := ∀ b, G b → w'.heap[b]? = w.heap[b]?
theorem Kept.cell {G : Nat → Prop} {w w' : World} (h : Kept G w w') {b : Nat} (hb : G b) (o : Nat) : w'.cell? ⟨b, o, none⟩ = w.cell? ⟨b, o, none⟩ := World.cell?_of_block (h b hb)
theorem kept_below {G : Nat → Prop} {B : Nat} {w w' : World} (h : Below B w w') (hG : ∀ b, G b → b < B) : Kept G w w' := fun b hb => h.block b (hG b hb)
theorem rows_nil {n : Nat} {R : α → List Value → Prop} {G : Nat → Prop} {w : World} {A : Option Addr} : RowsAt n R G w A ([] : List α) := fun h => absurd h (by simp)
theorem rows_at {n : Nat} {R : α → List Value → Prop} {G : Nat → Prop} {w : World} {A : Option Addr} {xs : List α} (h : RowsAt n R G w A xs) {k : Nat} (hk : k < xs.length) :
    ∃ b o cs, A = some ⟨b, o, none⟩ ∧ G b ∧ R xs[k] cs ∧ ∀ j u, cs[j]? = some u → w.cell? ⟨b, o + k * n + j, none⟩ = some u := by
  obtain ⟨b, o, h1, h2, h3⟩ := h (by omega)
  obtain ⟨cs, h4, h5⟩ := h3 k hk
  exact ⟨b, o, cs, h1, h2, h4, h5⟩
theorem rows_keep {n : Nat} {R R' : α → List Value → Prop} {G G' : Nat → Prop} {w w' : World} {A : Option Addr} {xs : List α} (h : RowsAt n R G w A xs) (hR : ∀ x cs, x ∈ xs → R x cs → R' x cs) (hG : ∀ b, G b → G' b) (hk : Kept G w w') : RowsAt n R' G' w' A xs := fun h0 => by
  obtain ⟨b, o, h1, h2, h3⟩ := h h0
  refine ⟨b, o, h1, hG b h2, fun k hlt => ?_⟩
  obtain ⟨cs, h4, h5⟩ := h3 k hlt
  exact ⟨cs, hR _ _ (List.getElem_mem hlt) h4, fun j u hj => (hk.cell h2 _).trans (h5 j u hj)⟩
/-- off an owned row -/
theorem rows_own {n : Nat} {R : α → List Value → Prop} {w : World} {base : Nat} {e : TypeId} {v : Value} {xs : List α} {row : α → List Value} (hrow : ∀ x ∈ xs, (row x).length = n) (hR : ∀ x ∈ xs, R x (row x)) (h : w.ownsRow base e n v xs.length (xs.flatMap row)) :
    ∃ A cap, v = .slice A xs.length cap ∧ Fits A xs.length cap ∧ RowsAt n R (fun b => base ≤ b ∧ b < w.heap.size) w A xs := by
  have off : ∀ (l : List α), (∀ x ∈ l, (row x).length = n) → ∀ (k : Nat) (hk : k < l.length) (j : Nat) (u : Value), (row l[k])[j]? = some u → (l.flatMap row)[k * n + j]? = some u := by
    intro l
    induction l with
    | nil => intro _ k hk; simp at hk
    | cons a r ih =>
      intro hl k hk j u hj
      rw [List.flatMap_cons]
      have ha := hl a (by simp)
      cases k with
      | zero =>
        have hj' : j < (row a).length := (List.getElem?_eq_some_iff.1 hj).1
        rw [Nat.zero_mul, Nat.zero_add, List.getElem?_append_left hj']
        exact hj
      | succ k =>
        rw [List.getElem?_append_right (by rw [ha, Nat.succ_mul]; omega), ha, show (k + 1) * n + j - n = k * n + j by rw [Nat.succ_mul]; omega]
        exact ih (fun x hx => hl x (by simp [hx])) k (by simpa using hk) j u (by simpa using hj)
  rcases h.2 with ⟨rfl, h0⟩ | ⟨g, cap, cur, rfl, hbg, hgl, hnc, hcm, hcs, hct⟩
  · obtain rfl : xs = [] := List.eq_nil_of_length_eq_zero h0
    exact ⟨none, 0, rfl, Fits.none_, rows_nil⟩
  · refine ⟨some ⟨g, 0, none⟩, cap, rfl, ⟨hnc, fun h => by cases h⟩, fun _ => ⟨g, 0, rfl, ⟨hbg, (h.lt g rfl).2⟩, fun k hk => ⟨row xs[k], hR _ (List.getElem_mem hk), fun j u hj => ?_⟩⟩⟩
    have h1 := h.cells (g := g) rfl (k * n + j) u (off xs hrow k hk j u hj)
    rw [addr_off, Nat.zero_add] at h1
    rw [Nat.zero_add]
    exact h1
end
section
variable {H : Type} {enc : TypeId × Value → H} {P : Program} {W : World} {sp : Nat → Bool} {held : Bool}
theorem cell_place {a : Addr} {u : Value} (h : W.cell? a = some u) : a = ⟨a.block, a.off, none⟩ ∧ a.block < W.heap.size := by
  unfold World.cell? at h
  cases hb : W.heap[a.block]? with
  | none => rw [hb] at h; cases h
  | some o =>
    rw [hb] at h
    refine ⟨?_, (Array.getElem?_eq_some_iff.1 hb).1⟩
    cases o with
    | cells c t fr =>
      dsimp only at h
      cases hs : a.spot with
      | none => cases a; simp at hs; subst hs; rfl
      | some x => rw [hs] at h; simp at h
    | _ => cases h
/-- a slice that is handed in: opened -/
theorem rows_open {α : Type} {T e : TypeId} {n : Nat} {R : α → List Value → Prop} (hT : P.underlying T = some (.slice e)) (hn : P.cellsOf e = n) (hn0 : 0 < n)
    (hR : ∀ (fuel : Nat) (cs : List Value) (x : DataW H × List MemPlace), DataW.trod enc P W 0 sp held fuel e cs = some x → ∃ a, R a cs ∧ cs.length = n) {fuel : Nat} {v : Value} {x : DataW H × List MemPlace}
    (h : DataW.trod enc P W 0 sp held fuel T [v] = some x) : ∃ (A : Option Addr) (xs : List α) (cap : Nat), v = .slice A xs.length cap ∧ Fits A xs.length cap ∧ xs.length ≤ maxLen ∧ RowsAt n R (fun b => b < W.heap.size) W A xs := by
  rcases DataW.trod_slice hT h with ⟨e5, -⟩ | ⟨a, len, cap, elems, rest, m, rfl, e5, -, -, hlc, hcm, hel, hat, -, -⟩
  · injection e5 with e5 _
    exact ⟨none, [], 0, e5, Fits.none_, Nat.zero_le _, rows_nil⟩
  · injection e5 with e5 _
    rw [hn] at hat
    have key : ∀ i, i ≤ len → ∃ (xs : List α), xs.length = i ∧ ∀ (k : Nat) (hk : k < xs.length), ∃ cs, R xs[k] cs ∧ cs.length = n ∧ ∀ j u, cs[j]? = some u → W.cell? (a.add (k * n + j)) = some u := by
      intro i
      induction i with
      | zero => intro _; exact ⟨[], rfl, fun k hk => absurd hk (by simp)⟩
      | succ i ih =>
        intro hi
        obtain ⟨xs, hl, hc⟩ := ih (by omega)
        have h1 := hat i (by omega)
        rw [List.getElem?_eq_getElem (by omega)] at h1
        obtain ⟨cs', h2, h3⟩ := Option.bind_eq_some_iff.1 h1
        obtain ⟨y, hy, hyl⟩ := hR m cs' _ h3
        obtain ⟨_, _, h4⟩ := World.cells?_some h2
        refine ⟨xs ++ [y], by rw [List.length_append, hl]; rfl, fun k hk => ?_⟩
        rcases Nat.lt_or_ge k xs.length with hlt | hge
        · obtain ⟨cs, h5, h6, h7⟩ := hc k hlt
          refine ⟨cs, ?_, h6, h7⟩
          rw [List.getElem_append_left hlt]
          exact h5
        · have hkl : k < xs.length + 1 := by simpa using hk
          obtain rfl : k = xs.length := by omega
          refine ⟨cs', ?_, hyl, fun j u hj => ?_⟩
          · rw [List.getElem_append_right (Nat.le_refl _)]
            simpa using hy
          · have hj' : j < n := by rw [← hyl]; exact (List.getElem?_eq_some_iff.1 hj).1
            have h8 := h4 j hj'
            rw [hj, Go.Deep.add_add, ← hl] at h8
            exact h8
    obtain ⟨xs, hl, hc⟩ := key len (Nat.le_refl _)
    subst hl
    refine ⟨some a, xs, cap, e5, ⟨hlc, fun h => by cases h⟩, Nat.le_trans hlc hcm, fun hpos => ?_⟩
    obtain ⟨cs0, _, hl0, h0⟩ := hc 0 hpos
    have h1 := h0 0 _ (List.getElem?_eq_getElem (by omega))
    have ha0 : a.add (0 * n + 0) = a := by unfold Addr.add; simp
    rw [ha0] at h1
    obtain ⟨h2, h3⟩ := cell_place h1
    refine ⟨a.block, a.off, congrArg some h2, h3, fun k hk => ?_⟩
    obtain ⟨cs, h4, _, h5⟩ := hc k hk
    refine ⟨cs, h4, fun j u hj => ?_⟩
    have h6 := h5 j u hj
    rw [h2, addr_off, ← Nat.add_assoc] at h6
    exact h6
end
end Go.Proofs.Ytgcgilcalmefgaa
