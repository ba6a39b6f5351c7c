/- A plain machine: rows by other numbers. -/
import Derived.Test.YtampjnpnekekiaaDoorK114
namespace Go.Proofs.YtampjnpnekekiaaDoor
open Go Go.RowKit
set_option linter.unusedVariables false
set_option linter.unusedSimpArgs false
namespace Ab
def swN (i j k : Nat) : Nat := if k = i then j else if k = j then i else k
theorem swN_two (i j k : Nat) : swN i j (swN i j k) = k := by unfold swN; split <;> split <;> (try split) <;> omega
mutual
def V.sw (i j : Nat) : V → V
  | .lst k => .lst (swN i j k)
  | .ptr k o => .ptr (swN i j k) o
  | .elt k r o => .elt (swN i j k) r o
  | .agg cs => .agg (swL i j cs)
  | .tup cs => .tup (swL i j cs)
  | .fn f cs => .fn f (swL i j cs)
  | .ifc t v => .ifc t (V.sw i j v)
  | v => v
def swL (i j : Nat) : List V → List V
  | [] => []
  | v :: r => V.sw i j v :: swL i j r
end
theorem swL_map (i j : Nat) : ∀ l : List V, swL i j l = l.map (V.sw i j)
  | [] => rfl
  | v :: r => by rw [swL, swL_map i j r]; rfl
theorem sw_cellB (i j : Nat) (v : V) : (v.sw i j).cellB = v.cellB := by cases v <;> rfl
def swRow (i j : Nat) : Option Row → Option Row
  | some (.box t cs) => some (.box t (swL i j cs))
  | r => r
def St.sw (i j : Nat) (s : St) : St :=
  if Nat.blt i s.heap.length && Nat.blt j s.heap.length then ⟨swL i j s.tmps, ((s.heap.set i (s.heap.getD j none)).set j (s.heap.getD i none)).map (swRow i j), s.base⟩ else s
def Cx.sw (i j : Nat) (cx : Cx) : Cx := ⟨fun k => cx.at_ (swN i j k), cx.G⟩
theorem VRep.sw {cx : Cx} {w : World} {v : V} {u : Value} (i j : Nat) (h : VRep cx w v u) : VRep (cx.sw i j) w (v.sw i j) u := by
  have e : ∀ k, (cx.sw i j).at_ (swN i j k) = cx.at_ k := fun k => congrArg cx.at_ (swN_two i j k)
  induction h with
  | t x u h => exact .t x u h
  | agg cs vs hn hc hr ih =>
    rw [V.sw, swL_map]
    refine .agg _ _ (by simpa using hn) (fun c hc' => ?_) (fun k c u h1 h2 => ?_)
    · obtain ⟨d, hd, rfl⟩ := List.mem_map.1 hc'
      rw [sw_cellB]; exact hc d hd
    · rw [List.getElem?_map] at h1
      obtain ⟨d, hd, rfl⟩ := Option.map_eq_some_iff.1 h1
      exact ih k d u hd h2
  | tup cs vs hn hr ih =>
    rw [V.sw, swL_map]
    refine .tup _ _ (by simpa using hn) (fun k c u h1 h2 => ?_)
    rw [List.getElem?_map] at h1
    obtain ⟨d, hd, rfl⟩ := Option.map_eq_some_iff.1 h1
    exact ih k d u hd h2
  | lstN id h => exact .lstN _ ((e id).trans h)
  | lst id b cap es len h => exact .lst _ b cap es len ((e id).trans h)
  | ptr id off b cap es len h => exact .ptr _ off b cap es len ((e id).trans h)
  | elt id row off b cap es len h => exact .elt _ row off b cap es len ((e id).trans h)
  | ipt cells off b o u hG hcell hr => exact .ipt cells off b o u hG hcell hr
  | fn f cs vs hn hr ih =>
    rw [V.sw, swL_map]
    refine .fn f _ _ (by simpa using hn) (fun k c u h1 h2 => ?_)
    rw [List.getElem?_map] at h1
    obtain ⟨d, hd, rfl⟩ := Option.map_eq_some_iff.1 h1
    exact ih k d u hd h2
  | ifc t v u h ih => exact .ifc t _ u ih
  | junk v => exact .junk v
theorem VReps.sw {cx : Cx} {w : World} {vs : List V} {us : Array Value} (i j : Nat) (h : VReps cx w vs us) : VReps (cx.sw i j) w (swL i j vs) us := by
  rw [swL_map]
  refine ⟨by simpa using h.1, fun k c u h1 h2 => ?_⟩
  rw [List.getElem?_map] at h1
  obtain ⟨d, hd, rfl⟩ := Option.map_eq_some_iff.1 h1
  exact (h.2 k d u hd h2).sw i j
section
variable {P : Program} {A : Run} {L : TypeId → Option Lt}
theorem Rel.sw {cx : Cx} {s : St} {a : Act} {w : World} (R : Rel A cx s a w) (i j : Nat) (hi : A.pin i = none) (hj : A.pin j = none) : ∃ cx', Rel A cx' (s.sw i j) a w := by
  unfold St.sw
  by_cases hb : (Nat.blt i s.heap.length && Nat.blt j s.heap.length) = true
  case neg => rw [if_neg hb]; exact ⟨cx, R⟩
  rw [if_pos hb]
  have hil : i < s.heap.length ∧ j < s.heap.length := by
    simp only [Bool.and_eq_true] at hb
    exact ⟨by simpa [Nat.blt_eq] using hb.1, by simpa [Nat.blt_eq] using hb.2⟩
  refine ⟨cx.sw i j, ?_⟩
  have hh : ∀ (id : Nat) r', (((s.heap.set i (s.heap.getD j none)).set j (s.heap.getD i none)).map (swRow i j))[id]? = some (some r') → ∃ r, s.heap[swN i j id]? = some (some r) ∧ swRow i j (some r) = some r' := fun id r' h => by
    rw [List.getElem?_map] at h
    obtain ⟨x, hx, hr⟩ := Option.map_eq_some_iff.1 h
    have hx' : s.heap[swN i j id]? = some x := by
      have g : ∀ k, k < s.heap.length → s.heap[k]? = some (s.heap.getD k none) := fun k hk => by
        rw [List.getD_eq_getElem?_getD, List.getElem?_eq_getElem hk]; rfl
      unfold swN
      by_cases e2 : id = j
      · subst e2
        rw [List.getElem?_set_self (by simpa using hil.2)] at hx
        by_cases e1 : id = i
        · subst e1; rw [if_pos rfl, g _ hil.2]; exact hx
        · rw [if_neg e1, if_pos rfl, g _ hil.1]; exact hx
      · rw [List.getElem?_set_ne (Ne.symm e2)] at hx
        by_cases e1 : id = i
        · subst e1
          rw [List.getElem?_set_self hil.1] at hx
          rw [if_pos rfl, g _ hil.2]; exact hx
        · rw [List.getElem?_set_ne (Ne.symm e1)] at hx
          rw [if_neg e1, if_neg e2]; exact hx
    cases x with
    | none => cases hr
    | some r => exact ⟨r, hx', hr⟩
  constructor
  · exact R.tm.sw i j
  · exact R.df
  · constructor
    · intro id r' h
      obtain ⟨r, hr, e⟩ := hh id r' h
      have hR := R.hp.row _ r hr
      cases hR with
      | box ty cs b vs hat hbl hn hrr =>
        simp only [swRow, Option.some.injEq] at e
        subst e
        refine .box ty _ b vs ?_ hbl hn (hrr.sw i j)
        rw [swL_map, List.length_map]; exact hat
      | listN ty es hat => simp only [swRow, Option.some.injEq] at e; subst e; exact .listN _ _ hat
      | list ty es rows b cap vs hat hbl hn hcap hmax hsz hes hrr => simp only [swRow, Option.some.injEq] at e; subst e; exact .list _ _ _ b cap vs hat hbl hn hcap hmax hsz hes hrr
      | iter s' pos b hat hbl hn h0 => simp only [swRow, Option.some.injEq] at e; subst e; exact .iter _ _ b hat hbl hn h0
    · intro id id' r r' b cap es len cap' es' len' h1 h2 h3 h4
      obtain ⟨x, hx, -⟩ := hh id r h1
      obtain ⟨y, hy, -⟩ := hh id' r' h2
      have := R.hp.inj _ _ _ _ _ _ _ _ _ _ _ hx hy h3 h4
      rw [← swN_two i j id, this, swN_two]
    · intro id hid
      have hid' : s.heap.length ≤ id := by simpa using hid
      show cx.at_ (swN i j id) = none
      have : swN i j id = id := by unfold swN; rw [if_neg (by omega), if_neg (by omega)]
      rw [this]; exact R.hp.dom id hid'
  · constructor
    · exact R.kp.os
    · exact R.kp.tape
    · exact R.kp.output
    · exact R.kp.size
    · exact R.kp.block
    · intro id r b cap es len h1 h2
      obtain ⟨x, hx, -⟩ := hh id r h1
      exact R.kp.live _ _ _ _ _ _ hx h2
    · exact R.kp.G0
    · exact R.kp.G1
    · exact R.kp.G2
    · intro id B h
      have := R.kp.pin id B h
      have e : swN i j id = id := by
        unfold swN
        rw [if_neg (fun e => by subst e; rw [hi] at h; cases h), if_neg (fun e => by subst e; rw [hj] at h; cases h)]
      exact ⟨(congrArg cx.at_ e).trans this.1, this.2⟩
    · simpa using R.kp.base
    · exact R.kp.tab
  · exact R.bs
def swAll : List (Nat × Nat) → St → St
  | [], s => s
  | (i, j) :: r, s => swAll r (s.sw i j)
def frees (f : Nat → Prop) : List (Nat × Nat) → Prop
  | [] => True
  | (i, j) :: r => f i ∧ f j ∧ frees f r
theorem Rel.swAll {a : Act} {w : World} : ∀ (l : List (Nat × Nat)) {cx : Cx} {s : St}, Rel A cx s a w → frees (fun i => A.pin i = none) l → ∃ cx', Rel A cx' (swAll l s) a w
  | [], cx, s, R, _ => ⟨cx, R⟩
  | (i, j) :: r, cx, s, R, h => by
    obtain ⟨cx1, R1⟩ := R.sw i j h.1 h.2.1
    exact Rel.swAll r R1 h.2.2
theorem AW_loopS (hL : LayOk P L) {c : Code} {s : St} {Q : Ex → St → Prop} {Γ : Type} (F : Γ → St) (pre : Γ → Prop) (mu : Γ → Nat) (g0 : Γ) (h0 : pre g0) (hle : s.le (F g0))
    (hstep : ∀ g, pre g → ∀ Q' : Ex → St → Prop, (∀ s' g' sw, pre g' → mu g' < mu g → frees (fun i => A.pin i = none) sw → (Ab.swAll sw s').le (F g') → Q' .normal s') → (∀ s', Q .ret s' → Q' .ret s') → (∀ i s', Q (.exit i) s' → Q' (.exit i) s') → AW P A c (F g) Q') :
    AW P A (.loop c) s Q := fun cx a w R => by
  obtain ⟨cx0, R0⟩ := R.loose hle
  refine wp_loop_n (fun n a w => ∃ g cx, pre g ∧ mu g = n ∧ Rel A cx (F g) a w) (mu g0) ⟨g0, cx0, h0, rfl, R0⟩ ?_
  rintro n a w ⟨g, cx, hg, rfl, R⟩
  have := hstep g hg (fun e s' => match e with
    | .normal => ∃ g' sw, pre g' ∧ mu g' < mu g ∧ frees (fun i => A.pin i = none) sw ∧ (Ab.swAll sw s').le (F g')
    | e => Q e s') (fun s' g' sw h1 h2 h3 h4 => ⟨g', sw, h1, h2, h3, h4⟩) (fun s' h => h) (fun i s' h => h) cx a w R
  refine wp_mono this fun e a w h => ?_
  rcases h with ⟨e', s', cx', h1, h2, h3⟩ | ⟨ch, rfl, h⟩
  case inr => exact .inr ⟨ch, rfl, h⟩
  cases e with
  | normal =>
    cases e' <;> first | exact h1.elim | skip
    obtain ⟨g', sw, q1, q2, q3, q4⟩ := h2
    obtain ⟨cx1, R1⟩ := h3.swAll sw q3
    obtain ⟨cx2, R2⟩ := R1.loose q4
    exact ⟨mu g', q2, g', cx2, q1, rfl, R2⟩
  | _ => cases e' <;> first | exact h1.elim | exact .inl ⟨_, s', cx', h1, h2, h3⟩
end
end Ab
end Go.Proofs.YtampjnpnekekiaaDoor
