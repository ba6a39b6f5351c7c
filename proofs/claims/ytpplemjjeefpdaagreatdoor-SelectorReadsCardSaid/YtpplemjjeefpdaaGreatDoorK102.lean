/- Texts that the proof leans on. -/
import Derived.WalkKit
import Derived.KernelRfl
import Derived.Test.YtpplemjjeefpdaaGreatDoorK101
import Derived.Lib.TrailingZeros
import Derived.Shelf.Unicode.DecodeSlow
namespace Go.Proofs.YtpplemjjeefpdaaGreatDoor
open Go Go.RowKit
namespace Ab
def beqV : Value → Value → Bool
  | .int k a, .int k' b => decide (k = k') && decide (a = b)
  | .bool a, .bool b => a == b
  | .string a, .string b => decide (a = b)
  | .slice none a b, .slice none c d => a == c && b == d
  | .pointer none, .pointer none => true
  | .map none, .map none => true
  | .chan none, .chan none => true
  | .nilFunc, .nilFunc => true
  | .nilIface, .nilIface => true
  | _, _ => false
theorem beqV_eq {a b : Value} (h : beqV a b = true) : a = b := by
  unfold beqV at h
  split at h <;> simp_all
def beqL : List Value → List Value → Bool
  | [], [] => true
  | a :: x, b :: y => beqV a b && beqL x y
  | _, _ => false
theorem beqL_eq : ∀ {a b : List Value}, beqL a b = true → a = b
  | [], [], _ => rfl
  | a :: x, b :: y, h => by
    simp only [beqL, Bool.and_eq_true] at h
    rw [beqV_eq h.1, beqL_eq h.2]
  | [], _ :: _, h => by simp [beqL] at h
  | _ :: _, [], h => by simp [beqL] at h
def aggD : TypeDesc → Bool
  | .struct _ => true
  | .array _ _ => true
  | _ => false
def partOf (P : Program) (f : Field) : Nat × Nat × Bool := (f.offset, P.cellsOf f.type, match P.underlying f.type with | some d => aggD d | none => false)
def ckOk (P : Program) (f : Field) (i : Nat) (c : Ck) : Prop :=
  f.name ≠ "_" ∧ f.offset = i ∧ match c with
    | .i k => P.underlying f.type = some (.int k)
    | .s => P.underlying f.type = some .string
    | .b => P.underlying f.type = some .bool
def EqOk (P : Program) (t : TypeId) (lt : Lt) : Prop :=
  ∀ ks, lt.ck = some ks → P.eqGuardType P.depth t = false ∧ ((P.stoodInHeld t = false ∧ ∃ fs, P.underlying t = some (.struct fs) ∧ fs.size = ks.length ∧ ∀ (i : Nat) f c, fs[i]? = some f → ks[i]? = some c → ckOk P f i c) ∨
    ∃ e k i, P.underlying t = some (.array ks.length e) ∧ P.underlying e = some (.int k) ∧ P.info? e = some i ∧ P.cellsOf e = 1 ∧ ∀ c ∈ ks, c = .i k)
def ckB (P : Program) : Nat → List Field → List Ck → Bool
  | _, [], [] => true
  | i, f :: fs, c :: cs => !(f.name == "_") && f.offset == i && (match c, P.underlying f.type with
    | .i k, some (.int k') => decide (k = k')
    | .s, some .string => true
    | .b, some .bool => true
    | _, _ => false) && ckB P (i + 1) fs cs
  | _, _, _ => false
theorem ckB_ok {P : Program} : ∀ {fs : List Field} {ks : List Ck} {k : Nat}, ckB P k fs ks = true → fs.length = ks.length ∧ ∀ (i : Nat) f c, fs[i]? = some f → ks[i]? = some c → ckOk P f (k + i) c
  | [], [], k, _ => ⟨rfl, fun i f c h => by simp at h⟩
  | f :: fs, c :: cs, k, h => by
    simp only [ckB, Bool.and_eq_true, Bool.not_eq_true', beq_eq_false_iff_ne, beq_iff_eq] at h
    obtain ⟨⟨⟨h1, h2⟩, h3⟩, h4⟩ := h
    obtain ⟨g1, g2⟩ := ckB_ok h4
    refine ⟨by simp [g1], fun i f' c' q1 q2 => ?_⟩
    cases i with
    | zero =>
      simp at q1 q2
      subst q1
      subst q2
      refine ⟨h1, h2, ?_⟩
      split at h3
      · simp at h3; subst h3; assumption
      · assumption
      · assumption
      · cases h3
    | succ i => rw [show k + (i + 1) = k + 1 + i by omega]; exact g2 i f' c' (by simpa using q1) (by simpa using q2)
  | [], _ :: _, _, h => by simp [ckB] at h
  | _ :: _, [], _, h => by simp [ckB] at h
def eqB (P : Program) (t : TypeId) (lt : Lt) : Bool :=
  match lt.ck with
  | none => true
  | some ks => !P.eqGuardType P.depth t && (match P.underlying t with
    | some (.struct fs) => !P.stoodInHeld t && ckB P 0 fs.toList ks
    | some (.array n e) => n == ks.length && (match P.underlying e, P.info? e with
      | some (.int k), some _ => P.cellsOf e == 1 && ks.all fun c => match c with
        | .i k' => decide (k' = k)
        | _ => false
      | _, _ => false)
    | _ => false)
theorem eqB_ok {P : Program} {t : TypeId} {lt : Lt} (h : eqB P t lt = true) : EqOk P t lt := by
  intro ks hk
  unfold eqB at h
  rw [hk] at h
  simp only [Bool.and_eq_true, Bool.not_eq_true'] at h
  obtain ⟨h2, h3⟩ := h
  refine ⟨h2, ?_⟩
  split at h3
  · rename_i fs hfs
    simp only [Bool.and_eq_true, Bool.not_eq_true'] at h3
    obtain ⟨h1, h3⟩ := h3
    obtain ⟨g1, g2⟩ := ckB_ok h3
    exact .inl ⟨h1, fs, hfs, by simpa using g1, fun i f c q1 q2 => by have := g2 i f c (by simpa using q1) q2; rwa [Nat.zero_add] at this⟩
  · rename_i n e hn
    simp only [Bool.and_eq_true, beq_iff_eq] at h3
    obtain ⟨rfl, h3⟩ := h3
    split at h3
    · rename_i k i hk' hi
      simp only [Bool.and_eq_true, beq_iff_eq] at h3
      refine .inr ⟨e, k, i, hn, hk', hi, h3.1, fun c hc => ?_⟩
      have := List.all_eq_true.1 h3.2 c hc
      split at this
      · rw [of_decide_eq_true this]
      · cases this
    · cases h3
  · cases h3
def KindOk (P : Program) (lt : Lt) (d : TypeDesc) : Prop :=
  (lt.kind = 1 → ∃ fs, d = .struct fs ∧ fs.toList.map (partOf P) = lt.parts ∧ ∀ f ∈ fs, (∃ i, P.info? f.type = some i) ∧ ∃ d, P.underlying f.type = some d) ∧
  (lt.kind = 2 → d = .array lt.len lt.elem) ∧
  (lt.kind = 3 → d = .slice lt.elem) ∧
  (lt.kind = 4 → d = .string) ∧
  (aggD d = true ↔ (lt.kind = 1 ∨ lt.kind = 2)) ∧
  (∀ k, lt.ik = some k → d = .int k) ∧
  (lt.ik = none → ∀ k, d ≠ .int k) ∧
  (lt.kind = 5 → d = .bool)
def LtOk (P : Program) (t : TypeId) (lt : Lt) : Prop :=
  ∃ info d z, P.info? t = some info ∧ P.underlying t = some d ∧ info.size = lt.size ∧ info.bytes = lt.bytes ∧ info.zero = some z ∧ z.cells.toList = lt.zero ∧
    (∀ v ∈ lt.zero, oneV v = true) ∧ lt.zero.length = lt.size ∧ KindOk P lt d ∧ EqOk P t lt ∧ ∀ k, lt.ik = some k → oneV z = true
def LayOk (P : Program) (L : TypeId → Option Lt) : Prop := ∀ t lt, L t = some lt → LtOk P t lt
def partsB : List (Nat × Nat × Bool) → List (Nat × Nat × Bool) → Bool
  | [], [] => true
  | (a, b, c) :: x, (d, e, f) :: y => a == d && b == e && c == f && partsB x y
  | _, _ => false
theorem partsB_eq : ∀ {a b : List (Nat × Nat × Bool)}, partsB a b = true → a = b
  | [], [], _ => rfl
  | (a, b, c) :: x, (d, e, f) :: y, h => by
    simp only [partsB, Bool.and_eq_true, beq_iff_eq] at h
    obtain ⟨⟨⟨rfl, rfl⟩, rfl⟩, h⟩ := h
    rw [partsB_eq h]
  | [], _ :: _, h => by simp [partsB] at h
  | _ :: _, [], h => by simp [partsB] at h
def kindB (P : Program) (lt : Lt) (d : TypeDesc) : Bool :=
  match d with
  | .struct fs => lt.kind == 1 && lt.ik.isNone && partsB (fs.toList.map (partOf P)) lt.parts && fs.all fun f => (P.info? f.type).isSome && (P.underlying f.type).isSome
  | .array n e => lt.kind == 2 && lt.ik.isNone && n == lt.len && e == lt.elem
  | .slice e => lt.kind == 3 && lt.ik.isNone && e == lt.elem
  | .string => lt.kind == 4 && lt.ik.isNone
  | .bool => lt.kind == 5 && lt.ik.isNone
  | .int k => lt.kind == 0 && (match lt.ik with | some j => decide (j = k) | none => false)
  | _ => lt.kind == 0 && lt.ik.isNone
theorem kindB_ok {P : Program} {lt : Lt} {d : TypeDesc} (h : kindB P lt d = true) : KindOk P lt d := by
  unfold kindB at h
  unfold KindOk
  split at h
  · rename_i fs
    simp only [Bool.and_eq_true, beq_iff_eq, Option.isNone_iff_eq_none, Array.all_eq_true_iff_forall_mem, Option.isSome_iff_exists] at h
    obtain ⟨⟨⟨h1, h2⟩, h3⟩, h4⟩ := h
    refine ⟨fun _ => ⟨fs, rfl, partsB_eq h3, h4⟩, ?_, ?_, ?_, ?_, ?_, ?_, ?_⟩ <;> simp_all [aggD]
  · simp only [Bool.and_eq_true, beq_iff_eq, Option.isNone_iff_eq_none] at h
    obtain ⟨⟨⟨h1, h2⟩, h3⟩, h4⟩ := h
    refine ⟨?_, ?_, ?_, ?_, ?_, ?_, ?_, ?_⟩ <;> simp_all [aggD]
  · simp only [Bool.and_eq_true, beq_iff_eq, Option.isNone_iff_eq_none] at h
    obtain ⟨⟨h1, h2⟩, h3⟩ := h
    refine ⟨?_, ?_, ?_, ?_, ?_, ?_, ?_, ?_⟩ <;> simp_all [aggD]
  · simp only [Bool.and_eq_true, beq_iff_eq, Option.isNone_iff_eq_none] at h
    refine ⟨?_, ?_, ?_, ?_, ?_, ?_, ?_, ?_⟩ <;> simp_all [aggD]
  · simp only [Bool.and_eq_true, beq_iff_eq, Option.isNone_iff_eq_none] at h
    refine ⟨?_, ?_, ?_, ?_, ?_, ?_, ?_, ?_⟩ <;> simp_all [aggD]
  · simp only [Bool.and_eq_true, beq_iff_eq] at h
    obtain ⟨h1, h2⟩ := h
    cases hk : lt.ik with
    | none => rw [hk] at h2; simp at h2
    | some j =>
      rw [hk] at h2
      simp only [decide_eq_true_eq] at h2
      subst h2
      refine ⟨?_, ?_, ?_, ?_, ?_, ?_, ?_, ?_⟩ <;> simp_all [aggD]
  · rename_i hs ha hl hst hbo hi
    simp only [Bool.and_eq_true, beq_iff_eq, Option.isNone_iff_eq_none] at h
    refine ⟨?_, ?_, ?_, ?_, ?_, ?_, ?_, ?_⟩
    · intro e; omega
    · intro e; omega
    · intro e; omega
    · intro e; omega
    · cases d <;> simp_all [aggD]
    · simp_all
    · intro _ k e; exact hi k e
    · intro e; omega
def ltB (P : Program) (t : TypeId) (lt : Lt) : Bool :=
  match P.info? t, P.underlying t with
  | some info, some d => info.size == lt.size && info.bytes == lt.bytes && (match info.zero with | some z => beqL z.cells.toList lt.zero && (lt.ik.isNone || oneV z) | none => false) && lt.zero.all oneV && lt.zero.length == lt.size && kindB P lt d && eqB P t lt
  | _, _ => false
theorem ltB_ok {P : Program} {t : TypeId} {lt : Lt} (h : ltB P t lt = true) : LtOk P t lt := by
  unfold ltB at h
  split at h
  · rename_i info d hi hd
    simp only [Bool.and_eq_true, beq_iff_eq, List.all_eq_true] at h
    obtain ⟨⟨⟨⟨⟨⟨h1, h2⟩, h3⟩, h4⟩, h5⟩, h6⟩, h7⟩ := h
    split at h3
    · rename_i z hz
      simp only [Bool.and_eq_true, Bool.or_eq_true] at h3
      exact ⟨info, d, z, hi, hd, h1, h2, hz, beqL_eq h3.1, h4, h5, kindB_ok h6, eqB_ok h7, fun k hk => by
        rcases h3.2 with h | h
        · rw [hk] at h; cases h
        · exact h⟩
    · cases h3
  · cases h
theorem blt_no {n t : Nat} (h : n ≤ t) : Nat.blt t n = false := by
  cases hb : Nat.blt t n with
  | false => rfl
  | true => have := Nat.le_of_ble_eq_true hb; omega
def layB (P : Program) (L : TypeId → Option Lt) : Nat → Bool
  | 0 => true
  | n + 1 => (match L n with
    | none => true
    | some lt => ltB P n lt) && layB P L n
theorem layB_ok {P : Program} {L : TypeId → Option Lt} : ∀ n, layB P L n = true → ∀ t, t < n → ∀ lt, L t = some lt → LtOk P t lt
  | 0, _, t, h => by omega
  | n + 1, hb, t, h => by
    simp only [layB, Bool.and_eq_true] at hb
    intro lt ht
    by_cases e : t = n
    · subst e
      rw [ht] at hb
      exact ltB_ok hb.1
    · exact layB_ok n hb.2 t (by omega) lt ht
theorem layOk_fn {P : Program} (n : Nat) (L : TypeId → Option Lt) (hn : ∀ t, n ≤ t → L t = none) (h : layB P L n = true) : LayOk P L := fun t lt ht => by
  rcases Nat.lt_or_ge t n with hl | hl
  · exact layB_ok n h t hl lt ht
  · rw [hn t hl] at ht; cases ht
end Ab
end Go.Proofs.YtpplemjjeefpdaaGreatDoor
namespace Go.Proofs.YtpplemjjeefpdaaGreatDoor
open Go Go.RowKit
namespace Ab
def tabs : List (Nat × List Value) := [(3, Lib.deBruijn64tab.map fun n => .int .u8 (Int.ofNat n)), (0, (List.range 256).map fun c => .int .u8 (Lib.firstT c)), (1, (List.range 32).map fun j => .int .u8 (if j % 2 = 0 then Lib.accLo (j / 2) else Lib.accHi (j / 2)))]
def Tab (G : Nat → Prop) (w : World) : Prop := ∀ p ∈ tabs, G p.1 ∧ ∀ (j : Nat) v, p.2[j]? = some v → w.cell? ⟨p.1, j, none⟩ = some v
end Ab
end Go.Proofs.YtpplemjjeefpdaaGreatDoor
namespace Go.Proofs.YtpplemjjeefpdaaGreatDoor
open Go Go.RowKit
set_option linter.unusedVariables false
set_option linter.unusedSimpArgs false
namespace Ab
inductive TRep (G : Nat → Prop) (w : World) : T → Value → Prop
  | flat (v : Value) (h : oneV v = true) : TRep G w (.flat v) v
  | slc (rows : Rows) (a : Option Addr) (b o es cap : Nat) (u : Nat → Nat → Value) (hcap : rows.length ≤ cap) (hnil : a = none → cap = 0)
      (ha : rows ≠ [] → a = some ⟨b, o, none⟩ ∧ G b)
      (hes : ∀ row ∈ rows, row.length = es)
      (hc : ∀ (i j : Nat) (t : T), (rows[i]?).bind (fun r => r[j]?) = some t → w.cell? ⟨b, o + (i * es + j), none⟩ = some (u i j))
      (hr : ∀ (i j : Nat) (t : T), (rows[i]?).bind (fun r => r[j]?) = some t → TRep G w t (u i j)) : TRep G w (.slc rows) (.slice a rows.length cap)
inductive Blk where
  | nil
  | at (b cap es len : Nat)
structure Cx where
  at_ : Nat → Option Blk
  G : Nat → Prop
inductive VRep (cx : Cx) (w : World) : V → Value → Prop
  | t (x : T) (v : Value) (h : TRep cx.G w x v) : VRep cx w (.t x) v
  | agg (cs : List V) (vs : Array Value) (hn : vs.size = cs.length) (hc : ∀ c ∈ cs, c.cellB = true)
      (hr : ∀ (i : Nat) (c : V) (u : Value), cs[i]? = some c → vs[i]? = some u → VRep cx w c u) : VRep cx w (.agg cs) (.agg vs)
  | tup (cs : List V) (vs : Array Value) (hn : vs.size = cs.length)
      (hr : ∀ (i : Nat) (c : V) (u : Value), cs[i]? = some c → vs[i]? = some u → VRep cx w c u) : VRep cx w (.tup cs) (.tuple vs)
  | lstN (id : Nat) (h : cx.at_ id = some .nil) : VRep cx w (.lst id) (.slice none 0 0)
  | lst (id b cap es len : Nat) (h : cx.at_ id = some (.at b cap es len)) : VRep cx w (.lst id) (.slice (some ⟨b, 0, none⟩) len cap)
  | ptr (id off b cap es len : Nat) (h : cx.at_ id = some (.at b cap es len)) : VRep cx w (.ptr id off) (.pointer (some ⟨b, off, none⟩))
  | elt (id : Nat) (row : Int) (off b cap es len : Nat) (h : cx.at_ id = some (.at b cap es len)) : VRep cx w (.elt id row off) (.pointer (some ⟨b, row.toNat * es + off, none⟩))
  | ipt (cells : List T) (off b o : Nat) (u : Nat → Value) (hG : cx.G b) (hc : ∀ (j : Nat) (t : T), cells[j]? = some t → w.cell? ⟨b, o + j, none⟩ = some (u j))
      (hr : ∀ (j : Nat) (t : T), cells[j]? = some t → TRep cx.G w t (u j)) : VRep cx w (.ipt cells off) (.pointer (some ⟨b, o + off, none⟩))
  | fn (f : FuncId) (cs : List V) (vs : Array Value) (hn : vs.size = cs.length)
      (hr : ∀ (i : Nat) (c : V) (u : Value), cs[i]? = some c → vs[i]? = some u → VRep cx w c u) : VRep cx w (.fn f cs) (.func (.func f) #[] vs)
  | ifc (t : TypeId) (v : V) (u : Value) (h : VRep cx w v u) : VRep cx w (.ifc t v) (.iface t u)
  | junk (v : Value) : VRep cx w .junk v
def Same (G : Nat → Prop) (w w' : World) : Prop := ∀ b, G b → w'.heap[b]? = w.heap[b]?
theorem Same.cell {G : Nat → Prop} {w w' : World} (h : Same G w w') {b o : Nat} (hb : G b) : w'.cell? ⟨b, o, none⟩ = w.cell? ⟨b, o, none⟩ := World.cell?_of_block (w := w) (h b hb)
theorem Same.refl (G : Nat → Prop) (w : World) : Same G w w := fun _ _ => rfl
theorem TRep.mono {G G' : Nat → Prop} {w w' : World} {x : T} {v : Value} (h : TRep G w x v) (hs : Same G w w') (hg : ∀ b, G b → G' b) : TRep G' w' x v := by
  induction h with
  | flat v h => exact .flat v h
  | slc rows a b o es cap u hcap hnil ha hes hc hr ih =>
    refine .slc rows a b o es cap u hcap hnil (fun hne => ⟨(ha hne).1, hg _ (ha hne).2⟩) hes (fun i j t ht => ?_) ih
    have hne : rows ≠ [] := by rintro rfl; simp at ht
    rw [hs.cell (ha hne).2]
    exact hc i j t ht
structure Cx.le (cx cx' : Cx) : Prop where
  at_ : ∀ id B, cx.at_ id = some B → cx'.at_ id = some B
  G : ∀ b, cx.G b → cx'.G b
theorem Cx.le.refl (cx : Cx) : cx.le cx := ⟨fun _ _ h => h, fun _ h => h⟩
theorem VRep.mono {cx cx' : Cx} {w w' : World} {x : V} {v : Value} (h : VRep cx w x v) (hs : Same cx.G w w') (hc : cx.le cx') : VRep cx' w' x v := by
  induction h with
  | t x v h => exact .t x v (h.mono hs hc.G)
  | agg cs vs hn hcb hr ih => exact .agg cs vs hn hcb ih
  | tup cs vs hn hr ih => exact .tup cs vs hn ih
  | lstN id h => exact .lstN id (hc.at_ _ _ h)
  | lst id b cap es len h => exact .lst id b cap es len (hc.at_ _ _ h)
  | ptr id off b cap es len h => exact .ptr id off b cap es len (hc.at_ _ _ h)
  | elt id row off b cap es len h => exact .elt id row off b cap es len (hc.at_ _ _ h)
  | ipt cells off b o u hG hcell hr => exact .ipt cells off b o u (hc.G _ hG) (fun j t h => by rw [hs.cell hG]; exact hcell j t h) (fun j t h => (hr j t h).mono hs hc.G)
  | fn f cs vs hn hr ih => exact .fn f cs vs hn ih
  | ifc t v u h ih => exact .ifc t v u ih
  | junk v => exact .junk v
def VReps (cx : Cx) (w : World) (cs : List V) (vs : Array Value) : Prop := vs.size = cs.length ∧ ∀ (i : Nat) (c : V) (u : Value), cs[i]? = some c → vs[i]? = some u → VRep cx w c u
theorem VReps.mono {cx cx' : Cx} {w w' : World} {cs : List V} {vs : Array Value} (h : VReps cx w cs vs) (hs : Same cx.G w w') (hc : cx.le cx') : VReps cx' w' cs vs :=
  ⟨h.1, fun i c u h1 h2 => (h.2 i c u h1 h2).mono hs hc⟩
theorem VRep.one {cx : Cx} {w : World} {x : V} {v : Value} (h : VRep cx w x v) (hc : x.cellB = true) : oneV v = true ∧ v.cells = #[v] ∧ x.cells = [x] := by
  cases h with
  | t x v h =>
    cases h with
    | flat v h => cases v <;> simp_all [oneV, Value.cells, V.cells]
    | slc => exact ⟨rfl, rfl, rfl⟩
  | agg => simp [V.cellB] at hc
  | tup => simp [V.cellB] at hc
  | junk => simp [V.cellB] at hc
  | _ => exact ⟨rfl, rfl, rfl⟩
theorem VRep.cells {cx : Cx} {w : World} {x : V} {v : Value} (h : VRep cx w x v) (hc : x.cells.all V.cellB = true) : VReps cx w x.cells v.cells ∧ ∀ u ∈ v.cells, oneV u = true := by
  cases hx : x with
  | agg cs =>
    subst hx
    cases h with
    | agg cs vs hn hcb hr =>
      refine ⟨⟨hn, hr⟩, fun u hu => ?_⟩
      obtain ⟨i, hi, rfl⟩ := Array.mem_iff_getElem.1 hu
      have hi' : i < vs.size := hi
      have h1 : cs[i]? = some (cs[i]'(by omega)) := List.getElem?_eq_getElem (by omega)
      exact ((hr i _ _ h1 (Array.getElem?_eq_getElem hi')).one (hcb _ (List.getElem_mem _))).1
  | _ =>
    subst hx
    have hc' := hc
    simp only [V.cells, List.all_cons, List.all_nil, Bool.and_true] at hc'
    obtain ⟨h1, h2, -⟩ := h.one hc'
    rw [h2]
    refine ⟨⟨rfl, fun i c u h3 h4 => ?_⟩, fun u hu => ?_⟩
    · cases i with
      | zero =>
        simp [V.cells] at h3 h4
        subst h3
        subst h4
        exact h
      | succ i => simp [V.cells] at h3
    · simp at hu
      subst hu
      exact h1
inductive RowRep (cx : Cx) (w : World) (id : Nat) : Row → Prop
  | box (ty : TypeId) (cs : List V) (b : Nat) (vs : Array Value) (hat : cx.at_ id = some (.at b 1 cs.length 1)) (hb : w.heap[b]? = some (.cells vs ty (0, 0)))
      (hG : ¬ cx.G b) (hr : VReps cx w cs vs) : RowRep cx w id (.box ty cs)
  | listN (ty es : Nat) (hat : cx.at_ id = some .nil) : RowRep cx w id (.list ty es [])
  | list (ty es : Nat) (rows : Rows) (b cap : Nat) (vs : Array Value) (hat : cx.at_ id = some (.at b cap es rows.length)) (hb : w.heap[b]? = some (.cells vs ty (0, 0)))
      (hG : ¬ cx.G b) (hcap : rows.length ≤ cap) (hmax : cap ≤ maxLen) (hsz : vs.size = cap * es) (hes : ∀ row ∈ rows, row.length = es)
      (hr : ∀ (i j : Nat) (t : T), (rows[i]?).bind (fun r => r[j]?) = some t → ∃ u, vs[i * es + j]? = some u ∧ TRep cx.G w t u) : RowRep cx w id (.list ty es rows)
  | iter (s : ByteArray) (pos : Int) (b : Nat) (hat : cx.at_ id = some (.at b 0 0 0)) (hb : w.heap[b]? = some (.stringIter s pos.toNat)) (hG : ¬ cx.G b) (h0 : 0 ≤ pos) : RowRep cx w id (.iter s pos)
theorem Tab.mono {G G' : Nat → Prop} {w w' : World} (h : Tab G w) (hs : Same G w w') (hg : ∀ b, G b → G' b) : Tab G' w' := fun p hp =>
  ⟨hg _ (h p hp).1, fun j v hv => by rw [hs.cell (h p hp).1]; exact (h p hp).2 j v hv⟩
structure Run where
  w : World
  M : Nat → Prop
  G : Nat → Prop
  pin : Nat → Option Blk
  n : Nat
  pan : V → St → Prop
  D : List Deferred
structure HRep (cx : Cx) (heap : List (Option Row)) (w : World) : Prop where
  row : ∀ (id : Nat) r, heap[id]? = some (some r) → RowRep cx w id r
  inj : ∀ (id id' : Nat) r r' (b cap es len cap' es' len' : Nat), heap[id]? = some (some r) → heap[id']? = some (some r') → cx.at_ id = some (.at b cap es len) → cx.at_ id' = some (.at b cap' es' len') → id = id'
  dom : ∀ id, heap.length ≤ id → cx.at_ id = none
structure Kept (A : Run) (cx : Cx) (heap : List (Option Row)) (w : World) : Prop where
  os : w.os = A.w.os
  tape : w.tape = A.w.tape
  output : w.output = A.w.output
  size : A.w.heap.size ≤ w.heap.size
  block : ∀ b, b < A.w.heap.size → ¬ A.M b → w.heap[b]? = A.w.heap[b]?
  live : ∀ (id : Nat) r b cap es len, heap[id]? = some (some r) → cx.at_ id = some (.at b cap es len) → A.M b ∨ A.w.heap.size ≤ b
  G0 : ∀ b, A.G b → cx.G b
  G1 : ∀ b, cx.G b → b < w.heap.size
  G2 : ∀ b, cx.G b → A.G b ∨ A.M b ∨ A.w.heap.size ≤ b
  pin : ∀ id B, A.pin id = some B → cx.at_ id = some B ∧ id < A.n
  base : A.n ≤ heap.length
  tab : Tab cx.G w
structure Rel (A : Run) (cx : Cx) (s : St) (a : Act) (w : World) : Prop where
  tm : VReps cx w s.tmps a.tmps
  df : a.defers = A.D
  hp : HRep cx s.heap w
  kp : Kept A cx s.heap w
  bs : s.base = A.n
end Ab
end Go.Proofs.YtpplemjjeefpdaaGreatDoor
namespace Go.Proofs.YtpplemjjeefpdaaGreatDoor
open Go Go.RowKit
set_option linter.unusedVariables false
set_option linter.unusedSimpArgs false
namespace Ab
def V.closedB : V → Bool
  | .t _ => true
  | .ipt _ _ => true
  | .agg cs => allC cs
  | .tup cs => allC cs
  | .fn _ cs => allC cs
  | .ifc _ v => V.closedB v
  | .junk => true
  | _ => false
where allC : List V → Bool
  | [] => true
  | v :: r => V.closedB v && allC r
def Cx.none (G : Nat → Prop) : Cx := ⟨fun _ => Option.none, G⟩
def Callable (P : Program) (f : FuncId) : Prop := ∀ args w, (callFunc f args).run P w = .ok (.enter f args) w
def Fun (P : Program) (f : FuncId) (args : List V) (v : V) : Prop :=
  Callable P f ∧ ∀ (G : Nat → Prop) (w : World) (cargs : Array Value), (∀ b, G b → b < w.heap.size) → Tab G w → VReps (Cx.none G) w args cargs →
    Calls P f cargs w fun e w' => ∃ u, e = .returned u ∧ Below w.heap.size w w' ∧ VRep (Cx.none fun b => G b ∨ (w.heap.size ≤ b ∧ b < w'.heap.size)) w' v u
def Thr (P : Program) (f : FuncId) (args : List V) (v : V) : Prop :=
  Callable P f ∧ ∀ (G : Nat → Prop) (w : World) (cargs : Array Value), (∀ b, G b → b < w.heap.size) → Tab G w → VReps (Cx.none G) w args cargs →
    Calls P f cargs w fun e w' => ∃ u, e = .panicked [{ v := u, recovered := false }] ∧ Below w.heap.size w w' ∧ VRep (Cx.none fun b => G b ∨ (w.heap.size ≤ b ∧ b < w'.heap.size)) w' v u
inductive Out where
  | ret (v : V) (cells : List V)
  | pan (v : V)
structure BelowBut (b : Nat) (w w' : World) : Prop where
  os : w'.os = w.os
  tape : w'.tape = w.tape
  output : w'.output = w.output
  size : w.heap.size ≤ w'.heap.size
  other : ∀ k, k < w.heap.size → k ≠ b → w'.heap[k]? = w.heap[k]?
def Meth (P : Program) (f : FuncId) (ty : TypeId) (cells args : List V) (o : Out) : Prop :=
  Callable P f ∧ ∀ (G : Nat → Prop) (w : World) (b : Nat) (vs cargs : Array Value), (∀ c, G c → c < w.heap.size) → Tab G w → ¬ G b → w.heap[b]? = some (.cells vs ty (0, 0)) → VReps (Cx.none G) w cells vs → VReps (Cx.none G) w args cargs →
    Calls P f (#[.pointer (some ⟨b, 0, none⟩)] ++ cargs) w fun e w' => BelowBut b w w' ∧ ∃ u vs', w'.heap[b]? = some (.cells vs' ty (0, 0)) ∧ vs'.size = vs.size ∧ match o with
      | .ret v cells' => e = .returned u ∧ VReps (Cx.none fun c => G c ∨ (w.heap.size ≤ c ∧ c < w'.heap.size)) w' cells' vs' ∧ VRep (Cx.none fun c => G c ∨ (w.heap.size ≤ c ∧ c < w'.heap.size)) w' v u
      | .pan v => e = .panicked [{ v := u, recovered := false }] ∧ VRep (Cx.none fun c => G c ∨ (w.heap.size ≤ c ∧ c < w'.heap.size)) w' v u
def FunL (P : Program) (f : FuncId) (args : List V) (ty es : Nat) (rows : Rows) : Prop :=
  Callable P f ∧ ∀ (G : Nat → Prop) (w : World) (cargs : Array Value), (∀ b, G b → b < w.heap.size) → Tab G w → VReps (Cx.none G) w args cargs →
    Calls P f cargs w fun e w' => Below w.heap.size w w' ∧ ∃ (cx : Cx) (u : Value), e = .returned u ∧ (∀ b, cx.G b → G b ∨ (w.heap.size ≤ b ∧ b < w'.heap.size)) ∧ (∀ b, G b → cx.G b) ∧ VRep cx w' (.lst 0) u ∧ RowRep cx w' 0 (.list ty es rows) ∧ ∀ b cap es len, cx.at_ 0 = some (.at b cap es len) → w.heap.size ≤ b
def at0 (B : Blk) : Nat → Option Blk := fun i => if i = 0 then some B else none
def MethL (P : Program) (f : FuncId) (ty es : Nat) (rows : Rows) (args : List V) (v : V) (rows' : Rows) : Prop :=
  Callable P f ∧ ∀ (G : Nat → Prop) (w : World) (b cap : Nat) (cargs : Array Value), (∀ c, G c → c < w.heap.size) → Tab G w → RowRep ⟨at0 (.at b cap es rows.length), G⟩ w 0 (.list ty es rows) → VReps (Cx.none G) w args cargs →
    Calls P f (#[.slice (some ⟨b, 0, none⟩) rows.length cap] ++ cargs) w fun e w' => BelowBut b w w' ∧ ∃ u, e = .returned u ∧ rows'.length = rows.length ∧ RowRep ⟨at0 (.at b cap es rows.length), fun c => G c ∨ (w.heap.size ≤ c ∧ c < w'.heap.size)⟩ w' 0 (.list ty es rows') ∧ VRep (Cx.none fun c => G c ∨ (w.heap.size ≤ c ∧ c < w'.heap.size)) w' v u
def exRel : Exit → Ex → Prop
  | .normal, .normal => True
  | .exit i, .exit j => i = j
  | .goto i, .goto j => i = j
  | .ret, .ret => True
  | _, _ => False
def PanAt (A : Run) (a : Act) (ch : List PanicEntry) (w : World) : Prop := ∃ v u s cx, ch = [{ v := u, recovered := false }] ∧ v.closedB = true ∧ A.pan v s ∧ VRep cx w v u ∧ Rel A cx s a w
def Post (A : Run) (Q : Ex → St → Prop) (e : Exit) (a : Act) (w : World) : Prop := (∃ e' s cx, exRel e e' ∧ Q e' s ∧ Rel A cx s a w) ∨ ∃ ch, e = .panic ch ∧ PanAt A a ch w
def AW (P : Program) (A : Run) (c : Code) (s : St) (Q : Ex → St → Prop) : Prop := ∀ cx a w, Rel A cx s a w → c.wp P (Post A Q) a w
def CallA (P : Program) (A : Run) (f : FuncId) (args : List V) (s : St) (K : V → St → Prop) : Prop :=
  Callable P f ∧ ∀ cx a w cargs, Rel A cx s a w → VReps cx w args cargs →
    Calls P f cargs w fun e w' => (∃ u v s' cx', e = .returned u ∧ K v s' ∧ VRep cx' w' v u ∧ Rel A cx' s' a w') ∨ ∃ ch, e = .panicked ch ∧ PanAt A a ch w'
def PureOp (P : Program) (run : Value → Sem Value) (x : V) (k : V → Prop) : Prop := ∃ r, k r ∧ ∀ (cx : Cx) (w : World) (u : Value), VRep cx w x u → ∃ v, (run u).run P w = .ok v w ∧ VRep cx w r v
def InvA (P : Program) (A : Run) (m : String) (r : V) (args : List V) (s : St) (K : V → St → Prop) : Prop :=
  ∃ f r', (∀ (cx : Cx) (w : World) (u : Value), VRep cx w r u → ∃ u', (∀ cargs, (callMethod u m cargs).run P w = (callFunc f (#[u'] ++ cargs)).run P w) ∧ VRep cx w r' u') ∧ CallA P A f (r' :: args) s K
def arF (op : BinOp) (k : IntKind) (x y : Int) : Int :=
  match op with
  | .add => k.wrap (x + y)
  | .sub => k.wrap (x - y)
  | .mul => k.wrap (x * y)
  | .quo => k.wrap (x.tdiv y)
  | .rem => x.tmod y
  | .and => k.wrap (BitVec.ofInt k.bits x &&& BitVec.ofInt k.bits y).toNat
  | .or => k.wrap (BitVec.ofInt k.bits x ||| BitVec.ofInt k.bits y).toNat
  | .xor => k.wrap (BitVec.ofInt k.bits x ^^^ BitVec.ofInt k.bits y).toNat
  | .andNot => k.wrap (BitVec.ofInt k.bits x &&& ~~~(BitVec.ofInt k.bits y)).toNat
  | .shl => k.wrap (x * 2 ^ (min y.toNat k.bits))
  | .shr => x.fdiv (2 ^ (min y.toNat k.bits))
  | _ => 0
def cmpF (op : BinOp) (x y : Int) : Bool :=
  match op with
  | .eql => x == y
  | .neq => x != y
  | .lss => decide (x < y)
  | .leq => decide (x ≤ y)
  | .gtr => decide (x > y)
  | .geq => decide (x ≥ y)
  | _ => false
def scmpF (op : BinOp) (x y : ByteArray) : Bool :=
  match op with
  | .eql => x.toList == y.toList
  | .neq => !(x.toList == y.toList)
  | .lss => Op.bytesLess x.toList y.toList
  | .leq => Op.bytesLess x.toList y.toList || x.toList == y.toList
  | .gtr => !(Op.bytesLess x.toList y.toList || x.toList == y.toList)
  | .geq => !Op.bytesLess x.toList y.toList
  | _ => false
def dom (P : Program) (A : Run) : Env where
  ar := arF
  cmp := cmpF
  conj := fun l => l.all id
  ne0 := fun y => y ≠ 0
  ge0 := fun y => 0 ≤ y
  conv := fun k n => k.wrap n
  slen := fun s => s.size
  scmp := scmpF
  cat := fun x y => x ++ y
  catok := fun x y => x.size + y.size ≤ maxLen
  sat := fun s n => (s.data.getD n.toNat 0).toNat
  sin := fun s n => 0 ≤ n ∧ n < s.size
  ssub := fun s l h => s.extract l.toNat h.toNat
  ssin := fun s l h => 0 ≤ l ∧ l ≤ h ∧ h ≤ s.size
  llen := fun rows => rows.length
  row := fun rows n k => ∃ r, 0 ≤ n ∧ rows[n.toNat]? = some r ∧ k r
  lsub := fun rows l h => (rows.take h.toNat).drop l.toNat
  lsin := fun rows l h es => 0 ≤ l ∧ l ≤ h ∧ h ≤ rows.length ∧ ∀ row ∈ rows, row.length = es
  lset := fun rows n r => rows.set n.toNat r
  lapp := fun a b => a ++ b
  lzero := fun n r => List.replicate n.toNat r
  room := fun a b es bytes => (∀ row ∈ b, row.length = es) ∧ a.length + b.length ≤ maxLen ∧ (a.length + b.length) * bytes ≤ 2 ^ 47
  roomz := fun n m bytes => n = m ∧ 0 ≤ n ∧ n ≤ 2 ^ 40 ∧ (bytes : Int) * n ≤ 2 ^ 47
  ifb := fun b p q => (b = true → p ()) ∧ (b = false → q ())
  pcall := fun f args k => args.all V.closedB = true ∧ ∃ v, Fun P f args v ∧ k v
  call := CallA P A
  draw := fun ops s K => ∀ id, AW P A (.region id ops.toArray true) s fun e s' => e = .normal ∧ K s'
  other := AW P A
  mki := fun xt x k => PureOp P (Instr.makeInterface xt) x k
  asrt := fun xt at_ ok x k => PureOp P (fun u => Instr.typeAssert u xt at_ ok) x k
  inv := InvA P A
  pan := fun v t => v.closedB = true ∧ A.pan v t
  nxt := fun s p y n => (p.toNat < s.size → y (p + (Utf8.decode s p.toNat).2) (Utf8.decode s p.toNat).1) ∧ (¬ p.toNat < s.size → n ())
  imin := fun a b => if b < a then b else a
  imax := fun a b => if b > a then b else a
  brows := fun s => s.data.toList.map fun b => [.flat (.int .u8 b.toNat)]
  bstr := fun rows => ⟨(rows.map fun r => match r with | [.flat (.int .u8 n)] => UInt8.ofNat n.toNat | _ => 0).toArray⟩
  bok := fun rows => ∀ r ∈ rows, ∃ n : Int, 0 ≤ n ∧ n < 256 ∧ r = [.flat (.int .u8 n)]
  bsz := fun s => s.size ≤ maxLen
  free := fun id => A.pin id = none
  cpok := fun rows new => rows ≠ [] ∧ new ≠ [] ∧ ∀ r ∈ new, r.length = 1
  lcopy := fun rows new => new.take rows.length ++ rows.drop new.length
  nilq := fun rows k => k false ∧ (rows = [] → k true)
  cell := fun cs n k => ∃ c, 0 ≤ n ∧ cs[n.toNat]? = some c ∧ k c
section
variable {P : Program} {w : World}
theorem run_underlying {t : TypeId} {d : TypeDesc} (h : P.underlying t = some d) : (underlying t).run P w = .ok d w := by
  simp [underlying, go_sem, h]
theorem run_typeInfo {t : TypeId} {d : TypeInfo} (h : P.info? t = some d) : (typeInfo t).run P w = .ok d w := by
  simp [typeInfo, go_sem, h]
theorem run_sizeOf {t : TypeId} {d : TypeInfo} (h : P.info? t = some d) : (sizeOf t).run P w = .ok d.size w := by
  simp [sizeOf, run_typeInfo h, go_sem]
theorem run_zero {t : TypeId} {d : TypeInfo} {z : Value} (h : P.info? t = some d) (hz : d.zero = some z) : (zeroValue t).run P w = .ok z w := by
  simp [zeroValue, run_typeInfo h, go_sem, hz]
theorem run_isAgg {t : TypeId} {d : TypeDesc} (h : P.underlying t = some d) : (isAgg t).run P w = .ok (aggD d) w := by
  unfold isAgg aggD
  cases d <;> simp [run_underlying h, go_sem]
theorem add_none (b o n : Nat) : (⟨b, o, none⟩ : Addr).add n = ⟨b, o + n, none⟩ := by
  unfold Addr.add
  split
  · subst_vars; rfl
  · rfl
theorem run_fieldAt {t f : Nat} {fs : Array Field} {fld : Field} {fi : TypeInfo} {b o : Nat} (hu : P.underlying t = some (.struct fs)) (hf : fs[f]? = some fld) (hi : P.info? fld.type = some fi) (hz : 0 < fi.size) :
    (Instr.fieldAt t (.pointer (some ⟨b, o, none⟩)) f).run P w = .ok (.pointer (some ⟨b, o + fld.offset, none⟩)) w := by
  have hz' : fi.size ≠ 0 := by omega
  simp [Instr.fieldAt, run_underlying hu, go_sem, hf, Instr.sureAddr, fieldPlace, run_sizeOf hi, hz', add_none]
theorem run_loadCellsFrom {b o : Nat} {vs : List Value} : ∀ (i : Nat) (acc : Array Value), (∀ (j : Nat) u, vs[j]? = some u → w.cell? ⟨b, o + (i + j), none⟩ = some u) →
    (loadCellsFrom ⟨b, o, none⟩ i vs.length acc).run P w = .ok (acc ++ vs.toArray) w := by
  induction vs with
  | nil => intro i acc _; simp [loadCellsFrom, go_sem]
  | cons v r ih =>
    intro i acc h
    have h0 := h 0 v rfl
    rw [Nat.add_zero] at h0
    have := ih (i + 1) (acc.push v) (fun j u hu => by have := h (j + 1) u hu; rwa [show i + (j + 1) = i + 1 + j by omega] at this)
    simp [loadCellsFrom, go_sem, add_none, h0, this]
theorem run_loadCells {b o : Nat} {vs : List Value} (h : ∀ (j : Nat) u, vs[j]? = some u → w.cell? ⟨b, o + j, none⟩ = some u) : (loadCells ⟨b, o, none⟩ vs.length).run P w = .ok vs.toArray w := by
  have := run_loadCellsFrom (P := P) (w := w) (b := b) (o := o) (vs := vs) 0 #[] (fun j u hu => by rw [Nat.zero_add]; exact h j u hu)
  simpa [loadCells] using this
end
end Ab
end Go.Proofs.YtpplemjjeefpdaaGreatDoor
