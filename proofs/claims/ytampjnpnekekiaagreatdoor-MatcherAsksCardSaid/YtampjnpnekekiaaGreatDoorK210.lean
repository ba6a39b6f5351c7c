/- A plain machine: loops, bodies, calls. -/
import Derived.Test.YtampjnpnekekiaaGreatDoorK209
namespace Go.Proofs.YtampjnpnekekiaaGreatDoor
open Go Go.RowKit
set_option linter.unusedVariables false
set_option linter.unusedSimpArgs false
namespace Ab
section
variable {P : Program} {A : Run} {L : TypeId → Option Lt}
mutual
def V.under (n : Nat) : V → Bool
  | .lst j => decide (j < n)
  | .ptr j _ => decide (j < n)
  | .elt j _ _ => decide (j < n)
  | .agg cs => underL n cs
  | .tup cs => underL n cs
  | .fn _ cs => underL n cs
  | .ifc _ v => V.under n v
  | _ => true
def underL (n : Nat) : List V → Bool
  | [] => true
  | v :: r => V.under n v && underL n r
end
def leV (n : Nat) (a b : V) : Prop :=
  match b with
  | .junk => True
  | .lst id => a = .lst id ∨ (a = vNil ∧ n ≤ id)
  | b => a = b
def leL (n : Nat) : List V → List V → Prop
  | [], [] => True
  | a :: x, b :: y => leV n a b ∧ leL n x y
  | _, _ => False
def leRow (n : Nat) : Row → Row → Prop
  | .box t cs, .box t' cs' => t = t' ∧ leL n cs cs'
  | .list t es rows, .list t' es' rows' => t = t' ∧ es = es' ∧ rows = rows'
  | .iter s p, .iter s' p' => s = s' ∧ p = p'
  | _, _ => False
def newRow : Row → Prop
  | .list _ _ [] => True
  | _ => False
def leOne (n : Nat) (x : List (Option Row)) (r' : Option Row) : Prop :=
  match r' with
  | none => True
  | some r' => match x with
    | [] => newRow r'
    | some r :: _ => leRow n r r'
    | none :: _ => False
def leH (n : Nat) : List (Option Row) → List (Option Row) → Prop
  | _, [] => True
  | x, r' :: y => leOne n x r' ∧ leH n x.tail y
def underRow (n : Nat) : Option Row → Bool
  | some (.box _ cs) => underL n cs
  | _ => true
def St.le (s t : St) : Prop :=
  leL s.heap.length s.tmps t.tmps ∧ leH s.heap.length s.heap t.heap ∧ underL t.heap.length t.tmps = true ∧ t.heap.all (underRow t.heap.length) = true ∧ t.base = s.base ∧ Nat.ble s.base t.heap.length = true
theorem underL_get {n : Nat} : ∀ {l : List V}, underL n l = true → ∀ (i : Nat) (c : V), l[i]? = some c → c.under n = true
  | [], _, i, c, h => by simp at h
  | v :: r, hn, i, c, h => by
    simp only [underL, Bool.and_eq_true] at hn
    cases i with
    | zero => simp at h; subst h; exact hn.1
    | succ i => exact underL_get hn.2 i c (by simpa using h)
theorem VRep.cut {cx cx' : Cx} {w : World} {v : V} {u : Value} {n : Nat} (h : VRep cx w v u) (hat : ∀ i B, i < n → cx.at_ i = some B → cx'.at_ i = some B) (hG : ∀ b, cx.G b → cx'.G b) : v.under n = true → VRep cx' w v u := by
  induction h with
  | t x v h => intro _; exact .t x v (h.mono (Same.refl _ _) hG)
  | agg cs vs hn hcb hr ih => intro hu; exact .agg cs vs hn hcb fun i c u h1 h2 => ih i c u h1 h2 (underL_get hu i c h1)
  | tup cs vs hn hr ih => intro hu; exact .tup cs vs hn fun i c u h1 h2 => ih i c u h1 h2 (underL_get hu i c h1)
  | lstN id h => intro hu; exact .lstN id (hat _ _ (by simpa [V.under] using hu) h)
  | lst id b cap es len h => intro hu; exact .lst id b cap es len (hat _ _ (by simpa [V.under] using hu) h)
  | ptr id off b cap es len h => intro hu; exact .ptr id off b cap es len (hat _ _ (by simpa [V.under] using hu) h)
  | elt id row off b cap es len h => intro hu; exact .elt id row off b cap es len (hat _ _ (by simpa [V.under] using hu) h)
  | ipt cells off b o u hb hc hr => intro _; exact .ipt cells off b o u (hG _ hb) hc fun j t h => (hr j t h).mono (Same.refl _ _) hG
  | fn f cs vs hn hr ih => intro hu; exact .fn f cs vs hn fun i c u h1 h2 => ih i c u h1 h2 (underL_get hu i c h1)
  | ifc t v u h ih => intro hu; exact .ifc t v u (ih hu)
  | junk v => intro _; exact .junk v
theorem leL_get {n : Nat} : ∀ {x y : List V}, leL n x y → x.length = y.length ∧ ∀ (i : Nat) (b : V), y[i]? = some b → ∃ a, x[i]? = some a ∧ leV n a b
  | [], [], _ => ⟨rfl, fun i b h => by simp at h⟩
  | a :: x, b :: y, h => by
    obtain ⟨h1, h2⟩ := leL_get h.2
    refine ⟨by simp [h1], fun i c hc => ?_⟩
    cases i with
    | zero => simp at hc; subst hc; exact ⟨a, rfl, h.1⟩
    | succ i => exact h2 i c (by simpa using hc)
  | [], _ :: _, h => h.elim
  | _ :: _, [], h => h.elim
theorem leH_get {n : Nat} : ∀ {y x : List (Option Row)}, leH n x y → ∀ (i : Nat) (r : Row), y[i]? = some (some r) → (∃ r0, x[i]? = some (some r0) ∧ leRow n r0 r) ∨ (x.length ≤ i ∧ ∃ ty es, r = .list ty es [])
  | [], _, _, i, r, h => by simp at h
  | r' :: y, x, h, i, r, hr => by
    cases i with
    | zero =>
      simp at hr
      subst hr
      have h1 := h.1
      unfold leOne at h1
      cases x with
      | nil =>
        simp only at h1
        unfold Ab.newRow at h1
        split at h1
        · exact .inr ⟨by simp, _, _, rfl⟩
        · exact h1.elim
      | cons z x =>
        cases z with
        | none => exact h1.elim
        | some r0 => exact .inl ⟨r0, rfl, h1⟩
    | succ i =>
      rcases leH_get h.2 i r (by simpa using hr) with ⟨r0, h1, h2⟩ | ⟨h1, h2⟩
      · exact .inl ⟨r0, by cases x <;> first | (simp at h1; done) | simpa using h1, h2⟩
      · exact .inr ⟨by cases x <;> simp at h1 ⊢ <;> omega, h2⟩
theorem Rel.loose {cx : Cx} {s t : St} {a : Act} {w : World} (R : Rel A cx s a w) (h : s.le t) : ∃ cx', Rel A cx' t a w := by
  obtain ⟨h1, h2, h3, h4, h5, h6⟩ := h
  have h6' : s.base ≤ t.heap.length := by simpa using h6
  let cx' : Cx := ⟨fun i => if i < t.heap.length then (if i < s.heap.length then cx.at_ i else some .nil) else none, cx.G⟩
  have at1 : ∀ i B, i < t.heap.length → cx.at_ i = some B → cx'.at_ i = some B := fun i B hi hB => by
    have : i < s.heap.length := by
      rcases Nat.lt_or_ge i s.heap.length with h | h
      · exact h
      · rw [R.hp.dom i h] at hB; cases hB
    show (if i < t.heap.length then (if i < s.heap.length then cx.at_ i else some .nil) else none) = some B
    rw [if_pos hi, if_pos this]; exact hB
  have at2 : ∀ i, s.heap.length ≤ i → i < t.heap.length → cx'.at_ i = some .nil := fun i h1 h2 => by
    show (if i < t.heap.length then (if i < s.heap.length then cx.at_ i else some .nil) else none) = some .nil
    rw [if_pos h2, if_neg (by omega)]
  have at3 : ∀ i B, cx'.at_ i = some B → (i < s.heap.length ∧ cx.at_ i = some B) ∨ B = .nil := fun i B hB => by
    have hB' : (if i < t.heap.length then (if i < s.heap.length then cx.at_ i else some .nil) else none) = some B := hB
    split at hB'
    · split at hB'
      · rename_i h; exact .inl ⟨h, hB'⟩
      · cases hB'; exact .inr rfl
    · cases hB'
  have one : ∀ {x : V} {u : Value} {b : V}, VRep cx w x u → leV s.heap.length x b → b.under t.heap.length = true → VRep cx' w b u := fun {x u b} hx hle hu => by
    cases b with
    | junk => exact .junk u
    | lst id =>
      rcases hle with rfl | ⟨rfl, hid⟩
      · exact hx.cut at1 (fun _ h => h) hu
      · have := inv_flat hx
        subst this
        exact .lstN id (at2 id hid (by simpa [V.under] using hu))
    | _ =>
      have e : x = _ := hle
      subst e
      exact hx.cut at1 (fun _ h => h) hu
  have many : ∀ {x y : List V} {vs : Array Value}, VReps cx w x vs → leL s.heap.length x y → underL t.heap.length y = true → VReps cx' w y vs := fun {x y vs} hx hle hu => by
    obtain ⟨g1, g2⟩ := leL_get hle
    refine ⟨by rw [hx.1, g1], fun i c u q1 q2 => ?_⟩
    obtain ⟨c0, q3, q4⟩ := g2 i c q1
    exact one (hx.2 i c0 u q3 q2) q4 (underL_get hu i c q1)
  have rows : ∀ (i : Nat) r, t.heap[i]? = some (some r) → i < t.heap.length ∧ ((∃ r0, s.heap[i]? = some (some r0) ∧ leRow s.heap.length r0 r ∧ isList r = isList r0) ∨ (s.heap.length ≤ i ∧ ∃ ty es, r = .list ty es [])) := fun i r hr => by
    refine ⟨(List.getElem?_eq_some_iff.1 hr).1, ?_⟩
    rcases leH_get h2 i r hr with ⟨r0, g1, g2⟩ | g
    · exact .inl ⟨r0, g1, g2, by cases r0 <;> cases r <;> first | rfl | exact g2.elim⟩
    · exact .inr g
  refine ⟨cx', ?_⟩
  constructor
  · exact many R.tm h1 h3
  · exact R.df
  · constructor
    · intro i r hr
      obtain ⟨hi, hh⟩ := rows i r hr
      rcases hh with ⟨r0, g1, g2, -⟩ | ⟨g1, ty, es, rfl⟩
      · have hR := R.hp.row i r0 g1
        cases hR with
        | iter s0 p0 b hat hbl hn h0 =>
          cases r with
          | list => exact g2.elim
          | box => exact g2.elim
          | iter s1 p1 =>
            obtain ⟨rfl, rfl⟩ := g2
            exact .iter _ _ b (at1 _ _ hi hat) hbl hn h0
        | box ty cs b vs hat hbl hn hrr =>
          cases r with
          | list => exact g2.elim
          | iter => exact g2.elim
          | box ty' cs' =>
            obtain ⟨rfl, g3⟩ := g2
            have hun := List.all_eq_true.1 h4 _ (List.mem_of_getElem? hr)
            refine .box ty cs' b vs ?_ hbl hn (many hrr g3 hun)
            rw [← (leL_get g3).1]
            exact at1 _ _ hi hat
        | listN ty es hat =>
          cases r with
          | box => exact g2.elim
          | iter => exact g2.elim
          | list ty' es' rows' =>
            obtain ⟨rfl, rfl, rfl⟩ := g2
            exact .listN _ _ (at1 _ _ hi hat)
        | list ty es rows b cap vs hat hbl hn hcap hmax hsz hes hrr =>
          cases r with
          | box => exact g2.elim
          | iter => exact g2.elim
          | list ty' es' rows' =>
            obtain ⟨rfl, rfl, rfl⟩ := g2
            exact .list _ _ _ b cap vs (at1 _ _ hi hat) hbl hn hcap hmax hsz hes hrr
      · exact .listN _ _ (at2 _ g1 hi)
    · intro i i' r r' b cap es len cap' es' len' q1 q2 q3 q4
      obtain ⟨-, hh⟩ := rows i r q1
      obtain ⟨-, hh'⟩ := rows i' r' q2
      rcases at3 _ _ q3 with ⟨p1, p2⟩ | h
      · rcases at3 _ _ q4 with ⟨p3, p4⟩ | h
        · rcases hh with ⟨r0, g1, -⟩ | ⟨g1, -⟩
          · rcases hh' with ⟨r0', g1', -⟩ | ⟨g1', -⟩
            · exact R.hp.inj _ _ _ _ _ _ _ _ _ _ _ g1 g1' p2 p4
            · omega
          · omega
        · cases h
      · cases h
    · intro i hi
      exact if_neg (by omega)
  · constructor
    · exact R.kp.os
    · exact R.kp.tape
    · exact R.kp.output
    · exact R.kp.size
    · exact R.kp.block
    · intro i r b cap es len q1 q2
      obtain ⟨-, hh⟩ := rows i r q1
      rcases at3 _ _ q2 with ⟨p1, p2⟩ | h
      · rcases hh with ⟨r0, g1, -⟩ | ⟨g1, -⟩
        · exact R.kp.live _ _ _ _ _ _ g1 p2
        · omega
      · cases h
    · exact R.kp.G0
    · exact R.kp.G1
    · exact R.kp.G2
    · intro i B hp
      obtain ⟨q1, q2⟩ := R.kp.pin i B hp
      exact ⟨at1 _ _ (by rw [← R.bs] at q2; omega) q1, q2⟩
    · rw [← R.bs]; exact h6'
    · exact R.kp.tab
  · rw [h5]; exact R.bs
theorem AW.loose {c : Code} {s t : St} {Q : Ex → St → Prop} (h : AW P A c t Q) (hle : s.le t) : AW P A c s Q := fun cx a w R => by
  obtain ⟨cx', R'⟩ := R.loose hle
  exact h cx' a w R'
theorem wp_loop_n {c : Code} {Q : Exit → Act → World → Prop} {a : Act} {w : World} (I : Nat → Act → World → Prop) (n0 : Nat) (h0 : I n0 a w)
    (round : ∀ n a w, I n a w → c.wp P (Exit.then (fun a' w' => ∃ m, m < n ∧ I m a' w') Q) a w) : (Code.loop c).wp P Q a w := by
  intro b k cs
  have key : ∀ n a w, I n a w → ∃ e a' w', Q e a' w' ∧ Arrives P (lone (b.at a (.code c :: .inLoop c :: k)) cs w) b k cs e a' w' := by
    intro n
    induction n using Nat.strongRecOn with
    | _ n ih =>
      intro a w hI
      obtain ⟨e, a₁, w₁, hq, harr⟩ := round n a w hI b (.inLoop c :: k) cs
      cases e with
      | normal =>
        obtain ⟨m, hlt, hI₁⟩ := hq
        obtain ⟨e₂, a₂, w₂, hq₂, harr₂⟩ := ih m hlt a₁ w₁ hI₁
        exact ⟨e₂, a₂, w₂, hq₂, .of_steps (Steps.trans harr (.one step_inLoop)) harr₂⟩
      | exit id => exact ⟨_, a₁, w₁, hq, .pass (x := .inLoop c) rfl (fun _ _ => .inl (by simp)) harr⟩
      | goto l => exact ⟨_, a₁, w₁, hq, .pass (x := .inLoop c) rfl (fun _ _ => .inl (by simp)) harr⟩
      | ret => exact ⟨_, a₁, w₁, hq, .pass (x := .inLoop c) rfl (fun _ _ => .inl (by simp)) harr⟩
      | panic ch => exact ⟨_, a₁, w₁, hq, .pass (x := .inLoop c) rfl (fun _ _ => .inl (by simp)) harr⟩
      | outgrown => exact ⟨_, a₁, w₁, hq, .pass (x := .inLoop c) rfl (fun _ _ => .inl (by simp)) harr⟩
  obtain ⟨e, a', w', hq, harr⟩ := key n0 a w h0
  exact ⟨e, a', w', hq, .of_steps (.one step_loop) harr⟩
theorem AW_loop (hL : LayOk P L) {c : Code} {s : St} {Q : Ex → St → Prop} {Γ : Type} (F : Γ → St) (pre : Γ → Prop) (mu : Γ → Nat) (g0 : Γ) (h0 : pre g0) (hle : s.le (F g0))
    (hstep : ∀ g, pre g → ∀ Q' : Ex → St → Prop, (∀ s' g', pre g' → mu g' < mu g → s'.le (F g') → Q' .normal s') → (∀ s', Q .ret s' → Q' .ret s') → (∀ i s', Q (.exit i) s' → Q' (.exit i) s') → AW P A c (F g) Q') :
    AW P A (.loop c) s Q := fun cx a w R => by
  obtain ⟨cx0, R0⟩ := R.loose hle
  refine wp_loop_n (fun n a w => ∃ g cx, pre g ∧ mu g = n ∧ Rel A cx (F g) a w) (mu g0) ⟨g0, cx0, h0, rfl, R0⟩ ?_
  rintro n a w ⟨g, cx, hg, rfl, R⟩
  have := hstep g hg (fun e s' => match e with
    | .normal => ∃ g', pre g' ∧ mu g' < mu g ∧ s'.le (F g')
    | e => Q e s') (fun s' g' h1 h2 h3 => ⟨g', h1, h2, h3⟩) (fun s' h => h) (fun i s' h => h) cx a w R
  refine wp_mono this fun e a w h => ?_
  rcases h with ⟨e', s', cx', h1, h2, h3⟩ | ⟨ch, rfl, h⟩
  case inr => exact .inr ⟨ch, rfl, h⟩
  cases e with
  | normal =>
    cases e' <;> first | exact h1.elim | skip
    obtain ⟨g', q1, q2, q3⟩ := h2
    obtain ⟨cx2, R2⟩ := h3.loose q3
    exact ⟨mu g', q2, g', cx2, q1, rfl, R2⟩
  | _ => cases e' <;> first | exact h1.elim | exact .inl ⟨_, s', cx', h1, h2, h3⟩
end
end Ab
end Go.Proofs.YtampjnpnekekiaaGreatDoor
