/- How a law's arguments lie in memory, as trees: numbers, texts, truths, structs, slices. -/
import Derived.Test.YtampjnpnekekiaaGreatDoorK213
import Derived.Test.YtampjnpnekekiaaGreatDoorK243
import Derived.ProofKit
import Derived.OpenShut
import Derived.ShutString
import Derived.Carry
import Derived.LaidMore
import Derived.Deep.DeepHandedRow
import Derived.Test.YtampjnpnekekiaaGreatDoorK220
import Derived.Test.YtampjnpnekekiaaGreatDoorK236
namespace Go.Proofs.YtampjnpnekekiaaGreatDoor
open Go Go.RowKit Go.ChangeShapes Go.WideShapes
set_option linter.unusedVariables false
set_option linter.unusedSimpArgs false
open Ab
namespace Op2
def CRep (G : Nat → Prop) (w : World) (ts : List T) (cs : List Value) : Prop := cs.length = ts.length ∧ ∀ (j : Nat) t u, ts[j]? = some t → cs[j]? = some u → TRep G w t u
theorem crep_nil {G : Nat → Prop} {w : World} : CRep G w [] [] := ⟨rfl, fun j t u h => by simp at h⟩
theorem crep_cons {G : Nat → Prop} {w : World} {t : T} {u : Value} {ts : List T} {cs : List Value} (h : TRep G w t u) (hr : CRep G w ts cs) : CRep G w (t :: ts) (u :: cs) := by
  refine ⟨by simp [hr.1], fun j a b h1 h2 => ?_⟩
  cases j with
  | zero => simp at h1 h2; subst h1; subst h2; exact h
  | succ j => exact hr.2 j a b (by simpa using h1) (by simpa using h2)
theorem crep_app {G : Nat → Prop} {w : World} : ∀ {ts us : List T} {cs ds : List Value}, CRep G w ts cs → CRep G w us ds → CRep G w (ts ++ us) (cs ++ ds)
  | [], us, [], ds, _, h => h
  | [], us, c :: cs, ds, h, _ => by have := h.1; simp at this
  | t :: ts, us, [], ds, h, _ => by have := h.1; simp at this
  | t :: ts, us, c :: cs, ds, h, g => crep_cons (h.2 0 t c rfl rfl) (crep_app ⟨by have := h.1; simpa using this, fun j a b h1 h2 => h.2 (j + 1) a b (by simpa using h1) (by simpa using h2)⟩ g)
theorem agg_rep {cx : Cx} {w : World} {ts : List T} {cs : Array Value} (h : CRep cx.G w ts cs.toList) : VRep cx w (.agg (ts.map V.t)) (.agg cs) := by
  refine .agg _ _ (by simpa using h.1) (fun c hc => by obtain ⟨t, -, rfl⟩ := List.mem_map.1 hc; rfl) (fun i c u h1 h2 => ?_)
  rw [List.getElem?_map] at h1
  obtain ⟨t, ht, rfl⟩ := Option.map_eq_some_iff.1 h1
  exact .t _ _ (h.2 i t u ht (by simpa using h2))
theorem slc_of {α : Type} {n : Nat} {row : α → List T} {R : α → List Value → Prop} {G : Nat → Prop} {w : World} {xs : List α} {A : Option Addr} {cap : Nat} (hn : ∀ x ∈ xs, (row x).length = n) (hR : ∀ x cs, x ∈ xs → R x cs → CRep G w (row x) cs)
    (hf : Fits A xs.length cap) (h : RowsAt n R G w A xs) : TRep G w (.slc (xs.map row)) (.slice A xs.length cap) := by
  by_cases hpos : 0 < xs.length
  · obtain ⟨b, o, rfl, hG, hk⟩ := h hpos
    have key : ∀ i j t, ((xs.map row)[i]?).bind (fun r => r[j]?) = some t → ∃ u, w.cell? ⟨b, o + (i * n + j), none⟩ = some u ∧ TRep G w t u := fun i j t ht => by
      rw [List.getElem?_map] at ht
      cases hx : xs[i]? with
      | none => rw [hx] at ht; cases ht
      | some x =>
        rw [hx] at ht
        simp only [Option.map_some, Option.bind_some] at ht
        obtain ⟨hi, rfl⟩ := List.getElem?_eq_some_iff.1 hx
        obtain ⟨cs, h1, h2⟩ := hk i hi
        obtain ⟨g1, g2⟩ := hR _ cs (List.getElem_mem hi) h1
        have hj : j < cs.length := by have := (List.getElem?_eq_some_iff.1 ht).1; omega
        refine ⟨cs[j], ?_, g2 j t _ ht (List.getElem?_eq_getElem hj)⟩
        have := h2 j _ (List.getElem?_eq_getElem hj)
        rwa [show o + i * n + j = o + (i * n + j) by omega] at this
    have hlen : (xs.map row).length = xs.length := List.length_map ..
    rw [← hlen]
    refine .slc _ _ b o n cap (fun i j => (w.cell? ⟨b, o + (i * n + j), none⟩).getD undef) (by rw [hlen]; exact hf.1) (fun e => by cases e) (fun _ => ⟨rfl, hG⟩) (fun r hr => ?_) (fun i j t ht => ?_) (fun i j t ht => ?_)
    · obtain ⟨x, hx, rfl⟩ := List.mem_map.1 hr
      exact hn x hx
    · obtain ⟨u, h1, -⟩ := key i j t ht
      rw [h1]
      rfl
    · obtain ⟨u, h1, h2⟩ := key i j t ht
      rw [h1]
      exact h2
  · obtain rfl : xs = [] := List.eq_nil_of_length_eq_zero (by omega)
    exact .slc [] A 0 0 0 cap (fun _ _ => undef) (Nat.zero_le _) hf.2 (fun h => absurd rfl h) (fun r h => by simp at h) (fun i j t h => by simp at h) (fun i j t h => by simp at h)
section
variable {H : Type} {enc : TypeId × Value → H} {P : Program} {W : World} {sp : Nat → Bool} {held : Bool} {fuel : Nat} {x : DataW H × List MemPlace}
abbrev GW (W : World) : Nat → Prop := fun b => b < W.heap.size
theorem o_int {t : TypeId} {k : IntKind} {cs : List Value} (ht : P.underlying t = some (.int k)) (h : DataW.trod enc P W 0 sp held fuel t cs = some x) : ∃ a : Int, CRep (GW W) W [.flat (.int k a)] cs := by
  obtain ⟨n, rfl, -, -⟩ := DataW.trod_int ht h
  exact ⟨n, crep_cons (.flat _ rfl) crep_nil⟩
theorem o_str {t : TypeId} {cs : List Value} (ht : P.underlying t = some .string) (h : DataW.trod enc P W 0 sp held fuel t cs = some x) : ∃ a : ByteArray, CRep (GW W) W [.flat (.string a)] cs := by
  obtain ⟨n, rfl, -, -⟩ := DataW.trod_string ht h
  exact ⟨n, crep_cons (.flat _ rfl) crep_nil⟩
theorem o_slc {α : Type} {t e : TypeId} {n : Nat} {c : α → List T} {cs : List Value} (hT : P.underlying t = some (.slice e)) (hn : P.cellsOf e = n) (hn0 : 0 < n) (hc : ∀ a, (c a).length = n)
    (hR : ∀ (fuel : Nat) (cs : List Value) (x : DataW H × List MemPlace), DataW.trod enc P W 0 sp held fuel e cs = some x → ∃ a, CRep (GW W) W (c a) cs) (hl : cs.length = 1)
    (h : DataW.trod enc P W 0 sp held fuel t cs = some x) : ∃ l : List α, CRep (GW W) W [.slc (l.map c)] cs ∧ l.length ≤ maxLen := by
  match cs, hl with
  | [v], _ =>
  obtain ⟨A, xs, cap, rfl, hf, hm, hr⟩ := rows_open (α := α) (R := fun a cs => CRep (GW W) W (c a) cs) hT hn hn0 (fun fuel cs x h => by
    obtain ⟨a, ha⟩ := hR fuel cs x h
    exact ⟨a, ha, by rw [ha.1, hc]⟩) h
  exact ⟨xs, crep_cons (slc_of (fun a _ => hc a) (fun a cs _ h => h) hf hr) crep_nil, hm⟩
theorem fld {fs : Array Field} {n : Nat} {cs : List Value} {xs : List (DataW H × List MemPlace)} (hl : xs.length = fs.size)
    (hf : ∀ (i : Nat) (f : Field), fs[i]? = some f → DataW.trod enc P W 0 sp held n f.type ((cs.drop f.offset).take (P.cellsOf f.type)) = xs[i]?) (i : Nat) (f : Field) (h : fs[i]? = some f) :
    ∃ y, DataW.trod enc P W 0 sp held n f.type ((cs.drop f.offset).take (P.cellsOf f.type)) = some y := by
  have := hf i f h
  obtain ⟨hi, -⟩ := Array.getElem?_eq_some_iff.1 h
  rw [List.getElem?_eq_getElem (by omega)] at this
  exact ⟨_, this⟩
theorem part_end {G : Nat → Prop} {cs : List Value} {o s : Nat} {ts : List T} (hl : cs.length = o + s) (h : CRep G W ts ((cs.drop o).take s)) : CRep G W ts (cs.drop o) := by
  rwa [List.take_of_length_le (by rw [List.length_drop]; omega)] at h
theorem part {G : Nat → Prop} {cs : List Value} {o s : Nat} {ts us : List T} (h : CRep G W ts ((cs.drop o).take s)) (hr : CRep G W us (cs.drop (o + s))) : CRep G W (ts ++ us) (cs.drop o) := by
  have e : cs.drop o = (cs.drop o).take s ++ cs.drop (o + s) := by rw [← List.drop_drop, List.take_append_drop]
  rw [e]
  exact crep_app h hr
end
theorem vr_nil {cx : Cx} {w : World} : VReps cx w [] ⟨[]⟩ := ⟨rfl, fun i c u h => by simp at h⟩
theorem vr_cons {cx : Cx} {w : World} {a : V} {av : List V} {y : Value} {ys : List Value} (h : VRep cx w a y) (hr : VReps cx w av ⟨ys⟩) : VReps cx w (a :: av) ⟨y :: ys⟩ :=
  ⟨by have := hr.1; simp at this ⊢; exact this, fun i c u h1 h2 => by
    cases i with
    | zero => simp at h1 h2; subst h1; subst h2; exact h
    | succ i => exact hr.2 i c u (by simpa using h1) (by simpa using h2)⟩
theorem v_one {cx : Cx} {w : World} {t : T} {y : Value} (h : CRep cx.G w [t] [y]) : VRep cx w (.t t) y := .t _ _ (h.2 0 t y rfl rfl)
theorem v_agg {cx : Cx} {w : World} {ts : List T} {cs : Array Value} (h : CRep cx.G w ts cs.toList) : VRep cx w (.agg (ts.map V.t)) (.agg cs) := agg_rep h
end Op2
end Go.Proofs.YtampjnpnekekiaaGreatDoor
namespace Go.Proofs.YtampjnpnekekiaaGreatDoor
open Go Go.ChangeShapes Go.WideShapes Go.ChangeAt Go.RowKit
section
variable {H : Type} {enc : TypeId × Value → H} {P : Program} {W W' : World}
theorem below_all (hl : laidOutB P = true) (hb : Below W.heap.size W W') : ∀ (ts : List TypeId) (vs : List Value) (ds : List (DataW H)) (ps : List MemPlace),
    (ts.all fun t => P.readableRec t && decide (t < P.types.size)) = true → DataW.TrodAll enc P W 0 (fun _ => true) true ts vs ds ps → (∀ x ∈ ps, x.block < W.heap.size) →
    DataW.TrodAll enc P W' 0 (fun b => decide (b < W.heap.size)) true ts vs ds ps
  | [], vs, ds, ps, _, h, _ => by
    obtain ⟨rfl, rfl, rfl⟩ := trodAll_nil h
    exact trodAll_mk0
  | t :: ts, vs, ds, ps, hr, h, hlt => by
    obtain ⟨v, vs', d, ds', p, q, rfl, rfl, rfl, h0, r0⟩ := trodAll_cons h
    simp only [List.all_cons, Bool.and_eq_true, decide_eq_true_eq] at hr
    exact trodAll_cons_mk (Below.trod hl hr.1.1 hr.1.2 h0 hb (fun x hx => hlt x (List.mem_append_left _ hx)))
      (below_all hl hb ts vs' ds' q (by simpa using hr.2) r0 (fun x hx => hlt x (List.mem_append_right _ hx)))
theorem law_post {s : ChangeSpec} {f : Func} {args : Array Value} {ds gs : List (DataW H)} {before : List MemPlace} {t : TypeId} (hl : laidOutB P = true)
    (hr : (f.params.toList.all fun t => P.readableRec t && decide (t < P.types.size)) = true) (hres : f.resultTypes = #[t]) (ht : P.underlying t = some .bool)
    (hv : s.vars = []) (hfn : s.fn H (ds ++ gs) = { results := [.lit (.bool true)], args := ds })
    (hW : DataW.Whole enc P f.params.toList s.vars false W args.toList ds gs before) (hb : Below W.heap.size W W') : s.post enc P f false true false false W args (.bool true) W' := by
  have hW' := hW
  have hlt := hW.lt
  obtain ⟨p, q, hA, hV, rfl, _, _⟩ := hW
  refine ⟨ds, gs, _, [], p, [], hW', ?_, ?_, ?_, hb.frame _, fun h => by cases h⟩
  · rw [hfn, hres]
    exact trodAll_mk1 (shut_bool ht _)
  · rw [hfn]
    exact below_all hl hb _ _ _ _ hr hA (fun x hx => by simpa using hlt x (List.mem_append_left _ hx))
  · rw [hfn, hv]
    exact rfl
end
def flatD : DataW Unit → List Value
  | .lit (.int k n) => [.int k n]
  | .agg ps => flatDs ps
  | _ => []
  where flatDs : List (DataW Unit) → List Value
  | [] => []
  | d :: r => flatD d ++ flatDs r
end Go.Proofs.YtampjnpnekekiaaGreatDoor
namespace Go.Proofs.YtampjnpnekekiaaGreatDoor
open Go
set_option linter.unusedVariables false
set_option linter.unusedSimpArgs false
set_option maxRecDepth 100000
open Sh Gn
namespace Pl
theorem setz_p (S : CSet) : conj [cm .eql (S.a.toNat : Int) 0, cm .eql (S.b.toNat : Int) 0, cm .eql (S.c.toNat : Int) 0, cm .eql (S.d.toNat : Int) 0] = decide (S = CSet.empty) := by
  have h : ∀ x : BitVec 64, ((x.toNat : Int) = 0) = (x = 0) := fun x => propext ⟨fun h => by
    apply BitVec.eq_of_toNat_eq
    have : x.toNat = 0 := by omega
    rw [this]; rfl, fun h => by rw [h]; rfl⟩
  rw [cm_eql, cm_eql, cm_eql, cm_eql]
  simp only [h]
  cases S
  rw [Bool.eq_iff_iff]
  simp [conj, CSet.empty]
theorem times_p (lo hi : Int) : regex_times_g lo hi = some (Rx.timesB lo hi) := by
  unfold regex_times_g Rx.timesB mx
  simp only [cm_lss, cm_gtr, cm_eql, cm_geq, cm_leq, cond_dec, ite_or, ite_and, Option.bind_some]
  by_cases c : lo < 0 ∨ 16 < lo
  · rw [if_pos c]
    have : lo < 0 ∨ lo > 16 := c
    congr 1
    rcases this with h | h <;> simp [h]
  · rw [if_neg c]
    have e : ∃ M : Int, (if (1 : Int) > lo then (1 : Int) else lo) = M ∧ (lo = 0 ∧ M = 1 ∨ lo ≠ 0 ∧ M = lo) := by
      refine ⟨_, rfl, ?_⟩
      split <;> omega
    obtain ⟨M, e, hM⟩ := e
    rw [e]
    congr 1
    have c1 : ¬ lo < 0 := fun h => c (.inl h)
    have c2 : ¬ lo > 16 := fun h => c (.inr h)
    simp only [c1, c2, decide_false, Bool.false_or]
    by_cases h : (hi > 16 ∨ hi < -1) ∨ hi = 0
    · have hd : (decide (hi > 16) || decide (hi < -1) || hi == 0) = true := by simpa using h
      rw [hd, if_pos rfl]
      exact decide_eq_false (by omega)
    · have hd : (decide (hi > 16) || decide (hi < -1) || hi == 0) = false := by
        rw [Bool.eq_false_iff]; intro h'; exact h (by simpa using h')
      rw [hd, if_neg (by simp), Bool.eq_iff_iff]
      simp only [Bool.or_eq_true, beq_iff_eq, decide_eq_true_eq]
      omega
theorem rtimes_p (lo hi : Int) : r13_times_g lo hi = some (Rx.timesB lo hi) := by
  unfold r13_times_g Rx.timesB
  simp only [cm_lss, cm_gtr, cm_eql, cm_geq, cm_leq, cond_dec, ite_or, ite_and, Option.bind_some]
  by_cases c : lo < 0 ∨ 16 < lo ∨ 16 < hi ∨ hi < -1 ∨ hi = 0
  · rw [if_pos c, if_pos (by simpa [or_assoc] using c)]
  · rw [if_neg c, if_neg (by simpa [or_assoc] using c)]
    congr 1
    rw [Bool.eq_iff_iff]
    simp
theorem at_get {α : Type} {l : List α} {k : Nat} (h : k < l.length) : at_ l (k : Int) = some l[k] := by
  unfold at_
  rw [if_pos (by omega), Int.toNat_natCast, List.getElem?_eq_getElem h]
theorem mkids_p (rec : Node → Option Bool) (n : Node) (hl : n.kids.length ≤ 100000) (hr : ∀ c ∈ n.kids, rec c = some (Rx.right c)) : ∀ (m k : Nat), k ≤ n.kids.length → n.kids.length < k + m → regex_Right_l1 rec n m k = some (Rx.topB n.kind n.set n.kids.length n.min n.max && Rx.rights n.kind (n.kids.drop k)) := by
  intro m
  induction m with
  | zero => intro k h1 h2; omega
  | succ m ih =>
    intro k h1 h2
    rw [regex_Right_l1]
    simp only [setz_p]
    simp only [cm_lss, cm_eql, cm_neq, cm_gtr, cond_not, cond_dec, ll_eq, setz_p, not_dec, times_p, ite_or, ite_and, ite_gen, Option.bind_some, bind_self]
    by_cases c : k < n.kids.length
    · rw [if_pos (by omega), at_get c, inc1 (by omega), Option.bind_some, hr _ (List.getElem_mem c), Option.bind_some, ih (k + 1) (by omega) (by omega)]
      rw [List.drop_eq_getElem_cons c, Rx.rights]
      generalize n.kids[k] = y
      cases Rx.right y with
      | false => simp
      | true =>
        have e1 : (y.kind == n.kind) = decide (y.kind = n.kind) := Bool.beq_eq_decide_eq _ _
        have e2 : (n.kind != 4) = !decide (n.kind = 4) := by rw [← Bool.beq_eq_decide_eq]; rfl
        rw [e1, e2]
        by_cases g : y.kind = n.kind <;> by_cases g4 : n.kind = 4 <;> simp [g, g4]
    · rw [if_neg (by omega), List.drop_of_length_le (by omega), Rx.rights, Bool.and_true]
      obtain ⟨kind, S, kids, mn, mx⟩ := n
      simp only [Node.kind, Node.set, Node.kids, Node.min, Node.max] at *
      unfold Rx.topB
      generalize kids.length = L
      have q0 : ((L : Int) = 0) = (L = 0) := propext (by omega)
      have q1 : ((L : Int) = 1) = (L = 1) := propext (by omega)
      have q2 : ((1 : Int) < L) = (1 < L) := propext (by omega)
      simp only [q0, q1, q2]
      generalize Rx.timesB mn mx = T
      by_cases k1 : kind = 1
      · subst k1
        by_cases a1 : mn = 0 <;> by_cases a2 : mx = 0 <;> by_cases a3 : L = 0 <;> simp [a1, a2, a3]
      by_cases k2 : kind = 2
      · subst k2
        by_cases a0 : S = CSet.empty <;> by_cases a1 : mn = 0 <;> by_cases a2 : mx = 0 <;> by_cases a3 : L = 1 <;> simp [a0, a1, a2, a3]
      by_cases k3 : kind = 3
      · subst k3
        by_cases a0 : S = CSet.empty <;> by_cases a1 : mn = 0 <;> by_cases a2 : mx = 0 <;> by_cases a3 : 1 < L <;> simp [a0, a1, a2, a3]
      by_cases k4 : kind = 4
      · subst k4
        by_cases a0 : S = CSet.empty <;> by_cases a3 : L = 1 <;> cases T <;> simp [a0, a3]
      by_cases a0 : S = CSet.empty <;> by_cases a1 : mn = 0 <;> by_cases a2 : mx = 0 <;> simp [k1, k2, k3, k4, a0, a1, a2]
theorem kid_size {n c : Node} (h : c ∈ n.kids) : c.size + 1 ≤ n.size := by
  rw [Node.size_eq n]
  have key : ∀ l : List Node, c ∈ l → c.size ≤ Node.sizes l := by
    intro l
    induction l with
    | nil => intro h; cases h
    | cons a r ih =>
      intro h
      rw [Node.sizes_cons]
      rcases List.mem_cons.1 h with rfl | h
      · omega
      · have := ih h; omega
  have := key _ h
  omega
theorem xright_p : ∀ (m : Nat) (n : Node), n.size ≤ m → m ≤ 1000 → ∀ N, m + 2000 ≤ N → regex_Right_g N n = some (Rx.right n) := by
  intro m
  induction m with
  | zero => intro n h; have := n.size_pos; omega
  | succ m ih =>
    intro n h hm N hN
    obtain ⟨N, rfl⟩ : ∃ M, N = M + 1 := ⟨N - 1, by omega⟩
    have hk := n.kids_le
    rw [regex_Right_g]
    have := mkids_p (regex_Right_g N) n (by omega) (fun c hc => ih c (by have := kid_size hc; omega) (by omega) N (by omega)) N 0 (by omega) (by omega)
    rw [Rx.right_eq]
    exact this
theorem rkids_p (rec : Node → Option Bool) (n : Node) (hl : n.kids.length ≤ 100000) (h14 : 1 ≤ n.kind ∧ n.kind ≤ 4) (hr : ∀ c ∈ n.kids, rec c = some (Rx.right c)) : ∀ (m k : Nat), k ≤ n.kids.length → n.kids.length < k + m → r13_Right_l1 rec n m k = some (Rx.rights n.kind (n.kids.drop k)) := by
  intro m
  induction m with
  | zero => intro k h1 h2; omega
  | succ m ih =>
    intro k h1 h2
    rw [r13_Right_l1]
    simp only [cm_lss, cm_eql, cm_neq, cm_gtr, cond_dec, ll_eq]
    by_cases c : k < n.kids.length
    · rw [if_pos (by omega), at_get c, inc1 (by omega), Option.bind_some, hr _ (List.getElem_mem c), Option.bind_some, ih (k + 1) (by omega) (by omega)]
      rw [List.drop_eq_getElem_cons c, Rx.rights]
      generalize n.kids[k] = y
      cases Rx.right y with
      | false => simp
      | true =>
        by_cases g : y.kind = n.kind <;> by_cases g4 : n.kind = 4
        · have : ¬ n.kind < 4 := by omega
          simp [g, g4]
        · have : n.kind < 4 := by omega
          simp [g, g4, this]
        · have g' : ¬ y.kind = 4 := by omega
          simp [g, g4, g']
        · simp [g, g4]
    · rw [if_neg (by omega), List.drop_of_length_le (by omega), Rx.rights]
theorem rright13_p : ∀ (m : Nat) (n : Node), n.size ≤ m → m ≤ 1000 → ∀ N, m + 2000 ≤ N → r13_Right_g N n = some (Rx.right n) := by
  intro m
  induction m with
  | zero => intro n h; have := n.size_pos; omega
  | succ m ih =>
    intro n h hm N hN
    obtain ⟨N, rfl⟩ : ∃ M, N = M + 1 := ⟨N - 1, by omega⟩
    have hk := n.kids_le
    rw [r13_Right_g, Rx.right_eq]
    simp only [setz_p]
    simp only [cm_lss, cm_eql, cm_neq, cm_gtr, cond_not, cond_dec, ll_eq, setz_p, not_dec, rtimes_p, ite_or, ite_and, Option.bind_some, bind_self]
    by_cases h14 : 1 ≤ n.kind ∧ n.kind ≤ 4
    case neg =>
      rw [if_pos (by omega)]
      unfold Rx.topB
      have a1 : ¬ n.kind = 1 := by omega
      have a2 : ¬ n.kind = 2 := by omega
      have a3 : ¬ n.kind = 3 := by omega
      have a4 : ¬ n.kind = 4 := by omega
      simp [a1, a2, a3, a4]
    rw [if_neg (by omega)]
    have key := rkids_p (r13_Right_g N) n (by omega) h14 (fun c hc => ih c (by have := kid_size hc; omega) (by omega) N (by omega)) N 0 (by omega) (by omega)
    rw [List.drop_zero] at key
    rw [show ((0 : Nat) : Int) = 0 from rfl] at key
    rw [key]
    generalize Rx.rights n.kind n.kids = U
    obtain ⟨kind, S, kids, mn, mx⟩ := n
    simp only [Node.kind, Node.set, Node.kids, Node.min, Node.max] at *
    unfold Rx.topB
    generalize kids.length = L
    have q0 : ((L : Int) = 0) = (L = 0) := propext (by omega)
    have q1 : ((L : Int) = 1) = (L = 1) := propext (by omega)
    have q3 : ((L : Int) < 2) = ¬ (1 < L) := propext (by omega)
    simp only [q0, q1, q3]
    generalize Rx.timesB mn mx = T
    have h4 : kind = 1 ∨ kind = 2 ∨ kind = 3 ∨ kind = 4 := by omega
    rcases h4 with rfl | rfl | rfl | rfl
    · by_cases a1 : mn = 0 <;> by_cases a2 : mx = 0 <;> by_cases a3 : L = 0 <;> simp [a1, a2, a3]
    · by_cases a0 : S = CSet.empty <;> by_cases a1 : mn = 0 <;> by_cases a2 : mx = 0 <;> by_cases a3 : L = 1 <;> simp [a0, a1, a2, a3]
    · by_cases a0 : S = CSet.empty <;> by_cases a1 : mn = 0 <;> by_cases a2 : mx = 0 <;> by_cases a3 : 1 < L <;> simp [a0, a1, a2, a3]
    · by_cases a0 : S = CSet.empty <;> by_cases a3 : L = 1 <;> cases T <;> simp [a0, a3]
end Pl
end Go.Proofs.YtampjnpnekekiaaGreatDoor
