/- Walks: how many nodes a tree has, and how deep they lie; whether it is too great. -/
import Derived.Test.YthgcefppeaopkaaDoorWorks
import Derived.Test.YthgcefppeaopkaaDoorOpenN
namespace Go.Proofs.YthgcefppeaopkaaDoor
open Go Go.RowKit Go.Sort
set_option maxRecDepth 100000
set_option linter.unusedSimpArgs false
set_option linter.unusedVariables false
set_option maxHeartbeats 4000000
/-- the count, as a machine's word holds it -/
def W64 (n : Int) : Int := wrap64 n
mutual
/-- how many nodes: all sums in machine words -/
def Node.many : Node → Int
  | .mk _ _ kids _ _ => Node.manyFrom 1 kids
def Node.manyFrom (s : Int) : List Node → Int
  | [] => s
  | n :: r => Node.manyFrom (W64 (s + n.many)) r
end
mutual
/-- how deep they lie -/
def Node.deep : Node → Int
  | .mk _ _ kids _ _ => W64 (Node.deepFrom 0 kids + 1)
def Node.deepFrom (s : Int) : List Node → Int
  | [] => s
  | n :: r => Node.deepFrom (if n.deep > s then n.deep else s) r
end
theorem Node.many_eq (n : Node) : n.many = Node.manyFrom 1 n.kids := by cases n; unfold Node.many; rfl
theorem Node.deep_eq (n : Node) : n.deep = W64 (Node.deepFrom 0 n.kids + 1) := by cases n; unfold Node.deep; rfl
theorem Node.manyFrom_append (s : Int) (a b : List Node) : Node.manyFrom s (a ++ b) = Node.manyFrom (Node.manyFrom s a) b := by
  induction a generalizing s with
  | nil => simp [Node.manyFrom]
  | cons x r ih => rw [List.cons_append, Node.manyFrom, Node.manyFrom, ih]
theorem Node.deepFrom_append (s : Int) (a b : List Node) : Node.deepFrom s (a ++ b) = Node.deepFrom (Node.deepFrom s a) b := by
  induction a generalizing s with
  | nil => simp [Node.deepFrom]
  | cons x r ih => rw [List.cons_append, Node.deepFrom, Node.deepFrom, ih]
theorem manyFrom_take {s : Int} {ns : List Node} {k : Nat} (h : k < ns.length) : Node.manyFrom s (ns.take (k + 1)) = W64 (Node.manyFrom s (ns.take k) + ns[k].many) := by
  rw [List.take_succ_eq_append_getElem h, Node.manyFrom_append, Node.manyFrom, Node.manyFrom]
theorem deepFrom_take {s : Int} {ns : List Node} {k : Nat} (h : k < ns.length) : Node.deepFrom s (ns.take (k + 1)) = if ns[k].deep > Node.deepFrom s (ns.take k) then ns[k].deep else Node.deepFrom s (ns.take k) := by
  rw [List.take_succ_eq_append_getElem h, Node.deepFrom_append, Node.deepFrom, Node.deepFrom]
def PSizeAt (kids : List Node) (W : World) (u v : Value) (wr : World) : Prop := ∃ k : Nat, v = .int .i64 (k : Nat) ∧ u = .int .i64 (Node.manyFrom 1 (kids.take k)) ∧ k ≤ kids.length ∧ Below W.heap.size W wr
theorem psize_any : ∀ (m : Nat) (n : Node), n.size ≤ m → n.lens → ∀ (A : Option Addr) (ca : Nat) (G : Nat → Prop) (w : World), (∀ x, G x → x < w.heap.size) → SlOk A n.kids.length ca → KidsAt G w A n.kids →
    Calls Tryd.prog 18 #[.agg #[.int .i64 (n.kind), .int .u64 ((n.set).a.toNat : Int), .int .u64 ((n.set).b.toNat : Int), .int .u64 ((n.set).c.toNat : Int), .int .u64 ((n.set).d.toNat : Int), .slice (A) (n.kids.length) (ca), .int .i64 (n.min), .int .i64 (n.max)]] w (RetG (.int .i64 n.many) w) := by
  intro m
  induction m with
  | zero => intro a h; exact absurd h (by have := a.size_pos; omega)
  | succ m ih =>
    intro n ha ha2 A ca G w hG hsa hka
    have hal := Node.lens_len ha2
    unfold maxLen at hal
    have HIH := hid_mk (fun x (hx : x ∈ n.kids) => ih x (by have := Node.size_mem_kids hx; omega) (Node.lens_mem ha2 hx))
    have HG := hid_mk hG
    have HKA := hid_mk hka
    have HE := hid_mk n.many_eq
    rw [HE.out]
    clear ih ha ha2 hG hka hsa HE
    go_enter Tryd.func18, Tryd.ntmps18
    go_wp2
    go_loopw [3, 9] (fun u v wr => PSizeAt n.kids (w.alloc (.cells #[.int .i64 (n.kind), .int .u64 ((n.set).a.toNat : Int), .int .u64 ((n.set).b.toNat : Int), .int .u64 ((n.set).c.toNat : Int), .int .u64 ((n.set).d.toNat : Int), .slice (A) (n.kids.length) (ca), .int .i64 (n.min), .int .i64 (n.max)] 28)) u v wr) (fun _ v _ => n.kids.length - (intOf v).toNat)
    case atStart => exact ⟨0, rfl, rfl, Nat.zero_le _, Below.refl _ _⟩
    case round =>
      obtain ⟨k, rfl, rfl, hk, hbw⟩ := hrel
      have hbw0 : Below w.heap.size w wr := (show Below w.heap.size w (w.alloc (.cells #[.int .i64 (n.kind), .int .u64 ((n.set).a.toNat : Int), .int .u64 ((n.set).b.toNat : Int), .int .u64 ((n.set).c.toNat : Int), .int .u64 ((n.set).d.toNat : Int), .slice (A) (n.kids.length) (ca), .int .i64 (n.min), .int .i64 (n.max)] 28)) from (by repeat (first | with_reducible exact Below.refl _ _ | with_reducible assumption | with_reducible refine Below.setCell ?_ (by first | omega | (dsimp only; omega) | (simp <;> omega)) _ | with_reducible refine Below.alloc ?_ (by first | omega | (simp <;> omega)) _ | with_reducible refine below_drewN ?_ _ | with_reducible refine Below.drew ?_))).trans (hbw.mono (by first | omega | (simp; omega) | simp))
      by_cases hlt : k < n.kids.length
      · have hka := kids_two HKA.out hbw0 HG.out
        obtain ⟨ba, oa, A', ca', hAE, hga, hsa', hka', hca⟩ := kidsAt_at hka hlt
        subst hAE
        have HMT := hid_mk (manyFrom_take (s := 1) hlt)
        have HIX := hid_mk (HIH.out n.kids[k] (List.getElem_mem hlt))
        generalize n.kids[k] = x at *
        (have z0 : wr.cell? ⟨ba, oa + k * 8, none⟩ = some (.int .i64 (x.kind)) := hca 0 _ rfl; have z1 : wr.cell? ⟨ba, oa + k * 8 + 1, none⟩ = some (.int .u64 ((x.set).a.toNat : Int)) := hca 1 _ rfl; have z2 : wr.cell? ⟨ba, oa + k * 8 + 2, none⟩ = some (.int .u64 ((x.set).b.toNat : Int)) := hca 2 _ rfl; have z3 : wr.cell? ⟨ba, oa + k * 8 + 3, none⟩ = some (.int .u64 ((x.set).c.toNat : Int)) := hca 3 _ rfl; have z4 : wr.cell? ⟨ba, oa + k * 8 + 4, none⟩ = some (.int .u64 ((x.set).d.toNat : Int)) := hca 4 _ rfl; have z5 : wr.cell? ⟨ba, oa + k * 8 + 5, none⟩ = some (.slice (A') (x.kids.length) (ca')) := hca 5 _ rfl; have z6 : wr.cell? ⟨ba, oa + k * 8 + 6, none⟩ = some (.int .i64 (x.min)) := hca 6 _ rfl; have z7 : wr.cell? ⟨ba, oa + k * 8 + 7, none⟩ = some (.int .i64 (x.max)) := hca 7 _ rfl)
        have hsz := hbw0.size
        have HCX := hide (HIX.out A' ca' G (wr.alloc (.cells #[.int .i64 (x.kind), .int .u64 ((x.set).a.toNat : Int), .int .u64 ((x.set).b.toNat : Int), .int .u64 ((x.set).c.toNat : Int), .int .u64 ((x.set).d.toNat : Int), .slice (A') (x.kids.length) (ca'), .int .i64 (x.min), .int .i64 (x.max)] 28)) (fun b hb => by have := HG.out b hb; have := hsz; first | omega | (simp; omega)) hsa' (kidsAt_keep (below_keeps ((Below.refl wr.heap.size wr).alloc (Nat.le_refl _) _) (fun b hb => by have := HG.out b hb; omega)) (fun b h => h) hka'))
        have HBW := hid_mk hbw
        clear hbw hbw0 hka hka' hca HIX
        go_wp2_with fail
        refine (unhide HCX).mono ?_
        rintro e w3 ⟨rfl, hb3⟩
        have hb1 := HBW.out
        have hs1 := hb1.size
        have HB3 : Hid (Below (w.alloc (.cells #[.int .i64 (n.kind), .int .u64 ((n.set).a.toNat : Int), .int .u64 ((n.set).b.toNat : Int), .int .u64 ((n.set).c.toNat : Int), .int .u64 ((n.set).d.toNat : Int), .slice (some ⟨ba, oa, none⟩) (n.kids.length) (ca), .int .i64 (n.min), .int .i64 (n.max)] 28)).heap.size (w.alloc (.cells #[.int .i64 (n.kind), .int .u64 ((n.set).a.toNat : Int), .int .u64 ((n.set).b.toNat : Int), .int .u64 ((n.set).c.toNat : Int), .int .u64 ((n.set).d.toNat : Int), .slice (some ⟨ba, oa, none⟩) (n.kids.length) (ca), .int .i64 (n.min), .int .i64 (n.max)] 28)) w3) := hid_mk ((hb1.alloc hs1 (.cells #[.int .i64 (x.kind), .int .u64 ((x.set).a.toNat : Int), .int .u64 ((x.set).b.toNat : Int), .int .u64 ((x.set).c.toNat : Int), .int .u64 ((x.set).d.toNat : Int), .slice (A') (x.kids.length) (ca'), .int .i64 (x.min), .int .i64 (x.max)] 28)).trans (hb3.mono (by have := hs1; simp at *; omega)))
        clear hb1 hs1 hb3
        go_wp2
        go_roundw
        case rel => exact ⟨k + 1, by go_num, by rw [HMT.out]; rfl, by omega, HB3.out⟩
        case measure => simp [intOf]; omega
      · have hkl : k = n.kids.length := by omega
        subst hkl
        have HB0 := hid_mk hbw0
        clear hbw hbw0
        go_wp2
        refine bodyPost_ret (v := .int .i64 (Node.manyFrom 1 (n.kids.take n.kids.length))) (by simp [results, Tryd.results18, go_sem]) rfl ?_
        rw [List.take_length]
        exact ⟨rfl, HB0.out⟩
def RSizeAt (kids : List Node) (W : World) (t u v : Value) (wr : World) : Prop := ∃ k : Nat, v = .int .i64 (k : Nat) ∧ t = .int .i64 (Node.manyFrom 1 (kids.take k)) ∧ u = .int .i64 (Node.deepFrom 0 (kids.take k)) ∧ k ≤ kids.length ∧ Below W.heap.size W wr
theorem rsize_any : ∀ (m : Nat) (n : Node), n.size ≤ m → n.lens → ∀ (A : Option Addr) (ca : Nat) (G : Nat → Prop) (w : World), (∀ x, G x → x < w.heap.size) → SlOk A n.kids.length ca → KidsAt G w A n.kids →
    Calls Tryd.prog 16 #[.agg #[.int .i64 (n.kind), .int .u64 ((n.set).a.toNat : Int), .int .u64 ((n.set).b.toNat : Int), .int .u64 ((n.set).c.toNat : Int), .int .u64 ((n.set).d.toNat : Int), .slice (A) (n.kids.length) (ca), .int .i64 (n.min), .int .i64 (n.max)]] w (RetG (.tuple #[.int .i64 n.many, .int .i64 n.deep]) w) := by
  intro m
  induction m with
  | zero => intro a h; exact absurd h (by have := a.size_pos; omega)
  | succ m ih =>
    intro n ha ha2 A ca G w hG hsa hka
    have hal := Node.lens_len ha2
    unfold maxLen at hal
    have HIH := hid_mk (fun x (hx : x ∈ n.kids) => ih x (by have := Node.size_mem_kids hx; omega) (Node.lens_mem ha2 hx))
    have HG := hid_mk hG
    have HKA := hid_mk hka
    have HE := hid_mk n.many_eq
    have HE2 := hid_mk n.deep_eq
    rw [HE.out, HE2.out]
    clear ih ha ha2 hG hka hsa HE HE2
    go_enter Tryd.func16, Tryd.ntmps16
    go_wp2
    go_loopw [4, 5, 6] (fun t u v wr => RSizeAt n.kids (w.alloc (.cells #[.int .i64 (n.kind), .int .u64 ((n.set).a.toNat : Int), .int .u64 ((n.set).b.toNat : Int), .int .u64 ((n.set).c.toNat : Int), .int .u64 ((n.set).d.toNat : Int), .slice (A) (n.kids.length) (ca), .int .i64 (n.min), .int .i64 (n.max)] 28)) t u v wr) (fun _ _ v _ => n.kids.length - (intOf v).toNat)
    case atStart => exact ⟨0, rfl, rfl, rfl, Nat.zero_le _, Below.refl _ _⟩
    case round =>
      obtain ⟨k, rfl, rfl, rfl, hk, hbw⟩ := hrel
      have hbw0 : Below w.heap.size w wr := (show Below w.heap.size w (w.alloc (.cells #[.int .i64 (n.kind), .int .u64 ((n.set).a.toNat : Int), .int .u64 ((n.set).b.toNat : Int), .int .u64 ((n.set).c.toNat : Int), .int .u64 ((n.set).d.toNat : Int), .slice (A) (n.kids.length) (ca), .int .i64 (n.min), .int .i64 (n.max)] 28)) from (by repeat (first | with_reducible exact Below.refl _ _ | with_reducible assumption | with_reducible refine Below.setCell ?_ (by first | omega | (dsimp only; omega) | (simp <;> omega)) _ | with_reducible refine Below.alloc ?_ (by first | omega | (simp <;> omega)) _ | with_reducible refine below_drewN ?_ _ | with_reducible refine Below.drew ?_))).trans (hbw.mono (by first | omega | (simp; omega) | simp))
      have hxa : Blk wr w.heap.size #[.int .i64 (n.kind), .int .u64 ((n.set).a.toNat : Int), .int .u64 ((n.set).b.toNat : Int), .int .u64 ((n.set).c.toNat : Int), .int .u64 ((n.set).d.toNat : Int), .slice (A) (n.kids.length) (ca), .int .i64 (n.min), .int .i64 (n.max)] 28 := (Blk.new w _ _).below hbw (by simp)
      have n5 : wr.cell? ⟨w.heap.size, 5, none⟩ = some (.slice A n.kids.length ca) := hxa.cell 5
      by_cases hlt : k < n.kids.length
      · have hka := kids_two HKA.out hbw0 HG.out
        obtain ⟨ba, oa, A', ca', hAE, hga, hsa', hka', hca⟩ := kidsAt_at hka hlt
        subst hAE
        have HMT := hid_mk (manyFrom_take (s := 1) hlt)
        have HDT := hid_mk (deepFrom_take (s := 0) hlt)
        have HIX := hid_mk (HIH.out n.kids[k] (List.getElem_mem hlt))
        generalize n.kids[k] = x at *
        (have z0 : wr.cell? ⟨ba, oa + k * 8, none⟩ = some (.int .i64 (x.kind)) := hca 0 _ rfl; have z1 : wr.cell? ⟨ba, oa + k * 8 + 1, none⟩ = some (.int .u64 ((x.set).a.toNat : Int)) := hca 1 _ rfl; have z2 : wr.cell? ⟨ba, oa + k * 8 + 2, none⟩ = some (.int .u64 ((x.set).b.toNat : Int)) := hca 2 _ rfl; have z3 : wr.cell? ⟨ba, oa + k * 8 + 3, none⟩ = some (.int .u64 ((x.set).c.toNat : Int)) := hca 3 _ rfl; have z4 : wr.cell? ⟨ba, oa + k * 8 + 4, none⟩ = some (.int .u64 ((x.set).d.toNat : Int)) := hca 4 _ rfl; have z5 : wr.cell? ⟨ba, oa + k * 8 + 5, none⟩ = some (.slice (A') (x.kids.length) (ca')) := hca 5 _ rfl; have z6 : wr.cell? ⟨ba, oa + k * 8 + 6, none⟩ = some (.int .i64 (x.min)) := hca 6 _ rfl; have z7 : wr.cell? ⟨ba, oa + k * 8 + 7, none⟩ = some (.int .i64 (x.max)) := hca 7 _ rfl)
        have hsz := hbw0.size
        have HCX := hide (HIX.out A' ca' G wr (fun b hb => by have := HG.out b hb; omega) hsa' hka')
        have HBW := hid_mk hbw
        generalize hD : Node.deepFrom 0 (n.kids.take k) = D at *
        clear hbw hbw0 hka hka' hca HIX hxa hD
        by_cases hdd : D < x.deep
        · have HD2 : Hid (Node.deepFrom 0 (n.kids.take (k + 1)) = x.deep) := hid_mk (by rw [HDT.out, if_pos hdd])
          have hd : decide (D < x.deep) = true := by simpa using hdd
          clear hdd HDT
          go_wp2_with fail
          refine (unhide HCX).mono ?_
          rintro e w3 ⟨rfl, hb3⟩
          have HB3 := hid_mk (HBW.out.trans (hb3.mono HBW.out.size))
          clear hb3
          go_wp2
          go_roundw
          case rel => exact ⟨k + 1, by go_num, by rw [HMT.out]; rfl, by rw [HD2.out], by omega, HB3.out⟩
          case measure => simp [intOf]; omega
        · have HD2 : Hid (Node.deepFrom 0 (n.kids.take (k + 1)) = D) := hid_mk (by rw [HDT.out, if_neg hdd])
          have hd : decide (D < x.deep) = false := by simpa using hdd
          clear hdd HDT
          go_wp2_with fail
          refine (unhide HCX).mono ?_
          rintro e w3 ⟨rfl, hb3⟩
          have HB3 := hid_mk (HBW.out.trans (hb3.mono HBW.out.size))
          clear hb3
          go_wp2
          go_roundw
          case rel => exact ⟨k + 1, by go_num, by rw [HMT.out]; rfl, by rw [HD2.out], by omega, HB3.out⟩
          case measure => simp [intOf]; omega
      · have hkl : k = n.kids.length := by omega
        subst hkl
        have HB0 := hid_mk hbw0
        clear hbw hbw0 hxa
        rw [List.take_length]
        go_wp2
        refine bodyPost_ret (v := .tuple #[.int .i64 (Node.manyFrom 1 n.kids), .int .i64 (W64 (Node.deepFrom 0 n.kids + 1))]) (by simp [results, Tryd.results16, go_sem, W64]) rfl ?_
        exact ⟨rfl, HB0.out⟩
/-- is a tree more than is gone through? -/
def greatB (n : Node) : Bool := decide (n.many > 300) || decide (n.deep > 40)
theorem great_any (n : Node) (hl : n.lens) (A : Option Addr) (ca : Nat) (G : Nat → Prop) (w : World) (hG : ∀ x, G x → x < w.heap.size) (hs : SlOk A n.kids.length ca) (hk : KidsAt G w A n.kids) :
    Calls Tryd.prog 15 #[.agg #[.int .i64 (n.kind), .int .u64 ((n.set).a.toNat : Int), .int .u64 ((n.set).b.toNat : Int), .int .u64 ((n.set).c.toNat : Int), .int .u64 ((n.set).d.toNat : Int), .slice (A) (n.kids.length) (ca), .int .i64 (n.min), .int .i64 (n.max)]] w (RetG (.bool (greatB n)) w) := by
  have HC := hide (rsize_any _ n (Nat.le_refl _) hl A ca G (w.alloc (.cells #[.int .i64 (n.kind), .int .u64 ((n.set).a.toNat : Int), .int .u64 ((n.set).b.toNat : Int), .int .u64 ((n.set).c.toNat : Int), .int .u64 ((n.set).d.toNat : Int), .slice (A) (n.kids.length) (ca), .int .i64 (n.min), .int .i64 (n.max)] 28)) (fun x hx => by have := hG x hx; simp; omega) hs (kidsAt_keep (below_keeps ((Below.refl w.heap.size w).alloc (Nat.le_refl _) _) hG) (fun b h => h) hk))
  have HE : Hid (greatB n = (decide (n.many > 300) || decide (n.deep > 40))) := hid_mk rfl
  rw [HE.out]
  clear hG hs hk hl HE
  generalize n.many = a at *
  generalize n.deep = d at *
  by_cases h1 : 300 < a
  · have e1 : decide (a > 300) = true := by simpa using h1
    rw [e1, Bool.true_or]
    clear e1
    go_enter Tryd.func15, Tryd.ntmps15
    go_wp2_with fail
    refine (unhide HC).mono ?_
    rintro e w3 ⟨rfl, hb3⟩
    have HB : Hid (Below w.heap.size w w3) := hid_mk ((show Below w.heap.size w (w.alloc (.cells #[.int .i64 (n.kind), .int .u64 ((n.set).a.toNat : Int), .int .u64 ((n.set).b.toNat : Int), .int .u64 ((n.set).c.toNat : Int), .int .u64 ((n.set).d.toNat : Int), .slice (A) (n.kids.length) (ca), .int .i64 (n.min), .int .i64 (n.max)] 28)) from (by repeat (first | with_reducible exact Below.refl _ _ | with_reducible assumption | with_reducible refine Below.setCell ?_ (by first | omega | (dsimp only; omega) | (simp <;> omega)) _ | with_reducible refine Below.alloc ?_ (by first | omega | (simp <;> omega)) _ | with_reducible refine below_drewN ?_ _ | with_reducible refine Below.drew ?_))).trans (hb3.mono (by simp)))
    clear hb3
    go_wp2
    exact bodyPost_ret (v := .bool true) (by simp [results, Tryd.results15, go_sem]) rfl ⟨rfl, HB.out⟩
  · have e1 : decide (a > 300) = false := by simpa using h1
    have f1 : decide (300 < a) = false := e1
    rw [e1, Bool.false_or]
    by_cases h2 : 40 < d
    · have e2 : decide (d > 40) = true := by simpa using h2
      rw [e2]
      clear e1 e2
      go_enter Tryd.func15, Tryd.ntmps15
      go_wp2_with fail
      refine (unhide HC).mono ?_
      rintro e w3 ⟨rfl, hb3⟩
      have HB : Hid (Below w.heap.size w w3) := hid_mk ((show Below w.heap.size w (w.alloc (.cells #[.int .i64 (n.kind), .int .u64 ((n.set).a.toNat : Int), .int .u64 ((n.set).b.toNat : Int), .int .u64 ((n.set).c.toNat : Int), .int .u64 ((n.set).d.toNat : Int), .slice (A) (n.kids.length) (ca), .int .i64 (n.min), .int .i64 (n.max)] 28)) from (by repeat (first | with_reducible exact Below.refl _ _ | with_reducible assumption | with_reducible refine Below.setCell ?_ (by first | omega | (dsimp only; omega) | (simp <;> omega)) _ | with_reducible refine Below.alloc ?_ (by first | omega | (simp <;> omega)) _ | with_reducible refine below_drewN ?_ _ | with_reducible refine Below.drew ?_))).trans (hb3.mono (by simp)))
      clear hb3
      go_wp2
      exact bodyPost_ret (v := .bool true) (by simp [results, Tryd.results15, go_sem]) rfl ⟨rfl, HB.out⟩
    · have e2 : decide (d > 40) = false := by simpa using h2
      have f2 : decide (40 < d) = false := e2
      rw [e2]
      clear e1 e2
      go_enter Tryd.func15, Tryd.ntmps15
      go_wp2_with fail
      refine (unhide HC).mono ?_
      rintro e w3 ⟨rfl, hb3⟩
      have HB : Hid (Below w.heap.size w w3) := hid_mk ((show Below w.heap.size w (w.alloc (.cells #[.int .i64 (n.kind), .int .u64 ((n.set).a.toNat : Int), .int .u64 ((n.set).b.toNat : Int), .int .u64 ((n.set).c.toNat : Int), .int .u64 ((n.set).d.toNat : Int), .slice (A) (n.kids.length) (ca), .int .i64 (n.min), .int .i64 (n.max)] 28)) from (by repeat (first | with_reducible exact Below.refl _ _ | with_reducible assumption | with_reducible refine Below.setCell ?_ (by first | omega | (dsimp only; omega) | (simp <;> omega)) _ | with_reducible refine Below.alloc ?_ (by first | omega | (simp <;> omega)) _ | with_reducible refine below_drewN ?_ _ | with_reducible refine Below.drew ?_))).trans (hb3.mono (by simp)))
      clear hb3
      go_wp2
      exact bodyPost_ret (v := .bool false) (by simp [results, Tryd.results15, go_sem]) rfl ⟨rfl, HB.out⟩
end Go.Proofs.YthgcefppeaopkaaDoor
