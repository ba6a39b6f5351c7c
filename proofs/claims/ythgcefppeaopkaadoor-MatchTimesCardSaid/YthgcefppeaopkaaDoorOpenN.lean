/- A tree handed in from outside: its cells, its kids, its lengths. -/
import Derived.Test.YthgcefppeaopkaaDoorNodeA
import Derived.ChangeArms
import Derived.OpenShut
import Derived.DataReads
import Derived.WideShapes
import Derived.Deep.Slices
namespace Go.Proofs.YthgcefppeaopkaaDoor
open Go Go.RowKit Go.ChangeShapes Go.WideShapes
set_option maxRecDepth 100000
set_option maxHeartbeats 1000000
mutual
/-- every node's kids are so many as a slice may hold -/
def Node.lens : Node → Prop
  | .mk _ _ kids _ _ => kids.length ≤ maxLen ∧ Node.lensAll kids
def Node.lensAll : List Node → Prop
  | [] => True
  | n :: r => Node.lens n ∧ Node.lensAll r
end
theorem Node.lensAll_iff (ns : List Node) : Node.lensAll ns ↔ ∀ n ∈ ns, Node.lens n := by
  induction ns with
  | nil => simp [Node.lensAll]
  | cons a r ih => rw [Node.lensAll, ih]; simp
theorem Node.lens_len {n : Node} (h : n.lens) : n.kids.length ≤ maxLen := by cases n; unfold Node.lens at h; exact h.1
theorem Node.lens_mem {n x : Node} (h : n.lens) (hx : x ∈ n.kids) : x.lens := by cases n; unfold Node.lens at h; exact (Node.lensAll_iff _).1 h.2 x hx
theorem u64_bv {v : Int} (h : (Lit.int .u64 v).wf = true) : ∃ b : BitVec 64, (b.toNat : Int) = v := by
  simp only [Lit.wf, Bool.and_eq_true, decide_eq_true_eq] at h
  have h1 : (0 : Int) ≤ v := h.1
  have h2 : v ≤ 18446744073709551615 := h.2
  refine ⟨BitVec.ofNat 64 v.toNat, ?_⟩
  rw [BitVec.toNat_ofNat]
  omega
section
variable {H : Type} {enc : TypeId × Value → H} {W : World} {sp : Nat → Bool} {held : Bool}
theorem cell_spot {a : Addr} {u : Value} (h : W.cell? a = some u) : a = ⟨a.block, a.off, none⟩ ∧ a.block < W.heap.size := by
  unfold World.cell? at h
  cases hb : W.heap[a.block]? with
  | none => rw [hb] at h; cases h
  | some o =>
    rw [hb] at h
    refine ⟨?_, (Array.getElem?_eq_some_iff.1 hb).1⟩
    cases o with
    | cells c t fr =>
      dsimp only at h
      cases hs : a.spot with
      | none => cases a; simp at hs; subst hs; rfl
      | some x => rw [hs] at h; simp at h
    | _ => cases h
theorem open_node : ∀ (fuel : Nat) (cs : List Value) (x : DataW H × List MemPlace), DataW.trod enc Tryd.prog W 0 sp held fuel 28 cs = some x →
    ∃ (n : Node) (A : Option Addr) (ca : Nat), cs = [.int .i64 (n.kind), .int .u64 ((n.set).a.toNat : Int), .int .u64 ((n.set).b.toNat : Int), .int .u64 ((n.set).c.toNat : Int), .int .u64 ((n.set).d.toNat : Int), .slice (A) (n.kids.length) (ca), .int .i64 (n.min), .int .i64 (n.max)] ∧ SlOk A n.kids.length ca ∧ KidsAt (fun b => b < W.heap.size) W A n.kids ∧ n.lens := by
  intro fuel
  induction fuel using Nat.strongRecOn with
  | _ fuel ih =>
    intro cs x h
    obtain ⟨xs, m, rfl, hx, hl, hxl, hf⟩ := DataW.trod_struct Tryd.underlying28 h
    have c3 : Tryd.prog.cellsOf 3 = 1 := by kernel_rfl
    have c25 : Tryd.prog.cellsOf 25 = 4 := by kernel_rfl
    have c26 : Tryd.prog.cellsOf 26 = 1 := by kernel_rfl
    have c23 : Tryd.prog.cellsOf 23 = 1 := by kernel_rfl
    have c28 : Tryd.prog.cellsOf 28 = 8 := by kernel_rfl
    rw [c28] at hl
    have hx5 : xs.length = 5 := hxl
    match cs, hl with
    | [v0, v1, v2, v3, v4, v5, v6, v7], _ =>
    have f0 : DataW.trod enc Tryd.prog W 0 sp held m 3 (([v0, v1, v2, v3, v4, v5, v6, v7].drop 0).take (Tryd.prog.cellsOf 3)) = xs[0]? := hf 0 _ rfl
    have f1 : DataW.trod enc Tryd.prog W 0 sp held m 25 (([v0, v1, v2, v3, v4, v5, v6, v7].drop 1).take (Tryd.prog.cellsOf 25)) = xs[1]? := hf 1 _ rfl
    have f2 : DataW.trod enc Tryd.prog W 0 sp held m 26 (([v0, v1, v2, v3, v4, v5, v6, v7].drop 5).take (Tryd.prog.cellsOf 26)) = xs[2]? := hf 2 _ rfl
    have f3 : DataW.trod enc Tryd.prog W 0 sp held m 3 (([v0, v1, v2, v3, v4, v5, v6, v7].drop 6).take (Tryd.prog.cellsOf 3)) = xs[3]? := hf 3 _ rfl
    have f4 : DataW.trod enc Tryd.prog W 0 sp held m 3 (([v0, v1, v2, v3, v4, v5, v6, v7].drop 7).take (Tryd.prog.cellsOf 3)) = xs[4]? := hf 4 _ rfl
    rw [List.getElem?_eq_getElem (by omega)] at f0 f1 f2 f3 f4
    rw [c3] at f0 f3 f4
    rw [c25] at f1
    rw [c26] at f2
    have g0 : DataW.trod enc Tryd.prog W 0 sp held m 3 [v0] = some xs[0] := f0
    have g1 : DataW.trod enc Tryd.prog W 0 sp held m 25 [v1, v2, v3, v4] = some xs[1] := f1
    have g2 : DataW.trod enc Tryd.prog W 0 sp held m 26 [v5] = some xs[2] := f2
    have g3 : DataW.trod enc Tryd.prog W 0 sp held m 3 [v6] = some xs[3] := f3
    have g4 : DataW.trod enc Tryd.prog W 0 sp held m 3 [v7] = some xs[4] := f4
    clear f0 f1 f2 f3 f4 hf
    obtain ⟨k, e0, -, -⟩ := DataW.trod_int Tryd.underlying3 g0
    obtain ⟨mn, e3, -, -⟩ := DataW.trod_int Tryd.underlying3 g3
    obtain ⟨mx, e4, -, -⟩ := DataW.trod_int Tryd.underlying3 g4
    obtain ⟨ys, m2, -, -, -, hy4, hy⟩ := DataW.trod_array Tryd.underlying25 g1
    have y0 := hy 0 (by decide)
    have y1 := hy 1 (by decide)
    have y2 := hy 2 (by decide)
    have y3 := hy 3 (by decide)
    rw [List.getElem?_eq_getElem (by omega), c23] at y0 y1 y2 y3
    obtain ⟨sa, ea, -, wa⟩ := DataW.trod_int Tryd.underlying23 (cs := [v1]) y0
    obtain ⟨sb, eb, -, wb⟩ := DataW.trod_int Tryd.underlying23 (cs := [v2]) y1
    obtain ⟨sc, ec, -, wc⟩ := DataW.trod_int Tryd.underlying23 (cs := [v3]) y2
    obtain ⟨sd, ed, -, wd⟩ := DataW.trod_int Tryd.underlying23 (cs := [v4]) y3
    obtain ⟨ba, rfl⟩ := u64_bv wa
    obtain ⟨bb, rfl⟩ := u64_bv wb
    obtain ⟨bc, rfl⟩ := u64_bv wc
    obtain ⟨bd, rfl⟩ := u64_bv wd
    injection e0 with e0 _
    injection e3 with e3 _
    injection e4 with e4 _
    injection ea with ea _
    injection eb with eb _
    injection ec with ec _
    injection ed with ed _
    subst e0 e3 e4 ea eb ec ed
    rcases DataW.trod_slice Tryd.underlying26 g2 with ⟨e5, -⟩ | ⟨a, len, cap, elems, rest, n, rfl, e5, -, -, hlc, hcm, hel, hat, -, -⟩
    · injection e5 with e5 _
      subst e5
      exact ⟨.mk k ⟨ba, bb, bc, bd⟩ [] mn mx, none, 0, rfl, ⟨Nat.le_refl _, fun _ => rfl⟩, fun h => absurd h (by simp [Node.kids]), by unfold Node.lens; exact ⟨Nat.zero_le _, by simp [Node.lensAll]⟩⟩
    · injection e5 with e5 _
      subst e5
      rw [c28] at hat
      have key : ∀ i, i ≤ len → ∃ (ns : List Node) (ds : List Value), ns.length = i ∧ NodesAt (fun b => b < W.heap.size) W ns ds ∧ Node.lensAll ns ∧ ∀ j u, ds[j]? = some u → W.cell? (a.add j) = some u := by
        intro i
        induction i with
        | zero => intro _; exact ⟨[], [], rfl, nodesAt_nil, by simp [Node.lensAll], fun j u h => by simp at h⟩
        | succ i ihi =>
          intro hi
          obtain ⟨ns, ds, hn, hna, hla, hds⟩ := ihi (by omega)
          have h1 := hat i (by omega)
          rw [List.getElem?_eq_getElem (by omega)] at h1
          obtain ⟨cs', h2, h3⟩ := Option.bind_eq_some_iff.1 h1
          obtain ⟨nd, A', ca', rfl, hs', hk', hl'⟩ := ih n (by omega) cs' _ h3
          obtain ⟨_, _, h4⟩ := World.cells?_some h2
          refine ⟨ns ++ [nd], ds ++ _, by rw [List.length_append, hn]; rfl, nodesAt_append hna (nodesAt_one (nodeAt_of hs' hk')), (Node.lensAll_iff _).2 (fun y hy => ?_), fun j u hj => ?_⟩
          · rcases List.mem_append.1 hy with hy | hy
            · exact (Node.lensAll_iff _).1 hla y hy
            · simp at hy; subst hy; exact hl'
          · have hdl := nodesAt_length hna
            rcases Nat.lt_or_ge j ds.length with hj' | hj'
            · rw [List.getElem?_append_left hj'] at hj; exact hds j u hj
            · rw [List.getElem?_append_right hj'] at hj
              have h8 : j - ds.length < 8 := (List.getElem?_eq_some_iff.1 hj).1
              have h5 := h4 (j - ds.length) h8
              rw [hj, Go.Deep.add_add] at h5
              rwa [show i * 8 + (j - ds.length) = j by omega] at h5
      obtain ⟨ns, ds, hn, hna, hla, hds⟩ := key len (Nat.le_refl _)
      subst hn
      refine ⟨.mk k ⟨ba, bb, bc, bd⟩ ns mn mx, some a, cap, rfl, ⟨hlc, fun h => by cases h⟩, fun hpos => ?_, by unfold Node.lens; exact ⟨Nat.le_trans hlc hcm, hla⟩⟩
      have hdl := nodesAt_length hna
      have hpos' : 0 < ns.length := hpos
      have h0 := hds 0 _ (List.getElem?_eq_getElem (by omega))
      have ha0 : a.add 0 = a := by unfold Addr.add; simp
      rw [ha0] at h0
      obtain ⟨h1, h2⟩ := cell_spot h0
      refine ⟨a.block, a.off, congrArg some h1, h2, ds, hna, fun j u hj => ?_⟩
      have h3 := hds j u hj
      rw [h1, add_off] at h3
      exact h3
end
end Go.Proofs.YthgcefppeaopkaaDoor
