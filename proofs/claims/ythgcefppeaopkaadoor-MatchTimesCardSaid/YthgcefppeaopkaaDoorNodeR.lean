/- Patterns' trees in memory. -/
import Derived.Test.YthgcefppeaopkaaDoorBase
import Derived.Test.YthgcefppeaopkaaDoorRegexP
import Derived.Laws.AppendOwn
import Derived.OwnWalk
namespace Go.Proofs.YthgcefppeaopkaaDoor
open Go Go.RowKit
set_option linter.unusedSimpArgs false
set_option linter.unusedVariables false
/-- a slice's length and capacity fit; nil has none -/
def SlOk (A : Option Addr) (n cap : Nat) : Prop := n ≤ cap ∧ (A = none → cap = 0)
mutual
/-- these eight cells are this node; its kids lie in blocks that G lets -/
def NodeAt (G : Nat → Prop) (w : World) : Node → List Value → Prop
  | .mk k S kids mn mx, cs => ∃ (A : Option Addr) (cap : Nat), cs = [.int .i64 (k), .int .u64 ((S).a.toNat : Int), .int .u64 ((S).b.toNat : Int), .int .u64 ((S).c.toNat : Int), .int .u64 ((S).d.toNat : Int), .slice (A) (kids.length) (cap), .int .i64 (mn), .int .i64 (mx)] ∧ SlOk A kids.length cap ∧
      (0 < kids.length → ∃ b o, A = some ⟨b, o, none⟩ ∧ G b ∧ ∃ ds, NodesAt G w kids ds ∧ ∀ j u, ds[j]? = some u → w.cell? ⟨b, o + j, none⟩ = some u)
/-- these cells are these nodes, one behind the other -/
def NodesAt (G : Nat → Prop) (w : World) : List Node → List Value → Prop
  | [], ds => ds = []
  | n :: r, ds => ∃ cs es, ds = cs ++ es ∧ NodeAt G w n cs ∧ NodesAt G w r es
end
/-- the slice at A holds these nodes -/
def KidsAt (G : Nat → Prop) (w : World) (A : Option Addr) (ns : List Node) : Prop :=
  0 < ns.length → ∃ b o, A = some ⟨b, o, none⟩ ∧ G b ∧ ∃ ds, NodesAt G w ns ds ∧ ∀ j u, ds[j]? = some u → w.cell? ⟨b, o + j, none⟩ = some u
theorem nodeAt_mk {G : Nat → Prop} {w : World} {k : Int} {S : CSet} {kids : List Node} {mn mx : Int} {A : Option Addr} {cap : Nat} (hc : SlOk A kids.length cap) (hk : KidsAt G w A kids) :
    NodeAt G w (.mk k S kids mn mx) [.int .i64 (k), .int .u64 ((S).a.toNat : Int), .int .u64 ((S).b.toNat : Int), .int .u64 ((S).c.toNat : Int), .int .u64 ((S).d.toNat : Int), .slice (A) (kids.length) (cap), .int .i64 (mn), .int .i64 (mx)] := by
  unfold NodeAt
  exact ⟨A, cap, rfl, hc, hk⟩
theorem nodeAt_open {G : Nat → Prop} {w : World} {k : Int} {S : CSet} {kids : List Node} {mn mx : Int} {cs : List Value} (h : NodeAt G w (.mk k S kids mn mx) cs) :
    ∃ (A : Option Addr) (cap : Nat), cs = [.int .i64 (k), .int .u64 ((S).a.toNat : Int), .int .u64 ((S).b.toNat : Int), .int .u64 ((S).c.toNat : Int), .int .u64 ((S).d.toNat : Int), .slice (A) (kids.length) (cap), .int .i64 (mn), .int .i64 (mx)] ∧ SlOk A kids.length cap ∧ KidsAt G w A kids := by
  unfold NodeAt at h
  exact h
theorem nodeAt_length {G : Nat → Prop} {w : World} {n : Node} {cs : List Value} (h : NodeAt G w n cs) : cs.length = 8 := by
  cases n with
  | mk k S kids mn mx =>
    obtain ⟨A, cap, rfl, _⟩ := nodeAt_open h
    rfl
theorem nodesAt_nil {G : Nat → Prop} {w : World} : NodesAt G w [] [] := by unfold NodesAt; rfl
theorem nodesAt_cons {G : Nat → Prop} {w : World} {n : Node} {r : List Node} {cs es : List Value} (h : NodeAt G w n cs) (h' : NodesAt G w r es) : NodesAt G w (n :: r) (cs ++ es) := by
  unfold NodesAt; exact ⟨cs, es, rfl, h, h'⟩
theorem nodesAt_open {G : Nat → Prop} {w : World} {n : Node} {r : List Node} {ds : List Value} (h : NodesAt G w (n :: r) ds) : ∃ cs es, ds = cs ++ es ∧ NodeAt G w n cs ∧ NodesAt G w r es := by
  unfold NodesAt at h; exact h
theorem nodesAt_nil' {G : Nat → Prop} {w : World} {ds : List Value} (h : NodesAt G w [] ds) : ds = [] := by unfold NodesAt at h; exact h
theorem nodesAt_length {G : Nat → Prop} {w : World} : ∀ {ns : List Node} {ds : List Value}, NodesAt G w ns ds → ds.length = 8 * ns.length
  | [], ds, h => by rw [nodesAt_nil' h]; rfl
  | n :: r, ds, h => by
    obtain ⟨cs, es, rfl, h1, h2⟩ := nodesAt_open h
    rw [List.length_append, nodeAt_length h1, nodesAt_length h2, List.length_cons]
    omega
theorem nodesAt_append {G : Nat → Prop} {w : World} : ∀ {ns ms : List Node} {ds es : List Value}, NodesAt G w ns ds → NodesAt G w ms es → NodesAt G w (ns ++ ms) (ds ++ es)
  | [], ms, ds, es, h, h' => by rw [nodesAt_nil' h]; exact h'
  | n :: r, ms, ds, es, h, h' => by
    obtain ⟨cs, fs, rfl, h1, h2⟩ := nodesAt_open h
    rw [List.append_assoc, List.cons_append]
    exact nodesAt_cons h1 (nodesAt_append h2 h')
theorem nodesAt_one {G : Nat → Prop} {w : World} {n : Node} {cs : List Value} (h : NodeAt G w n cs) : NodesAt G w [n] cs := by
  have := nodesAt_cons h (nodesAt_nil (G := G) (w := w))
  rwa [List.append_nil] at this
/-- node i's cells -/
theorem nodesAt_get {G : Nat → Prop} {w : World} : ∀ {ns : List Node} {ds : List Value} {i : Nat} (hi : i < ns.length), NodesAt G w ns ds → ∃ cs, NodeAt G w (ns[i]'hi) cs ∧ ∀ j, j < 8 → ds[8 * i + j]? = cs[j]?
  | n :: r, ds, 0, _, h => by
    obtain ⟨cs, es, rfl, h1, h2⟩ := nodesAt_open h
    refine ⟨cs, h1, fun j hj => ?_⟩
    rw [List.getElem?_append_left (by rw [nodeAt_length h1]; omega)]
    congr 1
    omega
  | n :: r, ds, i + 1, hi, h => by
    obtain ⟨cs, es, rfl, h1, h2⟩ := nodesAt_open h
    obtain ⟨ds', h3, h4⟩ := nodesAt_get (i := i) (by simpa using hi) h2
    refine ⟨ds', h3, fun j hj => ?_⟩
    rw [List.getElem?_append_right (by rw [nodeAt_length h1]; omega), nodeAt_length h1]
    rw [← h4 j hj]
    congr 1
    omega
/-- what G lets is as it was -/
def Keeps (G : Nat → Prop) (w w' : World) : Prop := ∀ b, G b → w'.heap[b]? = w.heap[b]?
theorem Keeps.cell {G : Nat → Prop} {w w' : World} (h : Keeps G w w') {b o : Nat} (hb : G b) : w'.cell? ⟨b, o, none⟩ = w.cell? ⟨b, o, none⟩ := World.cell?_of_block (w := w) (h b hb)
mutual
theorem nodeAt_keep {G G' : Nat → Prop} {w w' : World} (hk : Keeps G w w') (hg : ∀ b, G b → G' b) : ∀ {n : Node} {cs : List Value}, NodeAt G w n cs → NodeAt G' w' n cs
  | .mk k S kids mn mx, cs, h => by
    obtain ⟨A, cap, rfl, hc, hs⟩ := nodeAt_open h
    refine nodeAt_mk hc (fun hn => ?_)
    obtain ⟨b, o, rfl, hb, ds, h1, h2⟩ := hs hn
    exact ⟨b, o, rfl, hg b hb, ds, nodesAt_keep hk hg h1, fun j u hj => (hk.cell hb).trans (h2 j u hj)⟩
theorem nodesAt_keep {G G' : Nat → Prop} {w w' : World} (hk : Keeps G w w') (hg : ∀ b, G b → G' b) : ∀ {ns : List Node} {ds : List Value}, NodesAt G w ns ds → NodesAt G' w' ns ds
  | [], ds, h => by rw [nodesAt_nil' h]; exact nodesAt_nil
  | n :: r, ds, h => by
    obtain ⟨cs, es, rfl, h1, h2⟩ := nodesAt_open h
    exact nodesAt_cons (nodeAt_keep hk hg h1) (nodesAt_keep hk hg h2)
end
theorem kidsAt_keep {G G' : Nat → Prop} {w w' : World} (hk : Keeps G w w') (hg : ∀ b, G b → G' b) {A : Option Addr} {ns : List Node} (h : KidsAt G w A ns) : KidsAt G' w' A ns := fun hn => by
  obtain ⟨b, o, rfl, hb, ds, h1, h2⟩ := h hn
  exact ⟨b, o, rfl, hg b hb, ds, nodesAt_keep hk hg h1, fun j u hj => (hk.cell hb).trans (h2 j u hj)⟩
/-- one node of a slice: where it lies -/
theorem kidsAt_get {G : Nat → Prop} {w : World} {A : Option Addr} {ns : List Node} (h : KidsAt G w A ns) {i : Nat} (hi : i < ns.length) :
    ∃ b o cs, A = some ⟨b, o, none⟩ ∧ G b ∧ NodeAt G w (ns[i]'hi) cs ∧ ∀ j u, cs[j]? = some u → w.cell? ⟨b, o + (8 * i + j), none⟩ = some u := by
  obtain ⟨b, o, rfl, hb, ds, h1, h2⟩ := h (by omega)
  obtain ⟨cs, h3, h4⟩ := nodesAt_get hi h1
  refine ⟨b, o, cs, rfl, hb, h3, fun j u hj => h2 _ u ?_⟩
  have hj8 : j < 8 := by
    have := (List.getElem?_eq_some_iff.1 hj).1
    rw [nodeAt_length h3] at this
    exact this
  rw [h4 j hj8]
  exact hj
theorem nodeAt_plain {G : Nat → Prop} {w : World} {n : Node} {cs : List Value} (h : NodeAt G w n cs) : ∀ u ∈ cs, u.oneCell' = true := by
  cases n with
  | mk k S kids mn mx =>
    obtain ⟨A, cap, rfl, _⟩ := nodeAt_open h
    intro u hu
    simp only [List.mem_cons, List.not_mem_nil, or_false] at hu
    rcases hu with rfl | rfl | rfl | rfl | rfl | rfl | rfl | rfl <;> rfl
theorem nodesAt_plain {G : Nat → Prop} {w : World} : ∀ {ns : List Node} {ds : List Value}, NodesAt G w ns ds → ∀ u ∈ ds, u.oneCell' = true
  | [], ds, h => by rw [nodesAt_nil' h]; intro u hu; cases hu
  | n :: r, ds, h => by
    obtain ⟨cs, es, rfl, h1, h2⟩ := nodesAt_open h
    intro u hu
    rcases List.mem_append.1 hu with h3 | h3
    · exact nodeAt_plain h1 u h3
    · exact nodesAt_plain h2 u h3
end Go.Proofs.YthgcefppeaopkaaDoor
