/- Appending nodes to a row of the call's own. -/
import Derived.Test.YthgcefppeaopkaaDoorProg
import Derived.Test.YthgcefppeaopkaaDoorNodeR
import Derived.KernelRfl
import Derived.Maps.AppendAt
import Derived.Laws.AppendOwnNone
import Derived.Laws.OwnMore
import Derived.Deep.AppendLies
namespace Go.Proofs.YthgcefppeaopkaaDoor
open Go Go.RowKit
set_option maxRecDepth 100000
theorem add_off (b o j : Nat) : (⟨b, o, none⟩ : Addr).add j = ⟨b, o + j, none⟩ := by unfold Addr.add; split <;> simp_all
theorem SlOk.none_ : SlOk none 0 0 := ⟨Nat.le_refl _, fun _ => rfl⟩
/-- one node of a slice: its cells, and its kids -/
theorem kidsAt_at {G : Nat → Prop} {w : World} {A : Option Addr} {ns : List Node} (h : KidsAt G w A ns) {i : Nat} (hi : i < ns.length) :
    ∃ b o A' cap', A = some ⟨b, o, none⟩ ∧ G b ∧ SlOk A' (ns[i]'hi).kids.length cap' ∧ KidsAt G w A' (ns[i]'hi).kids ∧
      ∀ j u, [.int .i64 ((ns[i]'hi).kind), .int .u64 (((ns[i]'hi).set).a.toNat : Int), .int .u64 (((ns[i]'hi).set).b.toNat : Int), .int .u64 (((ns[i]'hi).set).c.toNat : Int), .int .u64 (((ns[i]'hi).set).d.toNat : Int), .slice (A') ((ns[i]'hi).kids.length) (cap'), .int .i64 ((ns[i]'hi).min), .int .i64 ((ns[i]'hi).max)][j]? = some u → w.cell? ⟨b, o + i * 8 + j, none⟩ = some u := by
  obtain ⟨b, o, cs, rfl, hb, hn, hc⟩ := kidsAt_get h hi
  generalize ns[i]'hi = nd at *
  cases nd with
  | mk k S kids mn mx =>
    obtain ⟨A', cap', rfl, h1, h2⟩ := nodeAt_open hn
    refine ⟨b, o, A', cap', rfl, hb, h1, h2, fun j u hj => ?_⟩
    have := hc j u hj
    rwa [show o + (8 * i + j) = o + i * 8 + j by omega] at this
/-- a node out of its parts -/
theorem nodeAt_of {G : Nat → Prop} {w : World} {n : Node} {A : Option Addr} {cap : Nat} (hc : SlOk A n.kids.length cap) (hk : KidsAt G w A n.kids) :
    NodeAt G w n [.int .i64 (n.kind), .int .u64 ((n.set).a.toNat : Int), .int .u64 ((n.set).b.toNat : Int), .int .u64 ((n.set).c.toNat : Int), .int .u64 ((n.set).d.toNat : Int), .slice (A) (n.kids.length) (cap), .int .i64 (n.min), .int .i64 (n.max)] := by cases n; exact nodeAt_mk hc hk
theorem nodeAt_parts {G : Nat → Prop} {w : World} {n : Node} {cs : List Value} (h : NodeAt G w n cs) :
    ∃ (A : Option Addr) (cap : Nat), cs = [.int .i64 (n.kind), .int .u64 ((n.set).a.toNat : Int), .int .u64 ((n.set).b.toNat : Int), .int .u64 ((n.set).c.toNat : Int), .int .u64 ((n.set).d.toNat : Int), .slice (A) (n.kids.length) (cap), .int .i64 (n.min), .int .i64 (n.max)] ∧ SlOk A n.kids.length cap ∧ KidsAt G w A n.kids := by cases n; exact nodeAt_open h
/-- append(out, kids...) -/
theorem append_kids {P : Program} {w : World} {ops : Array Oper} {rest : List Oper} {o : Oper} {a : Act} {Q : Exit → Act → World → Prop} (hgd : o.guard = none) (s x : Operand) (t : TypeId)
    (ho : o.op = .call { callee := .builtin .append, args := #[s, x], argTypes := #[t, t] })
    (base : Nat) (e : TypeId) (i : TypeInfo) (z : Value) (bytes : Nat) (ht : P.underlying t = some (.slice e)) (hi : P.info? e = some i) (hz : i.zero = some z)
    (hsize : i.size = 8) (hby : i.bytes = bytes) (hzs : z.cells.size = 8)
    (v : Value) (n : Nat) (xs : List Value) (hs : a.eval s = v) (hown : w.ownsRow base e 8 v n xs)
    (G : Nat → Prop) (A : Option Addr) (m cap : Nat) (ms : List Node) (hx : a.eval x = .slice A m cap) (hm : m = ms.length) (hsl : SlOk A m cap) (hk : KidsAt G w A ms)
    (h63 : n + m ≤ maxLen) (hbytes : (n + m) * bytes ≤ 140737488355328) (hbase : base ≤ w.heap.size)
    (h : ∀ v' w' ds, NodesAt G w ms ds → w'.ownsRow base e 8 v' (n + m) (xs ++ ds) → w.grownBy w' v.ownBlock → (v'.ownBlock = v.ownBlock ∨ v'.ownBlock = some w.heap.size) → wpList P ops Q rest (a.put o.dst v') w') :
    wpList P ops Q (o :: rest) a w := by
  subst hm
  cases A with
  | none =>
    have h0 : ms = [] := by
      cases ms with
      | nil => rfl
      | cons n r => obtain ⟨b, o, e, _⟩ := hk (by simp); cases e
    subst h0
    rw [hsl.2 rfl] at hx
    refine wpList_append_own_none hgd s x t ho base e i 8 ht hi v n xs hs hown hx ?_
    exact h v w [] nodesAt_nil (by simpa using hown) (World.grownBy.refl w _) (Or.inl rfl)
  | some ad =>
    have hds : ∃ ds, NodesAt G w ms ds ∧ ∀ j u, ds[j]? = some u → w.cell? (ad.add j) = some u := by
      cases ms with
      | nil => exact ⟨[], nodesAt_nil, fun j u hj => by simp at hj⟩
      | cons n r =>
        obtain ⟨b, o, e, _, ds, h1, h2⟩ := hk (by simp)
        injection e with e
        subst e
        exact ⟨ds, h1, fun j u hj => by rw [add_off]; exact h2 j u hj⟩
    obtain ⟨ds, h1, h2⟩ := hds
    refine wpList_append_own_at _ hgd s x t ho base e i z 8 bytes ht hi hz hsize hby hzs (by omega) v n xs hs hown ad ms.length cap ds hx (by rw [nodesAt_length h1]; omega) h2 (nodesAt_plain h1) h63 hbytes hbase ?_
    exact fun v' w' h3 h4 _ h6 => h v' w' ds h1 h3 h4 h6
theorem grown_keeps {G : Nat → Prop} {base : Nat} {w w' : World} {row : Option Nat} (h : w.grownBy w' row) (hG : ∀ b, G b → b < base) (hb : base ≤ w.heap.size) (hr : ∀ g, row = some g → base ≤ g) : Keeps G w w' := fun b hb' =>
  h.block b (by have := hG b hb'; omega) (fun e => by have := hr b e.symm; have := hG b hb'; omega)
theorem below_keeps {G : Nat → Prop} {B : Nat} {w w' : World} (h : Below B w w') (hG : ∀ b, G b → b < B) : Keeps G w w' := fun b hb => h.block b (hG b hb)
theorem node_info : (Tryd.prog.info? 28).map (fun i => (i.zero, i.size, i.bytes)) = some (some (.agg #[.int .i64 0, .int .u64 0, .int .u64 0, .int .u64 0, .int .u64 0, .slice none 0 0, .int .i64 0, .int .i64 0]), 8, 80) := by kernel_rfl
end Go.Proofs.YthgcefppeaopkaaDoor
