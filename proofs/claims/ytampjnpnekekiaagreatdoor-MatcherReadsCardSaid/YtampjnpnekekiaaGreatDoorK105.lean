/- A plain machine: append, as a step. -/
import Derived.Laws.CopyRow
import Derived.Test.YtampjnpnekekiaaGreatDoorK104
namespace Go.Proofs.YtampjnpnekekiaaGreatDoor
open Go Go.RowKit
set_option linter.unusedVariables false
set_option linter.unusedSimpArgs false
namespace Ab
section
variable {P : Program} {A : Run} {L : TypeId → Option Lt}
theorem Rel.grow {cx : Cx} {s : St} {a : Act} {w w' : World} {id ty es : Nat} {rows rows' : Rows} {B : Blk} {row : Option Nat} (R : Rel A cx s a w) (hr : s.heap[id]? = some (some (.list ty es rows))) (hfree : A.pin id = none)
    (hg : w.grownBy w' row) (hrow : ∀ k, row = some k → ∃ cap len es', cx.at_ id = some (.at k cap es' len))
    (hB : ∀ b cap es' len, B = .at b cap es' len → (some b = row ∨ w.heap.size ≤ b) ∧ b < w'.heap.size)
    (hnew : RowRep ⟨fun i => if i = id then some B else cx.at_ i, cx.G⟩ w' id (.list ty es rows')) :
    Rel A ⟨fun i => if i = id then some B else cx.at_ i, cx.G⟩ ((s.kill id).setRow id (.list ty es rows')) a w' := by
  have hid : id < s.heap.length := (List.getElem?_eq_some_iff.1 hr).1
  have rowG : ∀ k, row = some k → ¬ cx.G k := fun k hk => by
    obtain ⟨cap, len, es', hat⟩ := hrow k hk
    exact (R.hp.live_lt hr hat).2
  have hs : Same cx.G w w' := fun c hc => hg.block c (R.kp.G1 c hc) (fun e => rowG c e.symm hc)
  have hat' : ∀ i B', i ≠ id → cx.at_ i = some B' → (if i = id then some B else cx.at_ i) = some B' := fun i B' hne h => by rw [if_neg hne]; exact h
  have hh : ∀ (i : Nat) x, ((s.kill id).setRow id (.list ty es rows')).heap[i]? = some (some x) → (i ≠ id ∧ ∃ y, s.heap[i]? = some (some y) ∧ killRow id (some y) = some x) ∨ (i = id ∧ x = .list ty es rows') := fun i x hx => by
    simp only [St.setRow, St.kill] at hx
    by_cases e : id = i
    · subst e
      rw [List.getElem?_set_self (by simpa using hid)] at hx
      cases hx
      exact .inr ⟨rfl, rfl⟩
    · rw [List.getElem?_set_ne e, List.getElem?_map] at hx
      obtain ⟨y, hy, hk⟩ := Option.map_eq_some_iff.1 hx
      cases y with
      | none => cases hk
      | some y => exact .inl ⟨Ne.symm e, y, hy, hk⟩
  have atne : ∀ {i : Nat}, i ≠ id → (if i = id then some B else cx.at_ i) = cx.at_ i := fun h => if_neg h
  have ateq : (if id = id then some B else cx.at_ id) = some B := if_pos rfl
  -- the block of another row is not the one that may have been written
  have apart : ∀ (i : Nat) y b cap es' len, i ≠ id → s.heap[i]? = some (some y) → cx.at_ i = some (.at b cap es' len) → b < w.heap.size ∧ some b ≠ row := fun i y b cap es' len hne hy hb => by
    refine ⟨(R.hp.live_lt hy hb).1, fun e => ?_⟩
    obtain ⟨cap2, len2, es2, h2⟩ := hrow b e.symm
    exact hne (R.hp.inj _ _ _ _ _ _ _ _ _ _ _ hy hr hb h2)
  constructor
  · exact R.tm.killL hs hat' (fun _ h => h)
  · exact R.df
  · constructor
    · intro i x hx
      rcases hh i x hx with ⟨hne, y, hy, hk⟩ | ⟨rfl, rfl⟩
      · have hR := R.hp.row i y hy
        cases hR with
        | box ty' cs b vs hat hbl hn hrr =>
          simp only [killRow, Option.some.injEq] at hk
          subst hk
          obtain ⟨a1, a2⟩ := apart i _ b _ _ _ hne hy hat
          refine .box ty' _ b vs ?_ (by rw [hg.block b a1 a2]; exact hbl) hn (hrr.killL hs hat' (fun _ h => h))
          show (if i = id then some B else cx.at_ i) = _
          rw [atne hne, hat, killL_map, List.length_map]
        | listN ty' es' hat =>
          simp only [killRow, Option.some.injEq] at hk
          subst hk
          exact .listN _ _ (by show (if i = id then some B else cx.at_ i) = _; rw [atne hne]; exact hat)
        | list ty' es' rows2 b cap vs hat hbl hn hcap hmax hsz hes hrr =>
          simp only [killRow, Option.some.injEq] at hk
          subst hk
          obtain ⟨a1, a2⟩ := apart i _ b _ _ _ hne hy hat
          refine .list ty' es' rows2 b cap vs (by show (if i = id then some B else cx.at_ i) = _; rw [atne hne]; exact hat) (by rw [hg.block b a1 a2]; exact hbl) hn hcap hmax hsz hes (fun k j t ht => ?_)
          obtain ⟨u, h1, h2⟩ := hrr k j t ht
          exact ⟨u, h1, h2.mono hs (fun _ h => h)⟩
        | iter s' pos b hat hbl hn h0 =>
          simp only [killRow, Option.some.injEq] at hk
          subst hk
          obtain ⟨a1, a2⟩ := apart i _ b _ _ _ hne hy hat
          exact .iter s' pos b (by show (if i = id then some B else cx.at_ i) = _; rw [atne hne]; exact hat) (by rw [hg.block b a1 a2]; exact hbl) hn h0
      · exact hnew
    · intro i i' x x' b cap es1 len cap' es2 len' h1 h2 h3 h4
      have h3' : (if i = id then some B else cx.at_ i) = some (.at b cap es1 len) := h3
      have h4' : (if i' = id then some B else cx.at_ i') = some (.at b cap' es2 len') := h4
      rcases hh i x h1 with ⟨hne, y, hy, -⟩ | ⟨rfl, rfl⟩ <;> rcases hh i' x' h2 with ⟨hne', y', hy', -⟩ | ⟨rfl, rfl⟩
      · rw [atne hne] at h3'
        rw [atne hne'] at h4'
        exact R.hp.inj _ _ _ _ _ _ _ _ _ _ _ hy hy' h3' h4'
      · rw [atne hne] at h3'
        rw [ateq] at h4'
        cases h4'
        obtain ⟨a1, a2⟩ := apart i _ b _ _ _ hne hy h3'
        rcases (hB _ _ _ _ rfl).1 with h | h
        · exact absurd h a2
        · omega
      · rw [atne hne'] at h4'
        rw [ateq] at h3'
        cases h3'
        obtain ⟨a1, a2⟩ := apart i' _ b _ _ _ hne' hy' h4'
        rcases (hB _ _ _ _ rfl).1 with h | h
        · exact absurd h a2
        · omega
      · rfl
    · intro i hi
      simp only [St.setRow, St.kill, List.length_set, List.length_map] at hi
      show (if i = id then some B else cx.at_ i) = none
      rw [if_neg (by omega)]
      exact R.hp.dom i hi
  · constructor
    · rw [hg.os]; exact R.kp.os
    · rw [hg.tape]; exact R.kp.tape
    · rw [hg.output]; exact R.kp.output
    · exact Nat.le_trans R.kp.size hg.size
    · intro b hb hM
      rw [hg.block b (Nat.lt_of_lt_of_le hb R.kp.size) (fun e => ?_)]
      · exact R.kp.block b hb hM
      · obtain ⟨cap, len, es', hat⟩ := hrow b e.symm
        rcases R.kp.live _ _ _ _ _ _ hr hat with h | h
        · exact hM h
        · omega
    · intro i x b cap es1 len hx hb
      have hb' : (if i = id then some B else cx.at_ i) = some (.at b cap es1 len) := hb
      rcases hh i x hx with ⟨hne, y, hy, -⟩ | ⟨rfl, rfl⟩
      · rw [atne hne] at hb'
        exact R.kp.live _ _ _ _ _ _ hy hb'
      · rw [ateq] at hb'
        cases hb'
        rcases (hB _ _ _ _ rfl).1 with h | h
        · obtain ⟨cap, len, es', hat⟩ := hrow b h.symm
          exact R.kp.live _ _ _ _ _ _ hr hat
        · exact .inr (Nat.le_trans R.kp.size h)
    · exact R.kp.G0
    · exact fun b h => Nat.lt_of_lt_of_le (R.kp.G1 b h) hg.size
    · exact R.kp.G2
    · intro i B' hp
      obtain ⟨h1, h2⟩ := R.kp.pin i B' hp
      refine ⟨?_, h2⟩
      show (if i = id then some B else cx.at_ i) = some B'
      rw [if_neg]
      · exact h1
      · rintro rfl
        rw [hfree] at hp
        cases hp
    · have := R.kp.base
      simpa [St.setRow, St.kill] using this
    · exact R.kp.tab.mono hs (fun _ h => h)
  · exact R.bs
theorem Rel.put {cx : Cx} {s : St} {a : Act} {w : World} (R : Rel A cx s a w) {v : V} {u : Value} (h : VRep cx w v u) (d : Option Tmp) : Rel A cx (s.put d v) (a.put d u) w := by
  cases d with
  | none => exact R
  | some d => exact ⟨R.tm.set h d, R.df, R.hp, R.kp, R.bs⟩
theorem appended {G : Nat → Prop} {w w' : World} {es : Nat} {rows new : Rows} {xs news : List Value} {cur : Array Value} (hxs : xs.length = rows.length * es) (hnl : news.length = new.length * es) (hfit : ∀ row ∈ rows, row.length = es) (hfit2 : ∀ row ∈ new, row.length = es)
    (hcur : cur.toList.take ((rows.length + new.length) * es) = xs ++ news) (hs : Same G w w')
    (h1 : ∀ (i j : Nat) (t : T), (rows[i]?).bind (fun r => r[j]?) = some t → ∃ u, xs[i * es + j]? = some u ∧ TRep G w t u)
    (h2 : ∀ (i j : Nat) (t : T), (new[i]?).bind (fun r => r[j]?) = some t → ∃ u, news[i * es + j]? = some u ∧ TRep G w t u) :
    ∀ (i j : Nat) (t : T), ((rows ++ new)[i]?).bind (fun r => r[j]?) = some t → ∃ u, cur[i * es + j]? = some u ∧ TRep G w' t u := by
  intro i j t ht
  have key : ∀ {k : Nat} {u : Value}, (xs ++ news)[k]? = some u → cur[k]? = some u := fun {k u} h => by
    rw [← hcur, List.getElem?_take] at h
    split at h
    · rwa [Array.getElem?_toList] at h
    · cases h
  have small : ∀ {l : Rows} {i j : Nat} {t : T}, (∀ row ∈ l, row.length = es) → (l[i]?).bind (fun r => r[j]?) = some t → i < l.length ∧ j < es := fun {l i j t} hf ht => by
    cases hri : l[i]? with
    | none => rw [hri] at ht; cases ht
    | some row =>
      rw [hri, Option.bind_some] at ht
      have h1 := (List.getElem?_eq_some_iff.1 ht).1
      rw [hf row (List.mem_of_getElem? hri)] at h1
      exact ⟨(List.getElem?_eq_some_iff.1 hri).1, h1⟩
  by_cases hi : i < rows.length
  · rw [List.getElem?_append_left hi] at ht
    obtain ⟨u, e1, e2⟩ := h1 i j t ht
    obtain ⟨c1, c2⟩ := small hfit ht
    refine ⟨u, key ?_, e2.mono hs (fun _ h => h)⟩
    rw [List.getElem?_append_left (by rw [hxs]; exact mul_lt c1 c2)]
    exact e1
  · rw [List.getElem?_append_right (by omega)] at ht
    obtain ⟨u, e1, e2⟩ := h2 _ j t ht
    refine ⟨u, key ?_, e2.mono hs (fun _ h => h)⟩
    have hm : rows.length * es ≤ i * es := Nat.mul_le_mul_right _ (by omega)
    rw [List.getElem?_append_right (by rw [hxs]; omega), hxs]
    rw [show i * es + j - rows.length * es = (i - rows.length) * es + j by rw [Nat.sub_mul]; omega]
    exact e1
theorem src_of {cx : Cx} {s : St} {a : Act} {w : World} {t u elem : TypeId} {le : Lt} {ei : TypeInfo} {z : Value} (hL : LayOk P L) (R : Rel A cx s a w) {y : V} {yv : Value} (hy : VRep cx w y yv) {new : Rows} (h : newRows (dom P A) L elem t u s.heap y = some new) (hle : L elem = some le)
    (hei : P.info? elem = some ei) (hz : ei.zero = some z) (hesz : ei.size = le.size) (heby : ei.bytes = le.bytes) (hone : ∀ v ∈ le.zero, oneV v = true) (hzl : z.cells.toList = le.zero) (he : 0 < le.size) (hfit : ∀ row ∈ new, row.length = le.size) :
    ∃ news : List Value, news.length = new.length * le.size ∧ (∀ u ∈ news, oneV u = true) ∧ Src P w t u elem ei yv new.length news ∧
      ∀ (i j : Nat) (t : T), (new[i]?).bind (fun r => r[j]?) = some t → ∃ u, news[i * le.size + j]? = some u ∧ TRep cx.G w t u := by
  unfold newRows at h
  split at h
  · rename_i str
    split at h
    case h_2 => cases h
    rename_i lu le' hlu hle'
    obtain rfl : le = le' := by rw [hle] at hle'; exact Option.some.inj hle'
    split at h
    case isFalse => cases h
    rename_i hk4
    split at h
    case h_2 => cases h
    rename_i hik hzero hbytes
    cases h
    obtain ⟨_, du, _, _, hdu, _, _, _, _, _, _, ⟨_, _, _, hu4, _⟩, _⟩ := hL u lu hlu
    obtain rfl := hu4 hk4
    obtain ⟨ei', _, z', hei', _, hes', _, hz', hzl', _, hlen', _, _, hone'⟩ := hL elem le hle
    have hs1 : le.size = 1 := by rw [← hlen', hzero]; rfl
    have ez : z = .int .u8 0 := by
      rw [hei] at hei'
      cases hei'
      rw [hz] at hz'
      cases hz'
      have h1 := hone' _ hik
      rw [hzero] at hzl
      have h2 : z.cells = #[z] := by cases z <;> first | rfl | (simp [oneV] at h1)
      rw [h2] at hzl
      simpa using hzl
    have := inv_flat hy
    subst this
    refine ⟨Lib.strCells str, by rw [Lib.strCells_length, hs1]; simp [dom], fun v hv => ?_, .inr ⟨hdu, by rw [hz, ez], by rw [hesz, hs1], by rw [heby, hbytes], str, rfl, by simp [dom], rfl⟩, fun i j t ht => ?_⟩
    · obtain ⟨b, -, rfl⟩ := List.mem_map.1 hv
      rfl
    · have e0 : ((dom P A).brows str)[i]? = (str.data.toList[i]?).map fun b => [T.flat (.int .u8 (b.toNat : Int))] := by show (str.data.toList.map _)[i]? = _; rw [List.getElem?_map]
      rw [e0] at ht
      cases hb : str.data.toList[i]? with
      | none => rw [hb] at ht; cases ht
      | some b =>
        rw [hb] at ht
        simp only [Option.map_some, Option.bind_some] at ht
        cases j with
        | succ j => simp at ht
        | zero =>
          simp at ht
          subst ht
          refine ⟨.int .u8 (b.toNat : Int), ?_, .flat _ rfl⟩
          rw [hs1, Nat.mul_one, Nat.add_zero, Lib.strCells, List.getElem?_map, hb]
          rfl
  · split at h
    case isFalse => cases h
    rename_i hut
    subst hut
    obtain ⟨news, n1, n2, n3, n4⟩ := rows_news' R hy h he hfit
    exact ⟨news, n1, n2, .inl ⟨rfl, n3⟩, n4⟩
theorem append_wp {cx : Cx} {s : St} {a : Act} {w : World} {o : Oper} {c : Call} {K : St → Prop} (hL : LayOk P L) (hop : o.op = .call c) (hc : c.callee = .builtin .append) (R : Rel A cx s a w) (h : pop (dom P A) L o s K) :
    ∀ next Q, (∀ s' cx' a' w', K s' → Rel A cx' s' a' w' → next a' w') → o.wp P a w next Q := fun next Q hn => by
  have he := eyes_of R.tm
  simp only [pop, hop, hc] at h
  split at h
  case h_2 => exact h.elim
  rename_i t u x y ht' hx'
  have e1 : c.argTypes = #[t, u] := by cases hh : c.argTypes; simp_all
  have e2 : c.args = #[x, y] := by cases hh : c.args; simp_all
  split at h
  case h_2 => exact h.elim
  rename_i lt hlt
  split at h
  case isFalse => exact h.elim
  rename_i hk
  obtain ⟨_, d, _, _, hd, _, _, _, _, _, _, ⟨_, _, hk3, _⟩, _⟩ := hL t lt hlt
  obtain rfl := hk3 hk
  split at h
  case h_2 => exact h.elim
  rename_i le hle
  obtain ⟨ei, _, z, hei, _, hesz, heby, hz, hzl, hone, hlen, _⟩ := hL lt.elem le hle
  have hzs : z.cells.size = le.size := by rw [← Array.length_toList, hzl, hlen]
  split at h
  case isFalse => exact h.elim
  rename_i hpos
  split at h
  case h_2 => exact h.elim
  rename_i new hnew
  have hx := he x
  have run_of : ∀ {v' : Value} {w' : World}, (Builtin.append_ #[t, u] o.type #[a.eval x, a.eval y]).run P w = .ok v' w' → (execOp a.eval o).run P w = .ok (.value v') w' := fun hr => by
    simp only [execOp, hop, resolve, hc, Sem.run_bind, Sem.run_pure, Result.andThen_ok, invoke, builtin, e1, e2, List.map_toArray, List.map_cons, List.map_nil, hr]
  split at h
  · rename_i id hxv
    rw [hxv] at hx
    split at h
    case h_2 => exact h.elim
    rename_i ty es rows hrow
    split at h
    case isFalse => exact h.elim
    rename_i hes1
    split at h
    case isFalse => exact h.elim
    rename_i hty
    subst hes1
    subst hty
    obtain ⟨hfree, ⟨hfit, hmx, hby⟩, hK⟩ := h
    have hrow' : s.heap[id]? = some (some (.list lt.elem le.size rows)) := by
      rw [List.getD_eq_getElem?_getD] at hrow
      cases hg : s.heap[id]? with
      | none => rw [hg] at hrow; cases hrow
      | some z => rw [hg] at hrow; simp at hrow; rw [hrow]
    obtain ⟨news, n1, n2, n3, n4⟩ := src_of hL R (he y) hnew hle hei hz hesz heby hone hzl hpos hfit
    have hR := R.hp.row id _ hrow'
    have hlapp : (dom P A).lapp rows new = rows ++ new := rfl
    rw [hlapp] at hK
    cases hR with
    | listN ty es hat =>
      generalize hy : a.eval x = xv at hx
      cases hx with
      | lst i b cap es len h' => rw [hat] at h'; cases h'
      | lstN i h' =>
        obtain ⟨v', w', r1, r2, r3, r4⟩ := append_run (ty := o.type) (v := .slice none 0 0) (n := 0) (xs := []) hd hei hz hesz heby hzs hpos ⟨by simp, .inl ⟨rfl, rfl⟩⟩ n1 n2 n3 (by simpa using hmx) (by simpa using hby)
        rw [← hy] at r1
        unfold Oper.wp
        rw [run_of r1, Oper.upon_value]
        have hsame : Same cx.G w w' := fun c hc => r3.block c (R.kp.G1 c hc) (fun e => by cases e)
        rcases own_form r2 with ⟨rfl, hz0⟩ | ⟨g, cap, cur, rfl, g1, g2, g3, g4, g5⟩
        · have hn0 : new = [] := by apply List.eq_nil_of_length_eq_zero; omega
          subst hn0
          have key := R.grow (B := .nil) (rows' := []) (row := none) hrow' hfree r3 (fun k e => by cases e) (fun b cap es len e => by cases e) (.listN _ _ (if_pos rfl))
          exact hn _ _ _ _ hK (key.put (.lstN id (if_pos rfl)) o.dst)
        · have hg0 : g = w.heap.size := by
            rcases r4 with h | h <;> simp [Value.ownBlock] at h
            exact h
          have key := R.grow (B := .at g cap le.size new.length) (rows' := new) (row := none) hrow' hfree r3 (fun k e => by cases e) (fun b cap es len e => by cases e; exact ⟨.inr (by omega), lt_size g1⟩)
            (.list _ _ _ g cap cur (if_pos rfl) g1 (fun hG => by have := R.kp.G1 _ hG; omega) (by omega) g3 g4 hfit (fun i j t ht => by
              have := appended (rows := []) (new := new) (xs := []) (news := news) (cur := cur) (w := w) (w' := w') (G := cx.G) (by simp) n1 (fun r h => by simp at h) hfit (by simpa using g5) hsame (fun i j t h => by simp at h) n4 i j t (by simpa using ht)
              exact this))
          have hv : VRep ⟨fun i => if i = id then some (.at g cap le.size new.length) else cx.at_ i, cx.G⟩ w' (.lst id) (.slice (some ⟨g, 0, none⟩) (0 + new.length) cap) := by
            rw [Nat.zero_add]
            exact .lst id _ _ _ _ (if_pos rfl)
          exact hn _ _ _ _ hK (key.put hv o.dst)
    | list ty es rows b cap0 vs hat hbl hnG hcap hmax hsz hes hr =>
      generalize hy : a.eval x = xv at hx
      cases hx with
      | lstN i h' => rw [hat] at h'; cases h'
      | lst i b' cap' es' len h' =>
        rw [hat] at h'
        cases h'
        have hxl : (vs.toList.take (rows.length * le.size)).length = rows.length * le.size := by
          have : rows.length * le.size ≤ vs.size := by rw [hsz]; exact Nat.mul_le_mul_right _ hcap
          have hvl : vs.toList.length = vs.size := by simp
          rw [List.length_take, hvl]; omega
        obtain ⟨v', w', r1, r2, r3, r4⟩ := append_run (ty := o.type) (v := .slice (some ⟨b, 0, none⟩) rows.length cap0) (n := rows.length) (xs := vs.toList.take (rows.length * le.size)) hd hei hz hesz heby hzs hpos
          ⟨hxl, .inr ⟨b, cap0, vs, rfl, Nat.zero_le _, hbl, hcap, hmax, hsz, rfl⟩⟩ n1 n2 n3 hmx hby
        rw [← hy] at r1
        unfold Oper.wp
        rw [run_of r1, Oper.upon_value]
        have hsame : Same cx.G w w' := fun c hc => r3.block c (R.kp.G1 c hc) (fun e => by cases e; exact hnG hc)
        rcases own_form r2 with ⟨rfl, hz0⟩ | ⟨g, cap, cur, rfl, g1, g2, g3, g4, g5⟩
        · exfalso
          rcases r4 with h | h <;> simp [Value.ownBlock] at h
        · have hg0 : g = b ∨ g = w.heap.size := by
            rcases r4 with h | h <;> simp [Value.ownBlock] at h
            · exact .inl h
            · exact .inr h
          have hll : (rows ++ new).length = rows.length + new.length := List.length_append
          have key := R.grow (B := .at g cap le.size (rows ++ new).length) (rows' := rows ++ new) (row := some b) hrow' hfree r3 (fun k e => by cases e; exact ⟨_, _, _, hat⟩)
            (fun b2 cap es len e => by cases e; exact ⟨by rcases hg0 with rfl | rfl; exact .inl rfl; exact .inr (Nat.le_refl _), lt_size g1⟩)
            (.list _ _ _ g cap cur (if_pos rfl) g1 (fun hG => by
              rcases hg0 with rfl | rfl
              · exact hnG hG
              · have := R.kp.G1 _ hG; omega) (by omega) g3 g4 (fun row hrow => by
                rcases List.mem_append.1 hrow with h | h
                · exact hes row h
                · exact hfit row h) (fun i j t ht => by
              refine appended (rows := rows) (new := new) (xs := vs.toList.take (rows.length * le.size)) (news := news) (cur := cur) (w := w) (w' := w') (G := cx.G) hxl n1 hes hfit g5 hsame (fun i j t h => ?_) n4 i j t ht
              obtain ⟨u, q1, q2⟩ := hr i j t h
              refine ⟨u, ?_, q2⟩
              have hb : i * le.size + j < rows.length * le.size := by
                cases hri : rows[i]? with
                | none => rw [hri] at h; cases h
                | some row =>
                  rw [hri, Option.bind_some] at h
                  have h1 := (List.getElem?_eq_some_iff.1 h).1
                  rw [hes row (List.mem_of_getElem? hri)] at h1
                  exact mul_lt (List.getElem?_eq_some_iff.1 hri).1 h1
              rw [List.getElem?_take, if_pos hb, Array.getElem?_toList]
              exact q1))
          have hv : VRep ⟨fun i => if i = id then some (.at g cap le.size (rows ++ new).length) else cx.at_ i, cx.G⟩ w' (.lst id) (.slice (some ⟨g, 0, none⟩) (rows.length + new.length) cap) := by
            rw [← hll]
            exact .lst id _ _ _ _ (if_pos rfl)
          exact hn _ _ _ _ hK (key.put hv o.dst)
  · rename_i hxv
    rw [hxv] at hx
    have hxn := inv_flat hx
    obtain ⟨⟨hfit, hmx, hby⟩, hK⟩ := h
    simp only [List.length_nil, Nat.zero_add] at hmx hby
    obtain ⟨news, n1, n2, n3, n4⟩ := src_of hL R (he y) hnew hle hei hz hesz heby hone hzl hpos hfit
    obtain ⟨v', w', r1, r2, r3, r4⟩ := append_run (ty := o.type) (v := .slice none 0 0) (n := 0) (xs := []) hd hei hz hesz heby hzs hpos ⟨by simp, .inl ⟨rfl, rfl⟩⟩ n1 n2 n3 (by simpa using hmx) (by simpa using hby)
    rw [← hxn] at r1
    unfold Oper.wp
    rw [run_of r1, Oper.upon_value]
    have hsame : Same cx.G w w' := fun c hc => r3.block c (R.kp.G1 c hc) (fun e => by cases e)
    have hbelow : Below w.heap.size w w' := ⟨r3.os, r3.tape, r3.output, r3.size, fun k hk => r3.block k hk (fun e => by cases e)⟩
    have h0 : cx.at_ s.heap.length = none := R.hp.dom _ (Nat.le_refl _)
    have fin : ∀ (B : Blk) (u' : Value), u' = v' → RowRep ⟨fun i => if i = s.heap.length then some B else cx.at_ i, cx.G⟩ w' s.heap.length (.list lt.elem le.size new) →
        VRep ⟨fun i => if i = s.heap.length then some B else cx.at_ i, cx.G⟩ w' (.lst s.heap.length) u' → (∀ b cap es len, B = .at b cap es len → w.heap.size ≤ b ∧ b < w'.heap.size) → next (a.put o.dst v') w' := fun B u' hu hR hV hb => by
      subst hu
      have X : Res cx w s.heap.length (some (.list lt.elem le.size new)) ⟨fun i => if i = s.heap.length then some B else cx.at_ i, cx.G⟩ w' (.lst s.heap.length) u' :=
        ⟨hbelow, fun id hid => if_neg hid, (fun e => by cases e), fun b h => h, fun b h => .inl h, hV, fun r e => by
          cases e
          refine ⟨hR, fun b cap es len hat => ?_⟩
          have : (if s.heap.length = s.heap.length then some B else cx.at_ s.heap.length) = some (.at b cap es len) := hat
          rw [if_pos rfl] at this
          cases this
          exact hb _ _ _ _ rfl⟩
      have := R.step X h0 o.dst (s.heap ++ [some (.list lt.elem le.size new)]) (fun id r hr => by
        by_cases hl : id < s.heap.length
        · rw [List.getElem?_append_left hl] at hr
          exact .inl ⟨by omega, hr⟩
        · rw [List.getElem?_append_right (by omega)] at hr
          have hi : id - s.heap.length = 0 := by
            have := (List.getElem?_eq_some_iff.1 hr).1
            simp at this
            omega
          rw [hi] at hr
          simp at hr
          exact .inr ⟨by omega, by rw [hr]⟩) (by simp) (fun _ => by simp)
      have e3 : (⟨(s.put o.dst (.lst s.heap.length)).tmps, s.heap ++ [some (.list lt.elem le.size new)], s.base⟩ : St) = (s.put o.dst (.lst s.heap.length)).push (some (.list lt.elem le.size new)) := by simp [St.push, put_heap, put_base]
      rw [e3] at this
      exact hn _ _ _ _ hK this
    rcases own_form r2 with ⟨rfl, hz0⟩ | ⟨g, cap, cur, rfl, g1, g2, g3, g4, g5⟩
    · have hn0 : new = [] := by apply List.eq_nil_of_length_eq_zero; omega
      subst hn0
      exact fin .nil _ rfl (.listN _ _ (if_pos rfl)) (.lstN _ (if_pos rfl)) (fun b cap es len e => by cases e)
    · have hg0 : g = w.heap.size := by
        rcases r4 with h | h <;> simp [Value.ownBlock] at h
        exact h
      refine fin (.at g cap le.size new.length) _ rfl (.list _ _ _ g cap cur (if_pos rfl) g1 (fun hG => by have := R.kp.G1 _ hG; omega) (by omega) g3 g4 hfit (fun i j t ht => ?_)) ?_ (fun b cap es len e => by cases e; exact ⟨by omega, lt_size g1⟩)
      · exact appended (rows := []) (new := new) (xs := []) (news := news) (cur := cur) (w := w) (w' := w') (G := cx.G) (by simp) n1 (fun r h => by simp at h) hfit (by simpa using g5) hsame (fun i j t h => by simp at h) n4 i j t (by simpa using ht)
      · rw [Nat.zero_add]
        exact .lst _ _ _ _ _ (if_pos rfl)
  · exact h.elim
theorem copy_wp {cx : Cx} {s : St} {a : Act} {w : World} {o : Oper} {c : Call} {K : St → Prop} (hL : LayOk P L) (hop : o.op = .call c) (hc : c.callee = .builtin .copy) (R : Rel A cx s a w) (h : pop (dom P A) L o s K) :
    ∀ next Q, (∀ s' cx' a' w', K s' → Rel A cx' s' a' w' → next a' w') → o.wp P a w next Q := fun next Q hn => by
  have he := eyes_of R.tm
  simp only [pop, hop, hc] at h
  split at h
  case h_2 => exact h.elim
  rename_i t u x y ht' hx'
  have e1 : c.argTypes = #[t, u] := by cases hh : c.argTypes; simp_all
  have e2 : c.args = #[x, y] := by cases hh : c.args; simp_all
  split at h
  case h_2 => exact h.elim
  rename_i lt hlt
  split at h
  case isFalse => exact h.elim
  rename_i hk
  obtain ⟨_, d, _, _, hd, _, _, _, _, _, _, ⟨_, _, hk3, _⟩, _⟩ := hL t lt hlt
  obtain rfl := hk3 hk
  split at h
  case h_2 => exact h.elim
  rename_i le hle
  obtain ⟨ei, _, z, hei, _, hesz, _⟩ := hL lt.elem le hle
  split at h
  case isFalse => exact h.elim
  rename_i hs1
  split at h
  case h_2 => exact h.elim
  rename_i id hxv
  split at h
  case h_2 => exact h.elim
  rename_i ty es rows hrow
  split at h
  case isFalse => exact h.elim
  rename_i hes1
  subst hes1
  split at h
  case h_2 => exact h.elim
  rename_i new hnew
  obtain ⟨⟨hne, hnn, hfit⟩, hK⟩ := h
  have hx := he x
  rw [hxv] at hx
  have hrow' := hrow
  have hrow' : s.heap[id]? = some (some (.list ty 1 rows)) := by
    rw [List.getD_eq_getElem?_getD] at hrow
    cases hg : s.heap[id]? with
    | none => rw [hg] at hrow; cases hrow
    | some z => rw [hg] at hrow; simp at hrow; rw [hrow]
  obtain ⟨news, n1, n2, n3, n4⟩ := rows_news' R (he y) hnew Nat.one_pos hfit
  rw [Nat.mul_one] at n1
  rcases n3 with ⟨h0, -⟩ | ⟨ad, cc, hyv, hcells⟩
  · exact absurd (List.eq_nil_of_length_eq_zero h0) hnn
  have hR := R.hp.row id _ hrow'
  cases hR with
  | listN ty es hat => exact absurd rfl hne
  | list ty es rows b cap vs hat hbl hnG hcap hmax hsz hes hr =>
    generalize hy : a.eval x = xv at hx
    cases hx with
    | lstN i h' => rw [hat] at h'; cases h'
    | lst i b' cap' es' len h' =>
      have hat2 := hat
      rw [hat] at h'
      cases h'
      rw [Nat.mul_one] at hsz
      have hml : (news.take (Nat.min new.length rows.length)).length = Nat.min new.length rows.length := by
        rw [List.length_take, n1]
        show min (min _ _) _ = min _ _
        omega
      have hmle : Nat.min new.length rows.length ≤ rows.length := Nat.min_le_right _ _
      have hrun := run_copy_row (P := P) w t u o.type lt.elem b 0 rows.length cap ad new.length cc vs ty (news.take (Nat.min new.length rows.length)) hd (by rw [hei]; simp [hesz, hs1]) hbl hml (fun j v hj => hcells j v (by
        rw [List.getElem?_take] at hj
        split at hj
        · exact hj
        · cases hj)) (by rw [hml]; omega) (fun v hv => one_cell' (n2 v (List.mem_of_mem_take hv)))
      have hex : (execOp a.eval o).run P w = .ok (.value (.int .i64 (Nat.min new.length rows.length : Nat))) (w.setRow b (vs.toList.take 0 ++ news.take (Nat.min new.length rows.length) ++ vs.toList.drop (0 + (news.take (Nat.min new.length rows.length)).length)).toArray) := by
        simp only [execOp, hop, resolve, hc, Sem.run_bind, Sem.run_pure, Result.andThen_ok, invoke, builtin, e1, e2, List.map_toArray, List.map_cons, List.map_nil, hy, hyv, hrun, hml]
        rfl
      have hcs : ∀ k, k < Nat.min new.length rows.length → (news.take (Nat.min new.length rows.length))[k]? = news[k]? := fun k hk => by rw [List.getElem?_take, if_pos hk]
      generalize news.take (Nat.min new.length rows.length) = cs at hrun hex hml hcs
      have hll : ((dom P A).lcopy rows new).length = rows.length := by
        show (new.take rows.length ++ rows.drop new.length).length = _
        rw [List.length_append, List.length_take, List.length_drop]
        omega
      have hs : Same cx.G w (w.setRow b (vs.toList.take 0 ++ cs ++ vs.toList.drop (0 + cs.length)).toArray) := fun k hk => setRow_other w b k _ (fun e => hnG (e ▸ hk))
      unfold Oper.wp
      rw [hex, Oper.upon_value]
      refine hn _ cx _ _ hK ((R.write (w' := w.setRow b (vs.toList.take 0 ++ cs ++ vs.toList.drop (0 + cs.length)).toArray) hrow' hat2 ⟨rfl, rfl, rfl, by simp [World.setRow], fun k hk => setRow_other w b k _ hk⟩ ?_ (fun _ => rfl)).put ?_ o.dst)
      · refine .list ty 1 _ b cap _ (by rw [hll]; exact hat2) (setRow_heap w b vs _ ty (0, 0) hbl) hnG (by rw [hll]; exact hcap) hmax ?_ ?_ ?_
        · simp only [List.take_zero, List.nil_append, List.size_toArray, List.length_append, List.length_drop, Array.length_toList]
          omega
        · intro row hrow
          rcases List.mem_append.1 hrow with h | h
          · exact hfit row (List.mem_of_mem_take h)
          · exact hes row (List.mem_of_mem_drop h)
        · intro i j t0 ht0
          have hm : Nat.min new.length rows.length = min new.length rows.length := rfl
          have arr : ∀ k : Nat, (vs.toList.take 0 ++ cs ++ vs.toList.drop (0 + cs.length)).toArray[k]? = if k < Nat.min new.length rows.length then news[k]? else vs[k]? := fun k => by
            rw [List.take_zero, List.nil_append, List.getElem?_toArray]
            split
            · rename_i hk
              rw [List.getElem?_append_left (by omega)]
              exact hcs k hk
            · rename_i hk
              rw [List.getElem?_append_right (by omega), List.getElem?_drop, Array.getElem?_toList]
              congr 1
              omega
          rw [arr]
          have ht1 : ((new.take rows.length ++ rows.drop new.length)[i]?).bind (fun r => r[j]?) = some t0 := ht0
          by_cases hi : i < Nat.min new.length rows.length
          · rw [List.getElem?_append_left (by rw [List.length_take]; omega), List.getElem?_take, if_pos (by omega)] at ht1
            have hj : j < 1 := by
              rw [List.getElem?_eq_getElem (by omega), Option.bind_some] at ht1
              have := (List.getElem?_eq_some_iff.1 ht1).1
              rw [hfit _ (List.getElem_mem _)] at this
              exact this
            obtain ⟨u, q1, q2⟩ := n4 i j t0 ht1
            rw [if_pos (by omega)]
            exact ⟨u, q1, q2.mono hs (fun _ h => h)⟩
          · rw [List.getElem?_append_right (by rw [List.length_take]; omega), List.getElem?_drop, List.length_take] at ht1
            have hlt : new.length + (i - min rows.length new.length) < rows.length := by
              rcases Nat.lt_or_ge (new.length + (i - min rows.length new.length)) rows.length with h | h
              · exact h
              · rw [List.getElem?_eq_none h] at ht1; cases ht1
            have hei : new.length + (i - min rows.length new.length) = i := by omega
            rw [hei] at ht1
            obtain ⟨u, q1, q2⟩ := hr i j t0 ht1
            rw [if_neg (by omega)]
            exact ⟨u, q1, q2.mono hs (fun _ h => h)⟩
      · have hm2 : ((Nat.min new.length rows.length : Nat) : Int) = (dom P A).imin ((dom P A).llen new) ((dom P A).llen rows) := by
          show ((min new.length rows.length : Nat) : Int) = if ((rows.length : Nat) : Int) < ((new.length : Nat) : Int) then ((rows.length : Nat) : Int) else ((new.length : Nat) : Int)
          split <;> omega
        rw [hm2]
        exact rep_flat rfl
end
end Ab
end Go.Proofs.YtampjnpnekekiaaGreatDoor
namespace Go.Proofs.YtampjnpnekekiaaGreatDoor
open Go Go.RowKit
set_option linter.unusedVariables false
set_option linter.unusedSimpArgs false
namespace Ab
section
variable {P : Program} {A : Run} {L : TypeId → Option Lt}
theorem getD_row {heap : List (Option Row)} {id : Nat} {r : Row} (h : heap.getD id none = some r) : heap[id]? = some (some r) := by
  rw [List.getD_eq_getElem?_getD] at h
  cases hg : heap[id]? with
  | none => rw [hg] at h; cases h
  | some z => rw [hg] at h; simp at h; rw [h]
theorem push_eq {s : St} {d : Option Tmp} {v : V} (row : Option Row) : (s.put d v).push row = ⟨(s.put d v).tmps, match row with | some r => s.heap ++ [some r] | none => s.heap, s.base⟩ := by
  cases row <;> simp [St.push, put_heap, put_base]
  cases d <;> rfl
theorem calm_wp {cx : Cx} {s : St} {a : Act} {w : World} {o : Oper} {K : St → Prop} (hL : LayOk P L) (R : Rel A cx s a w) (h : evC (dom P A) L o s.ev s.heap s.heap.length fun v r => K ((s.put o.dst v).push r)) :
    ∀ next Q, (∀ s' cx' a' w', K s' → Rel A cx' s' a' w' → next a' w') → o.wp P a w next Q := fun next Q hn => by
  have h0 : cx.at_ s.heap.length = none := R.hp.dom _ (Nat.le_refl _)
  refine evC_wp hL (eyes_of R.tm) (fun id r hr => R.hp.row id r (getD_row hr)) h0 R.kp.G1 R.kp.tab h next Q fun v row u w' cx' hk X => ?_
  refine hn _ cx' _ _ hk ?_
  rw [push_eq]
  refine R.step X h0 o.dst _ (fun id r hr => ?_) ?_ ?_
  · cases row with
    | none =>
      have hlt : id < s.heap.length := (List.getElem?_eq_some_iff.1 hr).1
      exact .inl ⟨by omega, hr⟩
    | some r' =>
      simp only at hr
      by_cases hl : id < s.heap.length
      · rw [List.getElem?_append_left hl] at hr
        exact .inl ⟨by omega, hr⟩
      · rw [List.getElem?_append_right (by omega)] at hr
        have hi : id - s.heap.length = 0 := by
          have := (List.getElem?_eq_some_iff.1 hr).1
          simp at this
          omega
        rw [hi] at hr
        simp at hr
        exact .inr ⟨by omega, by rw [hr]⟩
  · cases row <;> simp
  · cases row <;> simp
theorem pop_wp {cx : Cx} {s : St} {a : Act} {w : World} {o : Oper} {K : St → Prop} (hL : LayOk P L) (R : Rel A cx s a w) (h : pop (dom P A) L o s K) :
    ∀ next Q, (∀ s' cx' a' w', K s' → Rel A cx' s' a' w' → next a' w') → (∀ ch w', PanAt A a ch w' → Q (.panic ch) a w') → o.wp P a w next Q := fun next Q hn hp => by
  cases hop : o.op with
  | panic x =>
    simp only [pop, hop] at h
    split at h
    case h_2 => exact h.elim
    rename_i t v hx
    obtain ⟨hcl, hpan⟩ := h
    have hv := (eyes_of R.tm) x
    rw [hx] at hv
    generalize hy : a.eval x = y at hv
    cases hv with
    | ifc t v u hu =>
      have hrun : (execOp a.eval o).run P w = .halt (.panic (.iface t u)) w := by
        simp only [execOp, hop, hy, Instr.panic, goPanic]
        rfl
      unfold Oper.wp
      rw [hrun, Oper.upon_panic]
      exact hp _ _ ⟨.ifc t v, .iface t u, s, cx, rfl, hcl, hpan, .ifc t v u hu, R⟩
  | binOp op t x y u =>
    simp only [pop, hop] at h
    split at h
    case h_2 => exact calm_wp hL R h next Q hn
    rename_i rows hr
    obtain ⟨b, ad, m, c, e1, e2, hb, hrun⟩ := nil_run (x := x) (y := y) hL (fun id r hr => R.hp.row id r (getD_row hr)) (eyes_of R.tm x) (eyes_of R.tm y) hr
    have hk : ∀ {K : Bool → Prop}, (dom P A).nilq rows K → K b := fun {K} g => by
      cases b with
      | false => exact g.1
      | true => exact g.2 (hb rfl)
    cases op <;> try exact h.elim
    · obtain ⟨hg, h1⟩ := hrun .eql
      rw [e1, e2] at hg h1
      have hrun : (execOp a.eval o).run P w = .ok (.value (.bool b)) w := by simp [execOp, hop, e1, e2, hg, binOp, h1]
      unfold Oper.wp
      rw [hrun, Oper.upon_value]
      exact hn _ cx _ _ (hk h) (R.put (rep_flat rfl) o.dst)
    · obtain ⟨hg, h1⟩ := hrun .neq
      rw [e1, e2] at hg h1
      have hrun : (execOp a.eval o).run P w = .ok (.value (.bool (!b))) w := by simp [execOp, hop, e1, e2, hg, binOp, h1]
      unfold Oper.wp
      rw [hrun, Oper.upon_value]
      exact hn _ cx _ _ (hk h) (R.put (rep_flat rfl) o.dst)
  | next it isStr =>
    cases isStr with
    | false => exact calm_wp hL R (by simpa only [pop, hop] using h) next Q hn
    | true =>
      simp only [pop, hop] at h
      split at h
      case h_2 => exact h.elim
      rename_i id hx
      split at h
      case h_2 => exact h.elim
      rename_i str p hrow
      have hv := (eyes_of R.tm) it
      rw [hx] at hv
      have hrow' := getD_row hrow
      have hR := R.hp.row id _ hrow'
      generalize hy : a.eval it = y at hv
      cases hR with
      | iter str p b hat hbl hnG h0 =>
        cases hv with
        | ptr id off b' cap es len h' =>
          rw [hat] at h'
          cases h'
          by_cases hlt : p.toNat < str.size
          · have hrun : (execOp a.eval o).run P w = .ok (.value (.tuple #[.bool true, .int .i64 p.toNat, .int .i32 (Utf8.decode str p.toNat).1])) (w.iterAt b str (p.toNat + (Utf8.decode str p.toNat).2)) := by
              simp only [execOp, hop, hy, Sem.run_bind, Lib.run_next_any_at w b str p.toNat o.type hbl hlt, Result.andThen_ok, Sem.run_pure]
            unfold Oper.wp
            rw [hrun, Oper.upon_value]
            have hq : (p + ((Utf8.decode str p.toNat).2 : Int)).toNat = p.toNat + (Utf8.decode str p.toNat).2 := by omega
            have R' := R.write hrow' hat (w' := w.iterAt b str (p.toNat + (Utf8.decode str p.toNat).2)) Ab.iterAt_but (.iter str (p + ((Utf8.decode str p.toNat).2 : Int)) b hat (by rw [hq]; exact Lib.iterAt_heap w b str _ _ hbl) hnG (by omega)) (fun e => by cases e)
            refine hn _ cx _ _ (h.1 hlt) (R'.put ?_ o.dst)
            refine .tup _ #[_, _, _] rfl fun i c u h1 h2 => ?_
            match i, h1, h2 with
            | 0, h1, h2 => cases h1; cases h2; exact rep_flat rfl
            | 1, h1, h2 => cases h1; cases h2; rw [Int.toNat_of_nonneg h0]; exact rep_flat rfl
            | 2, h1, h2 => cases h1; cases h2; exact rep_flat rfl
          · have hrun : (execOp a.eval o).run P w = .ok (.value (.tuple #[.bool false])) w := by
              simp only [execOp, hop, hy, Sem.run_bind, Lib.run_next_end_at w b str p.toNat o.type hbl hlt, Result.andThen_ok, Sem.run_pure]
            unfold Oper.wp
            rw [hrun, Oper.upon_value]
            refine hn _ cx _ _ (h.2 hlt) (R.put ?_ o.dst)
            refine .tup _ #[_] rfl fun i c u h1 h2 => ?_
            match i, h1, h2 with
            | 0, h1, h2 => cases h1; cases h2; exact rep_flat rfl
  | store t x y => exact store_wp hL hop R h next Q fun s' w' hk hR => hn s' cx a w' hk hR
  | call c =>
    cases hc : c.callee with
    | value f =>
      have h' := h
      simp only [pop, hop, hc] at h'
      split at h'
      case h_2 => exact h'.elim
      rename_i g caps hf
      obtain ⟨hcall, hA⟩ := h'
      have he := eyes_of R.tm
      have hx := he f
      rw [hf] at hx
      generalize hy : a.eval f = y at hx
      cases hx with
      | fn f' cs vs hnn hr =>
        have hargs : VReps cx w (c.args.toList.map s.ev ++ caps) (c.args.map a.eval ++ vs) := by
          refine ⟨by simp [hnn], fun i x u h1 h2 => ?_⟩
          by_cases hi : i < c.args.size
          · rw [List.getElem?_append_left (by simpa using hi)] at h1
            rw [Array.getElem?_append_left (by simpa using hi)] at h2
            rw [List.getElem?_map, Array.getElem?_toList] at h1
            rw [Array.getElem?_map] at h2
            obtain ⟨z, hz, rfl⟩ := Option.map_eq_some_iff.1 h1
            rw [hz] at h2
            cases h2
            exact he z
          · rw [List.getElem?_append_right (by simpa using Nat.le_of_not_lt hi)] at h1
            rw [Array.getElem?_append_right (by simpa using Nat.le_of_not_lt hi)] at h2
            simp only [List.length_map, Array.length_toList] at h1
            simp only [Array.size_map] at h2
            exact hr _ _ _ h1 h2
        have hrun : (execOp a.eval o).run P w = .ok (.enter g (c.args.map a.eval ++ vs)) w := by
          simp only [execOp, hop, resolve, hc, hy, Deferred.ofValue, Sem.run_bind, Sem.run_pure, Result.andThen_ok, invoke, Array.empty_append]
          exact hcall _ _
        unfold Oper.wp
        rw [hrun, Oper.upon_enter]
        refine (hA cx a w _ R hargs).mono ?_
        rintro e w' (⟨u, v, s', cx', rfl, hK, hrep, hR⟩ | ⟨ch, rfl, hpa⟩)
        · exact hn _ cx' _ _ hK (hR.put hrep o.dst)
        · exact hp _ _ hpa
    | builtin b =>
      cases b with
      | append => exact append_wp hL hop hc R h next Q hn
      | copy => exact copy_wp hL hop hc R h next Q hn
      | _ => exact calm_wp hL R (by simpa only [pop, hop, hc] using h) next Q hn
    | invoke r m =>
      have h' := h
      simp only [pop, hop, hc] at h'
      obtain ⟨g, r', hres, hcall, hA⟩ := h'
      have he := eyes_of R.tm
      obtain ⟨u', hm, hu'⟩ := hres cx w _ (he r)
      have hargs : VReps cx w (r' :: c.args.toList.map s.ev) (#[u'] ++ c.args.map a.eval) := by
        refine ⟨by simp; omega, fun i x u h1 h2 => ?_⟩
        cases i with
        | zero =>
          rw [Array.getElem?_append_left (by simp)] at h2
          simp at h1 h2
          subst h1
          subst h2
          exact hu'
        | succ i =>
          rw [List.getElem?_cons_succ, List.getElem?_map, Array.getElem?_toList] at h1
          rw [Array.getElem?_append_right (by simp), Array.getElem?_map] at h2
          simp only [List.size_toArray, List.length_cons, List.length_nil, Nat.zero_add, Nat.add_sub_cancel] at h2
          obtain ⟨z, hz, rfl⟩ := Option.map_eq_some_iff.1 h1
          rw [hz] at h2
          cases h2
          exact he z
      have hrun : (execOp a.eval o).run P w = .ok (.enter g (#[u'] ++ c.args.map a.eval)) w := by
        have e : ∀ (y : Value) (ys : Array Value), (#[y] ++ ys).extract 1 (#[y] ++ ys).size = ys := fun y ys => by
          obtain ⟨l⟩ := ys
          simp
        simp only [execOp, hop, resolve, hc, Sem.run_bind, Sem.run_pure, Result.andThen_ok, invoke]
        have e0 : ∀ (y : Value) (ys : Array Value), (#[y] ++ ys)[0]? = some y := fun y ys => by
          obtain ⟨l⟩ := ys
          simp
        simp only [e0, e]
        rw [hm]
        exact hcall _ _
      unfold Oper.wp
      rw [hrun, Oper.upon_enter]
      refine (hA cx a w _ R hargs).mono ?_
      rintro e w' (⟨u, v, s', cx', rfl, hK, hrep, hR⟩ | ⟨ch, rfl, hpa⟩)
      · exact hn _ cx' _ _ hK (hR.put hrep o.dst)
      · exact hp _ _ hpa
  | _ => exact calm_wp hL R (by simpa only [pop, hop] using h) next Q hn
theorem guarded_wp {all : List Oper} {o : Oper} {cx : Cx} {s : St} {a : Act} {w : World} {run skip : Unit → Prop} (R : VReps cx w s.tmps a.tmps) (h : guarded (dom P A) all o s run skip) :
    (Region.wanted o (yielded all.toArray a.tmps) = true ∧ run ()) ∨ (Region.wanted o (yielded all.toArray a.tmps) = false ∧ skip ()) := by
  unfold guarded at h
  unfold Region.wanted
  split at h
  · rename_i hg
    rw [hg]
    exact .inl ⟨rfl, h⟩
  · rename_i j want hg
    rw [hg]
    split at h
    case h_2 => exact h.elim
    rename_i t ht
    have hdst : ((all.toArray[j]?).bind (·.dst)) = some t := by
      unfold gslot at ht
      rw [List.getElem?_toArray]
      split at ht
      · rename_i oj hj; rw [hj]; exact ht
      · cases ht
    have htm : ∀ v, s.tmps.getD t .junk = v → v ≠ .junk → ∃ u, a.tmps[t]? = some u ∧ VRep cx w v u := fun v hv hne => by
      rw [List.getD_eq_getElem?_getD] at hv
      cases hg : s.tmps[t]? with
      | none => rw [hg] at hv; exact absurd hv.symm hne
      | some x =>
        rw [hg] at hv
        simp at hv
        subst hv
        have hlt : t < a.tmps.size := by rw [R.1]; exact (List.getElem?_eq_some_iff.1 hg).1
        exact ⟨_, Array.getElem?_eq_getElem hlt, R.2 _ _ _ hg (Array.getElem?_eq_getElem hlt)⟩
    split at h
    · rename_i b hb
      obtain ⟨u, h1, h2⟩ := htm _ hb (by simp)
      have hu := inv_bool h2
      subst hu
      have hy : yielded all.toArray a.tmps j = some b := by unfold yielded; rw [hdst, Option.bind_some, h1]
      simp only [hy]
      cases want with
      | true =>
        cases b with
        | true => exact .inl ⟨rfl, h.1 rfl⟩
        | false => exact .inr ⟨rfl, h.2 rfl⟩
      | false =>
        cases b with
        | true => exact .inr ⟨rfl, h.1 rfl⟩
        | false => exact .inl ⟨rfl, h.2 rfl⟩
    · rename_i cs hb
      obtain ⟨u, h1, h2⟩ := htm _ hb (by simp)
      cases h2 with
      | tup cs vs hn hr =>
        have hy : yielded all.toArray a.tmps j = none := by unfold yielded; rw [hdst, Option.bind_some, h1]
        simp only [hy]
        exact .inr ⟨rfl, h⟩
    · exact h.elim
theorem rep_undef (cx : Cx) (w : World) : VRep cx w (.tup []) undef := .tup [] #[] rfl fun i c u h => by simp at h
theorem known_drop {t u : Tmp} {b : Bool} : ∀ {kn : List (Tmp × Bool)}, knownAt (dropK t kn) u = some b → u ≠ t ∧ knownAt kn u = some b
  | [], h => by cases h
  | (x, c) :: r, h => by
    unfold dropK at h
    split at h
    · rename_i e
      obtain ⟨h1, h2⟩ := known_drop h
      exact ⟨h1, by unfold knownAt; rw [if_neg (fun e2 => h1 (e2.symm.trans e))]; exact h2⟩
    · rename_i e
      unfold knownAt at h ⊢
      split at h
      · rename_i e2
        rw [if_pos e2]
        exact ⟨fun e3 => e (e2.trans e3), h⟩
      · rename_i e2
        obtain ⟨h1, h2⟩ := known_drop h
        rw [if_neg e2]
        exact ⟨h1, h2⟩
def KInv (kn : List (Tmp × Bool)) (a : Act) : Prop := ∀ t b u, knownAt kn t = some b → a.tmps[t]? = some u → u = .bool b
theorem kinv_nil (a : Act) : KInv [] a := fun t b u h => by cases h
theorem put_other {a : Act} {d t : Tmp} {v : Value} (h : t ≠ d) : (a.put (some d) v).tmps[t]? = a.tmps[t]? := by
  simp only [Act.put, Array.set!_eq_setIfInBounds]
  exact Array.getElem?_setIfInBounds_ne (fun e => h e.symm)
theorem put_same {a : Act} {d : Tmp} {v u : Value} (h : (a.put (some d) v).tmps[d]? = some u) : u = v := by
  simp only [Act.put, Array.set!_eq_setIfInBounds, Array.getElem?_setIfInBounds] at h
  split at h
  · split at h
    · cases h; rfl
    · cases h
  · rename_i e; exact absurd trivial e
theorem KInv.forget {kn : List (Tmp × Bool)} {a a' : Act} {d : Option Tmp} {v : Value} (h : KInv kn a) (ha : a'.tmps = (a.put d v).tmps) : KInv (forgetK kn d) a' := fun t b u h1 h2 => by
  rw [ha] at h2
  cases d with
  | none => exact h t b u h1 h2
  | some d =>
    obtain ⟨g1, g2⟩ := known_drop h1
    rw [put_other g1] at h2
    exact h t b u g2 h2
theorem slot_bool {cx : Cx} {w : World} {s : St} {a : Act} {t : Tmp} {b : Bool} (R : VReps cx w s.tmps a.tmps) (h : s.tmps.getD t .junk = .t (.flat (.bool b))) : a.tmps[t]? = some (.bool b) := by
  rw [List.getD_eq_getElem?_getD] at h
  cases hg : s.tmps[t]? with
  | none => rw [hg] at h; cases h
  | some x =>
    rw [hg] at h
    simp at h
    subst h
    have hlt : t < a.tmps.size := by rw [R.1]; exact (List.getElem?_eq_some_iff.1 hg).1
    have := inv_bool (R.2 _ _ _ hg (Array.getElem?_eq_getElem hlt))
    rw [Array.getElem?_eq_getElem hlt, this]
theorem eval_tmp {a : Act} {t : Tmp} {u : Value} (h : a.tmps[t]? = some u) : a.eval (.tmp t) = u := by
  simp only [Act.eval, Array.getD_eq_getD_getElem?, h, Option.getD_some]
theorem KInv.learn {cx : Cx} {w : World} {s : St} {kn : List (Tmp × Bool)} {a : Act} {d : Option Tmp} {x : Operand} (R : VReps cx w s.tmps a.tmps) (h : KInv kn a) : KInv (learn s kn d x) (a.put d (a.eval x)) := by
  cases d with
  | none => exact h
  | some d =>
    have hf : KInv (dropK d kn) (a.put (some d) (a.eval x)) := h.forget (d := some d) rfl
    have key : ∀ b, a.eval x = .bool b → KInv ((d, b) :: dropK d kn) (a.put (some d) (a.eval x)) := fun b hb t c u h1 h2 => by
      unfold knownAt at h1
      split at h1
      · rename_i e
        subst e
        cases h1
        rw [put_same h2, hb]
      · exact hf t c u h1 h2
    unfold Ab.learn
    dsimp only
    split
    · exact key _ rfl
    · split
      · rename_i t b hb
        split
        · rename_i c hk
          have h1 := slot_bool R hb
          have := h _ _ _ hk h1
          injection this with this
          subst this
          exact key _ (eval_tmp h1)
        · exact hf
      · exact hf
    · exact hf
theorem wp_frame {o : Oper} {a : Act} {w : World} {next next' : Act → World → Prop} {Q : Exit → Act → World → Prop} (h : o.wp P a w next Q) (hn : ∀ a' w' v, a'.tmps = (a.put o.dst v).tmps → next a' w' → next' a' w') : o.wp P a w next' Q := by
  unfold Oper.wp at h ⊢
  generalize (execOp a.eval o).run P w = r at h ⊢
  cases r with
  | ok n w' =>
    cases n with
    | value v => exact hn _ _ v rfl h
    | skip => exact hn _ _ undef rfl h
    | defer d => exact hn _ _ undef (by cases o.dst <;> rfl) h
    | enter f args => exact Calls.mono h fun e w'' hq => by cases e <;> first | exact hn _ _ _ rfl hq | exact hq
    | row r args => exact Rows.mono h fun v w'' hq => hn _ _ v rfl hq
    | _ => exact h
  | halt x w' => cases x <;> exact h
theorem popK_wp {cx : Cx} {s : St} {a : Act} {w : World} {o : Oper} {kn : List (Tmp × Bool)} {K : List (Tmp × Bool) → St → Prop} (hL : LayOk P L) (R : Rel A cx s a w) (hk : KInv kn a) (h : popK (dom P A) L o kn s K) :
    ∀ next Q, (∀ kn' s' cx' a' w', K kn' s' → Rel A cx' s' a' w' → KInv kn' a' → next a' w') → (∀ ch w', PanAt A a ch w' → Q (.panic ch) a w') → o.wp P a w next Q := fun next Q hn hp => by
  have plain : pop (dom P A) L o s (K (forgetK kn o.dst)) → o.wp P a w next Q := fun h' =>
    wp_frame (pop_wp hL R h' (fun a' w' => ∃ s' cx', K (forgetK kn o.dst) s' ∧ Rel A cx' s' a' w') Q (fun s' cx' a' w' h1 h2 => ⟨s', cx', h1, h2⟩) hp)
      fun a' w' v ha ⟨s', cx', h1, h2⟩ => hn _ s' cx' a' w' h1 h2 (hk.forget ha)
  unfold popK at h
  split at h
  · rename_i c x y hop
    split at h
    · rename_i t
      split at h
      · rename_i b hb
        have h1 := slot_bool R.tm hb
        split at h
        · rename_i hkn
          have := hk _ _ _ hkn h1
          injection this with this
          subst this
          have hrun : ∀ e : Operand → Value, e (.tmp t) = .bool true → (execOp e o).run P w = .ok (.value (e x)) w := fun e he => by simp [execOp, hop, go_sem, he]
          unfold Oper.wp
          rw [hrun a.eval (eval_tmp h1)]
          exact hn _ _ cx _ w h (R.put (eyes_of R.tm x) o.dst) (hk.learn R.tm)
        · rename_i hkn
          have := hk _ _ _ hkn h1
          injection this with this
          subst this
          have hrun : ∀ e : Operand → Value, e (.tmp t) = .bool false → (execOp e o).run P w = .ok (.value (e y)) w := fun e he => by simp [execOp, hop, go_sem, he]
          unfold Oper.wp
          rw [hrun a.eval (eval_tmp h1)]
          exact hn _ _ cx _ w h (R.put (eyes_of R.tm y) o.dst) (hk.learn R.tm)
        · exact plain h
      · exact plain h
    · exact plain h
  · rename_i x hop
    have hrun : ∀ e : Operand → Value, (execOp e o).run P w = .ok (.value (e x)) w := fun e => by simp [execOp, hop, go_sem]
    unfold Oper.wp
    rw [hrun a.eval]
    exact hn _ _ cx _ w h (R.put (eyes_of R.tm x) o.dst) (hk.learn R.tm)
  · exact plain h
theorem guardedK_wp {all : List Oper} {o : Oper} {kn : List (Tmp × Bool)} {cx : Cx} {s : St} {a : Act} {w : World} {run skip : List (Tmp × Bool) → Prop} (R : VReps cx w s.tmps a.tmps) (hk : KInv kn a) (h : guardedK (dom P A) all o kn s run skip) :
    (Region.wanted o (yielded all.toArray a.tmps) = true ∧ ∃ kn', KInv kn' a ∧ run kn') ∨ (Region.wanted o (yielded all.toArray a.tmps) = false ∧ ∃ kn', KInv kn' a ∧ skip kn') := by
  have more : ∀ {t : Tmp} {b : Bool}, a.tmps[t]? = some (.bool b) → KInv ((t, b) :: kn) a := fun {t b} hb u c v h1 h2 => by
    unfold knownAt at h1
    split at h1
    · rename_i e
      subst e
      cases h1
      rw [hb] at h2
      cases h2
      rfl
    · exact hk u c v h1 h2
  have go : guarded (dom P A) all o s (fun _ => ∃ kn', KInv kn' a ∧ run kn') (fun _ => ∃ kn', KInv kn' a ∧ skip kn') := by
    unfold guardedK at h
    unfold guarded
    split at h
    · exact ⟨kn, hk, h⟩
    · rename_i j want hg
      try dsimp only
      split at h
      case h_2 => exact h.elim
      rename_i t ht
      try dsimp only
      split at h
      · rename_i b hb
        try dsimp only
        have h1 := slot_bool R hb
        split at h
        · rename_i hkn
          have := hk _ _ _ hkn h1
          injection this with this
          subst this
          cases want
          · exact ⟨fun _ => ⟨kn, hk, h⟩, fun e => by cases e⟩
          · exact ⟨fun _ => ⟨kn, hk, h⟩, fun e => by cases e⟩
        · rename_i hkn
          have := hk _ _ _ hkn h1
          injection this with this
          subst this
          cases want
          · exact ⟨(fun e => by cases e), fun _ => ⟨kn, hk, h⟩⟩
          · exact ⟨(fun e => by cases e), fun _ => ⟨kn, hk, h⟩⟩
        · cases want
          · exact ⟨fun e => ⟨_, more (e ▸ h1), h.1 e⟩, fun e => ⟨_, more (e ▸ h1), h.2 e⟩⟩
          · exact ⟨fun e => ⟨_, more (e ▸ h1), h.1 e⟩, fun e => ⟨_, more (e ▸ h1), h.2 e⟩⟩
      · rename_i cs hb
        exact ⟨kn, hk, h⟩
      · exact h.elim
  exact guarded_wp R go
theorem pops_wp (hL : LayOk P L) {all : List Oper} {K : St → Prop} {Q : Exit → Act → World → Prop} (hQ : ∀ s cx a w, K s → Rel A cx s a w → Q .normal a w) (hp : ∀ ch a w, PanAt A a ch w → Q (.panic ch) a w) :
    ∀ (rest : List Oper) (kn : List (Tmp × Bool)) (s : St), pops (dom P A) L all kn rest s K → ∀ cx a w, Rel A cx s a w → KInv kn a → wpList P all.toArray Q rest a w := by
  intro rest
  induction rest with
  | nil => intro kn s h cx a w R hk; exact hQ s cx a w h R
  | cons o rest ih =>
    intro kn s h cx a w R hk
    unfold wpList
    rcases guardedK_wp R.tm hk h with ⟨hw, kn', hk', h⟩ | ⟨hw, kn', hk', h⟩
    · rw [if_pos hw]
      exact .inl (popK_wp hL R hk' h _ _ (fun kn2 s' cx' a' w' hK hR hI => ih kn2 s' hK cx' a' w' hR hI) fun ch w' h => hp ch a w' h)
    · rw [if_neg (by simp [hw])]
      exact ih _ _ h cx _ w (R.put (rep_undef cx w) o.dst) (hk'.forget rfl)
theorem region_AW (hL : LayOk P L) {id : Nat} {ops : Array Oper} {s : St} {Q : Ex → St → Prop} (h : pops (dom P A) L ops.toList [] ops.toList s (Q .normal)) : AW P A (.region id ops false) s Q := fun cx a w R => by
  refine wp_region_list ?_
  have := pops_wp hL (Q := Post A Q) (fun s cx a w hk hR => .inl ⟨.normal, s, cx, trivial, hk, hR⟩) (fun ch a w h => .inr ⟨ch, rfl, h⟩) ops.toList [] s h cx a w R (kinv_nil a)
  simpa using this
theorem AW.mono {c : Code} {s : St} {Q Q' : Ex → St → Prop} (h : AW P A c s Q) (hq : ∀ e s, Q e s → Q' e s) : AW P A c s Q' := fun cx a w R =>
  wp_mono (h cx a w R) fun e a w h => by
    rcases h with ⟨e', s', cx', h1, h2, h3⟩ | h
    · exact .inl ⟨e', s', cx', h1, hq _ _ h2, h3⟩
    · exact .inr h
theorem pwp_sound (hL : LayOk P L) : ∀ (c : Code) (s : St) (Q : Ex → St → Prop), pwp (dom P A) L c s Q → AW P A c s Q := by
  intro c
  induction c with
  | skip => intro s Q h cx a w R; exact wp_skip (.inl ⟨.normal, s, cx, trivial, h, R⟩)
  | label l => intro s Q h cx a w R; exact wp_label (.inl ⟨.normal, s, cx, trivial, h, R⟩)
  | region id ops d =>
    intro s Q h
    cases d with
    | false => exact region_AW hL h
    | true =>
      have := h id
      intro cx a w R
      refine wp_mono (this cx a w R) fun e a w h => ?_
      rcases h with ⟨e', s', cx', h1, ⟨h2, h3⟩, h4⟩ | h
      · subst h2
        exact .inl ⟨.normal, s', cx', h1, h3, h4⟩
      · exact .inr h
  | seq x y ihx ihy =>
    intro s Q h cx a w R
    refine wp_seq (wp_mono (ihx _ _ h cx a w R) fun e a w h => ?_)
    rcases h with ⟨e', s', cx', h1, h2, h3⟩ | ⟨ch, rfl, h⟩
    · cases e <;> cases e' <;> first | exact h1.elim | exact ihy _ _ h2 cx' a w h3 | exact .inl ⟨_, s', cx', h1, h2, h3⟩
    · exact .inr ⟨ch, rfl, h⟩
  | cond c x y ihx ihy =>
    intro s Q h cx a w R
    simp only [pwp] at h
    split at h
    case h_2 => exact h.elim
    rename_i b hb
    have hc := inv_bool (by have := eyes_of R.tm c; rw [hb] at this; exact this)
    cases b with
    | true => exact wp_cond hc (ihx _ _ (h.1 rfl) cx a w R)
    | false => exact wp_cond hc (ihy _ _ (h.2 rfl) cx a w R)
  | block id c ih =>
    intro s Q h cx a w R
    refine wp_block (wp_mono (ih _ _ h cx a w R) fun e a w h => ?_)
    rcases h with ⟨e', s', cx', h1, h2, h3⟩ | ⟨ch, rfl, h⟩
    case inr => exact .inr ⟨ch, rfl, h⟩
    cases e with
    | exit i =>
      cases e' with
      | exit j =>
        have e1 : i = j := h1
        subst e1
        simp only [Exit.inBlock]
        simp only at h2
        split at h2
        · rename_i e2
          rw [if_pos e2]
          exact .inl ⟨.normal, s', cx', trivial, h2, h3⟩
        · rename_i e2
          rw [if_neg e2]
          exact .inl ⟨.exit i, s', cx', rfl, h2, h3⟩
      | _ => exact h1.elim
    | _ => cases e' <;> first | exact h1.elim | exact .inl ⟨_, s', cx', h1, h2, h3⟩
  | exit id => intro s Q h cx a w R; exact wp_exit (.inl ⟨.exit id, s, cx, rfl, h, R⟩)
  | goto l => intro s Q h cx a w R; exact wp_goto (.inl ⟨.goto l, s, cx, rfl, h, R⟩)
  | ret => intro s Q h cx a w R; exact wp_ret (.inl ⟨.ret, s, cx, trivial, h, R⟩)
  | loop c ih => intro s Q h; exact h
  | rangeFunc f ps x y => intro s Q h; exact h
  | scope c ih => intro s Q h; exact h
  | refuse why => intro s Q h; exact h
end
end Ab
end Go.Proofs.YtampjnpnekekiaaGreatDoor
