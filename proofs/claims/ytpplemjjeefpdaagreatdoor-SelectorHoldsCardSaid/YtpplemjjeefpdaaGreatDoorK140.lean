/- Texts that the proof leans on. -/
import Derived.ChangeKeysEq
import Derived.WalkKit
import Derived.KernelRfl
import Derived.Lib.TrailingZeros
import Derived.Shelf.Unicode.DecodeSlow
import Derived.Laws.Tables
import Derived.Laws.MakeOwn
import Derived.Maps.AppendAt
import Derived.Laws.BytesString
import Derived.Laws.IdiomStrings
import Derived.Laws.StructEq
import Derived.Lib.OthersKept
import Derived.Lib.AppendStr
import Derived.Laws.CopyRow
import Derived.Still
import Derived.StillTail
import Derived.LoopN
import Derived.Test.YtpplemjjeefpdaaGreatDoorProg
import Derived.Laws.BitsAllLaws
import Derived.Below
import Derived.Calls
import Derived.Deep.Draws
import Derived.WalkSpells
import Derived.Deep.QuietTactic
import Derived.BigQuiet
import Derived.BigRegion
import Derived.RegionTactic
import Derived.WalkLawsBesides
import Derived.Shelf.Spec.TrailingZeros
import Derived.Defers
import Derived.Recover
import Derived.Laws.Pointers
import Derived.Lib.Builder
import Derived.Lib.UnsafeStr
import Derived.Shelf.RegionOpenPlain
import Derived.Laws.Externs
import Derived.Shelf.Small.Bits
import Derived.Shelf.Small.Strs
import Derived.Shelf.Strconv.Itoa0
import Derived.Shelf.Strings.Search1
import Derived.Shelf.Sort.Plain
import Derived.Shelf.Unicode.Decode
import Derived.Shelf.Unicode.DecodeAny
import Derived.Shelf.Slices.CompactS
import Derived.Ground.Names2Prog
import Derived.Shelf.Slices.SearchI
import Derived.Shelf.Slices.Cells
import Derived.Shelf.Slices.In.SortNone
import Derived.Lib.DecodeN
import Derived.Sort.Walk0
import Derived.Test.YtpplemjjeefpdaaGreatDoorK131
import Derived.Test.YtpplemjjeefpdaaGreatDoorK139
import Derived.Test.YtpplemjjeefpdaaGreatDoorK138
import Derived.Test.YtpplemjjeefpdaaGreatDoorK130
import Derived.Test.YtpplemjjeefpdaaGreatDoorK129
import Derived.Test.YtpplemjjeefpdaaGreatDoorK128
import Derived.Test.YtpplemjjeefpdaaGreatDoorK127
import Derived.Test.YtpplemjjeefpdaaGreatDoorK123
import Derived.Test.YtpplemjjeefpdaaGreatDoorK114
import Derived.Test.YtpplemjjeefpdaaGreatDoorK113
import Derived.Test.YtpplemjjeefpdaaGreatDoorK112
import Derived.Test.YtpplemjjeefpdaaGreatDoorK111
import Derived.Test.YtpplemjjeefpdaaGreatDoorK110
import Derived.Test.YtpplemjjeefpdaaGreatDoorK109
import Derived.Test.YtpplemjjeefpdaaGreatDoorK108
import Derived.Test.YtpplemjjeefpdaaGreatDoorK107
import Derived.Test.YtpplemjjeefpdaaGreatDoorK106
import Derived.Test.YtpplemjjeefpdaaGreatDoorK105
import Derived.Test.YtpplemjjeefpdaaGreatDoorK104
import Derived.Test.YtpplemjjeefpdaaGreatDoorK103
import Derived.Test.YtpplemjjeefpdaaGreatDoorK102
import Derived.Test.YtpplemjjeefpdaaGreatDoorK101
import Derived.Test.YtpplemjjeefpdaaGreatDoorK122
import Derived.Test.YtpplemjjeefpdaaGreatDoorK121
import Derived.Test.YtpplemjjeefpdaaGreatDoorK120
import Derived.Test.YtpplemjjeefpdaaGreatDoorK117
import Derived.Test.YtpplemjjeefpdaaGreatDoorK115
import Derived.Test.YtpplemjjeefpdaaGreatDoorK116
import Derived.Test.YtpplemjjeefpdaaGreatDoorK119
import Derived.Test.YtpplemjjeefpdaaGreatDoorK118
import Derived.Test.YtpplemjjeefpdaaGreatDoorK126
import Derived.Test.YtpplemjjeefpdaaGreatDoorK125
import Derived.Test.YtpplemjjeefpdaaGreatDoorK124
import Derived.Sort.EncStr
import Derived.Sort.Grow
namespace Go.Proofs.YtpplemjjeefpdaaGreatDoor
open Go
set_option linter.unusedVariables false
set_option linter.unusedSimpArgs false
set_option maxRecDepth 100000
open Sh Gn
namespace Pl
open Mx (Pos orP zr single iter upto more Sup Adds Keeps sp)
theorem iter_add (f : Pos → Pos) (j : Nat) : ∀ (M : Nat) (x : Pos), iter f j (iter f M x) = iter f (M + j) x
  | 0, x => by rw [Nat.zero_add]; rfl
  | M + 1, x => by
    rw [show M + 1 + j = (M + j) + 1 by omega]
    exact iter_add f j M (f x)
def outK (f : Pos → Pos) (x : Pos) (M k : Nat) : Pos := if k ≤ M then zr else upto f (k - 1 - M) (iter f M x)
theorem outK_low {f : Pos → Pos} {x : Pos} {M k : Nat} (h : k < M) : outK f x M (k + 1) = outK f x M k := by unfold outK; rw [if_pos (by omega), if_pos (by omega)]
theorem outK_step {f : Pos → Pos} (hf : Adds f) {x : Pos} {M k : Nat} (h : M ≤ k) : outK f x M (k + 1) = orP (outK f x M k) (iter f k x) := by
  unfold outK
  rw [if_neg (by omega), show k + 1 - 1 - M = k - M by omega]
  by_cases h1 : k = M
  · subst h1; rw [if_pos (Nat.le_refl _), Nat.sub_self, Mx.none_or]; rfl
  · rw [if_neg (by omega)]
    obtain ⟨j, rfl⟩ : ∃ j, k = M + j + 1 := ⟨k - M - 1, by omega⟩
    rw [show M + j + 1 - M = j + 1 by omega, show M + j + 1 - 1 - M = j by omega, Mx.upto_succ hf, iter_add, Nat.add_assoc]
theorem outK_end (f : Pos → Pos) (x : Pos) (M T : Nat) (h : M ≤ T) : outK f x M (T + 1) = upto f (T - M) (iter f M x) := by
  unfold outK
  rw [if_neg (by omega), show T + 1 - 1 - M = T - M by omega]
def fromP (f : Pos → Pos) (x : Pos) (k : Nat) : Pos := fun j => (List.range k).any fun i => x i && f (single i) j
theorem fromP_succ (f : Pos → Pos) (x : Pos) (k j : Nat) : fromP f x (k + 1) j = (fromP f x k j || (x k && f (single k) j)) := by unfold fromP; rw [List.range_succ, List.any_append]; simp
section
variable {s : ByteArray} {M : Nat}
def EOk (s : ByteArray) (rec : Node → ByteArray → Int → Option (List Bool)) (n : Node) : Prop := ∀ i : Nat, i ≤ s.size → rec n s (i : Int) = some (tab (s.size + 1) (sp s.data.toList n (single i)))
theorem from2_p {a b : Pos} (hM : M ≤ 100000) : ∀ (m k : Nat), k ≤ M → M < k + m → r15_from_l2 (tab M b) m k (tab M (jn a b k)) = some (tab M (orP a b)) := by
  intro m
  induction m with
  | zero => intro k h1 h2; omega
  | succ m ih =>
    intro k h1 h2
    rw [r15_from_l2, cm_lss, cond_dec, ll_eq, tab_len]
    by_cases c : k < M
    · rw [if_pos (by omega), inc1 (by omega), join_put c]
      exact ih (k + 1) (by omega) (by omega)
    · obtain rfl : k = M := by omega
      rw [if_neg (by omega), jn_all]
theorem ends3_p {a b : Pos} {k2 : Int → List Bool → Option (List Bool)} {v : Int} (hM : M ≤ 100000) : ∀ (m k : Nat), k ≤ M → M < k + m → r15_ends_l3 k2 v (tab M b) m k (tab M (jn a b k)) = k2 (ar .add .i64 v 1) (tab M (orP a b)) := by
  intro m
  induction m with
  | zero => intro k h1 h2; omega
  | succ m ih =>
    intro k h1 h2
    rw [r15_ends_l3, cm_lss, cond_dec, ll_eq, tab_len]
    by_cases c : k < M
    · rw [if_pos (by omega), inc1 (by omega), join_put c]
      exact ih (k + 1) (by omega) (by omega)
    · obtain rfl : k = M := by omega
      rw [if_neg (by omega), jn_all]
theorem ends5_p {a b : Pos} (hM : M ≤ 100000) : ∀ (m k : Nat), k ≤ M → M < k + m → r15_ends_l5 (tab M b) m k (tab M (jn a b k)) = some (tab M (orP a b)) := by
  intro m
  induction m with
  | zero => intro k h1 h2; omega
  | succ m ih =>
    intro k h1 h2
    rw [r15_ends_l5, cm_lss, cond_dec, ll_eq, tab_len]
    by_cases c : k < M
    · rw [if_pos (by omega), inc1 (by omega), join_put c]
      exact ih (k + 1) (by omega) (by omega)
    · obtain rfl : k = M := by omega
      rw [if_neg (by omega), jn_all]
theorem froms_p {rec : Node → ByteArray → Int → Option (List Bool)} {n : Node} {N : Nat} {x : Pos} (hs : s.size ≤ 10000) (hN : s.size + 1 < N) (hr : EOk s rec n) : ∀ (m k : Nat), k ≤ s.size + 1 → s.size + 1 < k + m →
    r15_from_l1 rec N n s (tab (s.size + 1) x) m k (tab (s.size + 1) (fromP (sp s.data.toList n) x k)) = some (tab (s.size + 1) (fromP (sp s.data.toList n) x (s.size + 1))) := by
  intro m
  induction m with
  | zero => intro k h1 h2; omega
  | succ m ih =>
    intro k h1 h2
    rw [r15_from_l1, cm_lss, cond_dec, ll_eq, tab_len]
    by_cases c : k < s.size + 1
    · rw [if_pos (by omega), inc1 (by omega), tab_at c, Option.bind_some, hr k (by omega), Option.bind_some]
      have key := from2_p (a := fromP (sp s.data.toList n) x k) (b := sp s.data.toList n (single k)) (M := s.size + 1) (by omega) N 0 (by omega) (by omega)
      rw [jn_zero] at key
      rw [show ((0 : Nat) : Int) = 0 from rfl] at key
      rw [key]
      have e : fromP (sp s.data.toList n) x (k + 1) = if x k = true then orP (fromP (sp s.data.toList n) x k) (sp s.data.toList n (single k)) else fromP (sp s.data.toList n) x k := by
        funext j
        rw [fromP_succ]
        cases x k with
        | true => simp [orP]
        | false => simp
      have step := ih (k + 1) (by omega) (by omega)
      rw [e] at step
      cases hx : x k with
      | true => rw [hx] at step; exact step
      | false => rw [hx] at step; exact step
    · obtain rfl : k = s.size + 1 := by omega
      rw [if_neg (by omega)]
theorem from_p {rec : Node → ByteArray → Int → Option (List Bool)} {n : Node} {N : Nat} {x : Pos} (hs : s.size ≤ 10000) (hN : s.size + 1 < N) (hr : EOk s rec n) (hx : Sup (s.size + 1) x) : r15_from_g rec N n s (tab (s.size + 1) x) = some (tab (s.size + 1) (sp s.data.toList n x)) := by
  unfold r15_from_g
  rw [ll_eq, tab_len, tab_zro (by omega), Option.bind_some]
  have key := froms_p (x := x) hs hN hr N 0 (by omega) (by omega)
  have e0 : fromP (sp s.data.toList n) x 0 = zr := by funext j; rfl
  have e1 : fromP (sp s.data.toList n) x (s.size + 1) = sp s.data.toList n x := by
    funext j
    exact (Mx.sp_any (Mx.adds_sp s.data.toList n) hx j).symm
  rw [e0, e1] at key
  exact key
theorem rcat_p {n : Node} {N : Nat} {rec : Node → ByteArray → Int → Option (List Bool)} (hs : s.size ≤ 10000) (hN : s.size + 1 < N) (hl : n.kids.length ≤ 10000) (hr : ∀ c ∈ n.kids, EOk s rec c) : ∀ (m k : Nat) (x : Pos), Sup (s.size + 1) x → k ≤ n.kids.length → n.kids.length < k + m →
    r15_ends_l1 rec N n s m k (tab (s.size + 1) x) = some (tab (s.size + 1) (Mx.spCat s.data.toList (n.kids.drop k) x)) := by
  intro m
  induction m with
  | zero => intro k x hx h1 h2; omega
  | succ m ih =>
    intro k x hx h1 h2
    rw [r15_ends_l1, cm_lss, cond_dec, ll_eq]
    by_cases c : k < n.kids.length
    · have hKe := Mx.keeps_sp s.data.toList n.kids[k]
      rw [size_list] at hKe
      rw [if_pos (by omega), at_get c, inc1 (by omega), Option.bind_some, from_p hs hN (hr _ (List.getElem_mem c)) hx, Option.bind_some, ih (k + 1) _ (hKe x hx) (by omega) (by omega), List.drop_eq_getElem_cons c, Mx.spCat]
    · rw [if_neg (by omega), List.drop_of_length_le (by omega), Mx.spCat]
theorem ralt_p {n : Node} {N i : Nat} {rec : Node → ByteArray → Int → Option (List Bool)} (hs : s.size ≤ 10000) (hN : s.size + 1 < N) (hi : i ≤ s.size) (hl : n.kids.length ≤ 10000) (hr : ∀ c ∈ n.kids, EOk s rec c) : ∀ (m k : Nat) (y : Pos), k ≤ n.kids.length → n.kids.length < k + m →
    r15_ends_l2 rec N n s i m k (tab (s.size + 1) y) = some (tab (s.size + 1) (orP y (Mx.spAlt s.data.toList (n.kids.drop k) (single i)))) := by
  intro m
  induction m with
  | zero => intro k y h1 h2; omega
  | succ m ih =>
    intro k y h1 h2
    rw [r15_ends_l2, cm_lss, cond_dec, ll_eq]
    by_cases c : k < n.kids.length
    · rw [if_pos (by omega), at_get c, Option.bind_some, hr _ (List.getElem_mem c) i hi, Option.bind_some]
      have key := ends3_p (a := y) (b := sp s.data.toList n.kids[k] (single i)) (k2 := r15_ends_l2 rec N n s i m) (v := (k : Int)) (M := s.size + 1) (by omega) N 0 (by omega) (by omega)
      rw [jn_zero, inc1 (by omega), ih (k + 1) _ (by omega) (by omega)] at key
      rw [List.drop_eq_getElem_cons c, Mx.spAlt, ← Mx.or_assoc]
      exact key
    · rw [if_neg (by omega), List.drop_of_length_le (by omega), Mx.spAlt, Mx.or_none]
theorem rrep_p {n c : Node} {N K T : Nat} {rec : Node → ByteArray → Int → Option (List Bool)} (hs : s.size ≤ 10000) (hN : s.size + 1 < N) (hc : n.kids = [c]) (hK : n.min = (K : Int)) (hT : T ≤ 20000) (hr : EOk s rec c) {x : Pos} (hx : Sup (s.size + 1) x) : ∀ (m k : Nat), k ≤ T + 1 → T + 1 < k + m →
    r15_ends_l4 rec N n s (T : Int) m k (tab (s.size + 1) (outK (sp s.data.toList c) x K k)) (tab (s.size + 1) (iter (sp s.data.toList c) k x)) = some (tab (s.size + 1) (outK (sp s.data.toList c) x K (T + 1))) := by
  have hA := Mx.adds_sp s.data.toList c
  have hKe := Mx.keeps_sp s.data.toList c
  rw [size_list] at hKe
  intro m
  induction m with
  | zero => intro k h1 h2; omega
  | succ m ih =>
    intro k h1 h2
    have hat : at_ n.kids (0 : Int) = some c := by rw [hc]; rfl
    rw [r15_ends_l4, cm_leq, cond_dec]
    by_cases c1 : k ≤ T
    · have e : sp s.data.toList c (iter (sp s.data.toList c) k x) = iter (sp s.data.toList c) (k + 1) x := (Mx.iter_succ _ k x).symm
      have hf := from_p hs hN hr ((Keeps.iter hKe k) x hx)
      rw [e] at hf
      rw [if_pos (by omega), hat, inc1 (by omega), cm_geq, cond_dec, hK]
      simp only [Option.bind_some, hf]
      by_cases c2 : K ≤ k
      · rw [if_pos (by omega)]
        have key := ends5_p (a := outK (sp s.data.toList c) x K k) (b := iter (sp s.data.toList c) k x) (M := s.size + 1) (by omega) N 0 (by omega) (by omega)
        rw [jn_zero, ← outK_step hA c2] at key
        rw [show ((0 : Nat) : Int) = 0 from rfl] at key
        rw [key, Option.bind_some]
        exact ih (k + 1) (by omega) (by omega)
      · rw [if_neg (by omega), Option.bind_some, ← outK_low (by omega)]
        exact ih (k + 1) (by omega) (by omega)
    · obtain rfl : k = T + 1 := by omega
      rw [if_neg (by omega)]
theorem one_single (S : CSet) (l : List UInt8) (i j : Nat) : Mx.one S l (single i) j = if j = i + 1 then (match l[i]? with | some c => S.has c.toNat | _ => false) else false := by
  cases j with
  | zero => simp [Mx.one]
  | succ j =>
    simp only [Mx.one, single]
    by_cases h : j = i
    · subst h
      simp only [beq_self_eq_true, Bool.true_and, if_true]
      cases l[j]? <;> rfl
    · simp [h]
theorem ends_p (hs : s.size ≤ 10000) : ∀ (m : Nat) (n : Node), n.size ≤ m → m ≤ 1000 → Rx.right n = true → ∀ N, m + 20000 ≤ N → EOk s (r15_ends_g N) n := by
  intro m
  induction m with
  | zero => intro n h; have := n.size_pos; omega
  | succ m ih =>
    intro n h hm hri N hN i hi
    obtain ⟨N, rfl⟩ : ∃ M, N = M + 1 := ⟨N - 1, by omega⟩
    have hk := n.kids_le
    rw [Rx.right_eq, Bool.and_eq_true] at hri
    obtain ⟨ht, hrs⟩ := hri
    have hrs := (Rx.rights_iff _ _).1 hrs
    have hrec : ∀ c ∈ n.kids, EOk s (r15_ends_g N) c := fun c hc => ih c (by have := kid_size hc; omega) (by omega) (hrs c hc).1 N (by omega)
    have hx : Sup (s.size + 1) (single i) := Mx.sup_single (by omega)
    have e1 : ar .add .i64 (sl s) 1 = ((s.size + 1 : Nat) : Int) := by rw [sl_eq]; exact inc1 (by omega)
    rw [r15_ends_g]
    dsimp only
    rw [e1, tab_zro (by omega), sp_eq]
    have es : tab (s.size + 1) (fun j => if j = i then true else zr j) = tab (s.size + 1) (single i) := tab_ext fun j hj => by
      by_cases g : j = i
      · simp [g, single]
      · simp [g, single, zr]
    simp only [Option.bind_some, tab_at (show i < s.size + 1 by omega), tab_put, es, cm_eql, cm_lss, cond_dec, bind_self, sl_eq]
    by_cases k1 : n.kind = 1
    · rw [if_pos k1, if_pos k1]
      by_cases c : i < s.size
      · have hch : r12_Has_g n.set (cv .i64 (sa s (i : Int))) = some (n.set.has (Qu.bt s.data.toList i)) := by
          have := Qu.bt_lt s.data.toList i
          unfold r12_Has_g
          rw [sa_bt, cv_i64 (by omega) (by omega), if_pos (by omega), Int.toNat_natCast]
        have hc : (i : Int) < (s.size : Int) := by omega
        simp only [hc, if_true, sin_in c, _root_.cond_true, hch, Option.bind_some, inc1 (show i ≤ 100000000 by omega), tab_at (show i + 1 < s.size + 1 by omega), tab_put]
        have hbt : (match s.data.toList[i]? with | some c => n.set.has c.toNat | _ => false) = n.set.has (Qu.bt s.data.toList i) := by
          have : s.data.toList[i]? = some (s.data.toList[i]'(by rw [size_list]; exact c)) := List.getElem?_eq_getElem _
          unfold Qu.bt
          rw [this]
        cases hb : n.set.has (Qu.bt s.data.toList i) with
        | true =>
          simp only [_root_.cond_true, Option.bind_some]
          congr 1
          refine tab_ext fun j hj => ?_
          rw [one_single, hbt, hb]
          rfl
        | false =>
          simp only [_root_.cond_false, Option.bind_some]
          congr 1
          refine tab_ext fun j hj => ?_
          rw [one_single, hbt, hb]
          simp [zr]
      · have hc : ¬ (i : Int) < (s.size : Int) := by omega
        simp only [hc, if_false]
        congr 1
        refine tab_ext fun j hj => ?_
        rw [one_single, if_neg (by omega)]; rfl
    by_cases k2 : n.kind = 2
    · rw [if_neg k1, if_pos k2, if_neg k1, if_pos k2]
      exact rcat_p (n := n) hs (by omega) (by omega) hrec N 0 _ hx (by omega) (by omega)
    by_cases k3 : n.kind = 3
    · rw [if_neg k1, if_neg k2, if_pos k3, if_neg k1, if_neg k2, if_pos k3]
      have key := ralt_p (n := n) (N := N) (rec := r15_ends_g N) hs (by omega) hi (by omega) hrec N 0 zr (by omega) (by omega)
      rw [Mx.none_or] at key
      exact key
    have k4 : n.kind = 4 := by
      unfold Rx.topB at ht
      simp only [Bool.and_eq_true, Bool.or_eq_true, beq_iff_eq] at ht
      have := ht.1.1.1
      omega
    rw [if_neg k1, if_neg k2, if_neg k3, if_neg k1, if_neg k2, if_neg k3]
    have h4 : n.kids.length = 1 ∧ Rx.timesB n.min n.max = true := by
      unfold Rx.topB at ht
      simp [k4] at ht
      exact ht.2
    obtain ⟨c, hc⟩ := List.length_eq_one_iff.1 h4.1
    have ht2 := h4.2
    unfold Rx.timesB at ht2
    split at ht2
    · cases ht2
    rename_i g
    simp at g ht2
    obtain ⟨K, hK⟩ : ∃ K : Nat, n.min = (K : Int) := ⟨n.min.toNat, by omega⟩
    have hrc := hrec c (by rw [hc]; simp)
    have e0 : outK (sp s.data.toList c) (single i) K 0 = zr := by unfold outK; rw [if_pos (by omega)]
    have er : Mx.spRep s.data.toList n.kids n.min n.max (single i) = upto (sp s.data.toList c) (more s.data.toList.length K n.max) (iter (sp s.data.toList c) K (single i)) := by
      rw [hc, hK]; rfl
    have hlen : s.data.toList.length = s.size := size_list s
    rw [er]
    by_cases c1 : n.max = -1
    · have ea : ar .add .i64 n.min (s.size : Int) = ((K + s.size : Nat) : Int) := by rw [hK, ar_add (by omega) (by omega)]; omega
      rw [if_pos c1, Option.bind_some, ea]
      have key := rrep_p (n := n) (c := c) (N := N) (K := K) (T := K + s.size) hs (by omega) hc hK (by omega) hrc hx N 0 (by omega) (by omega)
      rw [e0, outK_end _ _ _ _ (by omega)] at key
      unfold more
      rw [if_pos c1, hlen, show s.size = K + s.size - K by omega]
      have e2 : K + s.size - K = s.size := by omega
      rw [e2] at key ⊢
      exact key
    · obtain ⟨T, hT⟩ : ∃ T : Nat, n.max = (T : Int) := ⟨n.max.toNat, by omega⟩
      rw [if_neg c1, Option.bind_some, hT]
      have key := rrep_p (n := n) (c := c) (N := N) (K := K) (T := T) hs (by omega) hc hK (by omega) hrc hx N 0 (by omega) (by omega)
      rw [e0, outK_end _ _ _ _ (by omega)] at key
      unfold more
      rw [if_neg (by omega), show ((T : Int) - (K : Int)).toNat = T - K by omega]
      exact key
theorem rmatch_p {n : Node} {N : Nat} (hs : s.size ≤ 10000) (hz : n.size ≤ 1000) (hN : 30000 ≤ N) : r15_Match_g N n s = some (Mt.hits n s.data.toList) := by
  unfold r15_Match_g Mt.hits
  rw [rright13_p n.size n (Nat.le_refl _) hz N (by omega), Option.bind_some, cond_not]
  cases hr : Rx.right n with
  | false => rfl
  | true =>
    have key := ends_p hs n.size n (Nat.le_refl _) hz hr N (by omega) 0 (by omega)
    rw [show ((0 : Nat) : Int) = 0 from rfl] at key
    rw [_root_.cond_true, key, Option.bind_some, sl_eq, tab_at (by omega), size_list]
    rfl
theorem list_p {x : Pos} (hM : M ≤ 100000) : ∀ (m k : Nat) (l : List Int), k ≤ M → M < k + m → l.length ≤ k → match_Ends_l1 (tab M x) m k l = some (l ++ (((List.range M).drop k).filter x).map fun i : Nat => (i : Int)) := by
  intro m
  induction m with
  | zero => intro k l h1 h2; omega
  | succ m ih =>
    intro k l h1 h2 h3
    rw [match_Ends_l1, cm_lss, cond_dec, ll_eq, tab_len]
    by_cases c : k < M
    · rw [if_pos (by omega), inc1 (by omega), tab_at c]
      have ed : (List.range M).drop k = k :: (List.range M).drop (k + 1) := by
        rw [List.drop_eq_getElem_cons (by simpa using c)]; simp
      rw [ed, List.filter_cons]
      simp only [Option.bind_some]
      cases hx : x k with
      | true =>
        have ea : app (cI .i64) l [(k : Int)] = some (l ++ [(k : Int)]) := by unfold app; rw [if_pos (by simp; omega)]
        rw [_root_.cond_true, ea]
        simp only [Option.bind_some]
        rw [ih (k + 1) _ (by omega) (by omega) (by simp; omega)]
        simp
      | false =>
        rw [_root_.cond_false, Option.bind_some, ih (k + 1) _ (by omega) (by omega) (by omega)]
        simp
    · rw [if_neg (by omega), List.drop_of_length_le (by simp; omega)]
      simp
theorem index_has {l : List Int} {x : Int} (hl : l.length ≤ 100000) : ∀ (m k : Nat), k ≤ l.length → l.length < k + m → ∃ r, slices_Index_152_l1 l x m k = some r ∧ (0 ≤ r ↔ x ∈ l.drop k) := by
  intro m
  induction m with
  | zero => intro k h1 h2; omega
  | succ m ih =>
    intro k h1 h2
    rw [slices_Index_152_l1, cm_lss, cond_dec, ll_eq]
    by_cases c : k < l.length
    · rw [if_pos (by omega), inc1 (by omega), at_get c, Option.bind_some, cm_eql, cond_dec]
      by_cases g : x = l[k]
      · rw [if_pos g]
        exact ⟨_, rfl, by rw [List.drop_eq_getElem_cons c]; simp [← g]⟩
      · rw [if_neg g]
        obtain ⟨r, h3, h4⟩ := ih (k + 1) (by omega) (by omega)
        refine ⟨r, h3, h4.trans ?_⟩
        have e : l.drop k = l[k] :: l.drop (k + 1) := List.drop_eq_getElem_cons c
        rw [e, List.mem_cons]
        exact ⟨.inr, fun h => h.elim (fun h => absurd h g) id⟩
    · rw [if_neg (by omega), List.drop_of_length_le (by omega)]
      exact ⟨-1, rfl, by simp⟩
theorem mmatch_p {n : Node} {N : Nat} (hs : s.size ≤ 10000) (hz : n.size ≤ 1000) (hN : 30000 ≤ N) : match_Match_g N n s = some (Mt.hits n s.data.toList) := by
  unfold match_Match_g match_Ends_g Mt.hits
  rw [xright_p n.size n (Nat.le_refl _) hz N (by omega), Option.bind_some, cond_not]
  simp only [cm_lss, cm_gtr, cond_dec, ite_or, sl_eq]
  cases hr : Rx.right n with
  | false =>
    simp only [_root_.cond_false, Option.bind_some, _root_.cond_true]
    obtain ⟨r, h1, h2⟩ := index_has (l := []) (x := (s.size : Int)) (by simp) N 0 (by simp) (by simp; omega)
    unfold slices_Contains_150_g slices_Index_152_g
    rw [show ((0 : Nat) : Int) = 0 from rfl] at h1
    rw [h1, Option.bind_some, Option.bind_some, cm_geq]
    simp at h2
    simp; omega
  | true =>
    have hx : Sup (s.size + 1) (single 0) := Mx.sup_single (by omega)
    have key := moved_p hs n.size n (Nat.le_refl _) hz hr N (by omega) (single 0) hx
    have e1 : ar .add .i64 (s.size : Int) 1 = ((s.size + 1 : Nat) : Int) := inc1 (by omega)
    have es : tab (s.size + 1) (fun j => if j = 0 then true else zr j) = tab (s.size + 1) (single 0) := tab_ext fun j hj => by
      by_cases g : j = 0
      · simp [g, single]
      · simp [g, single, zr]
    have h0 : decide ((0 : Int) < 0 ∨ (s.size : Int) < 0) = false := decide_eq_false (by omega)
    have t0 := fun x => tab_at (M := s.size + 1) (k := 0) (x := x) (by omega)
    have p0 := fun (b : Bool) (X : List Bool → Option (List Int)) => tab_put (M := s.size + 1) (k := 0) (x := zr) (b := b) (X := X)
    rw [show ((0 : Nat) : Int) = 0 from rfl] at t0 p0
    simp only [_root_.cond_true, h0, Option.bind_some, _root_.cond_false, e1, tab_zro (show s.size + 1 ≤ 1000000000 by omega), t0, p0, es, key]
    have hl := list_p (M := s.size + 1) (x := sp s.data.toList n (single 0)) (by omega) N 0 [] (by omega) (by omega) (by simp)
    rw [show ((0 : Nat) : Int) = 0 from rfl, List.drop_zero, List.nil_append] at hl
    rw [hl, Option.bind_some]
    have hlen : (((List.range (s.size + 1)).filter (sp s.data.toList n (single 0))).map fun i : Nat => (i : Int)).length ≤ s.size + 1 := by
      rw [List.length_map]
      have := List.length_filter_le (sp s.data.toList n (single 0)) (List.range (s.size + 1))
      simpa using this
    generalize hL : (((List.range (s.size + 1)).filter (sp s.data.toList n (single 0))).map fun i : Nat => (i : Int)) = L at *
    obtain ⟨r, h1, h2⟩ := index_has (l := L) (x := (s.size : Int)) (by omega) N 0 (by omega) (by omega)
    unfold slices_Contains_150_g slices_Index_152_g
    rw [show ((0 : Nat) : Int) = 0 from rfl] at h1
    rw [h1, Option.bind_some, Option.bind_some, cm_geq, Bool.true_and, size_list]
    congr 1
    rw [Bool.eq_iff_iff, decide_eq_true_eq, h2, List.drop_zero, ← hL]
    simp only [List.mem_map, List.mem_filter, List.mem_range]
    constructor
    · rintro ⟨a, ⟨_, h3⟩, h4⟩
      have : a = s.size := by omega
      rw [← this]; exact h3
    · intro h3
      exact ⟨s.size, ⟨by omega, h3⟩, rfl⟩
end
end Pl
end Go.Proofs.YtpplemjjeefpdaaGreatDoor
namespace Go.Proofs.YtpplemjjeefpdaaGreatDoor
open Go
set_option linter.unusedVariables false
set_option linter.unusedSimpArgs false
set_option maxRecDepth 100000
open Sh Gn
namespace Pl
theorem mtest_p {N : Nat} (hN : 30000 ≤ N) (g : GMatcher) (v : ByteArray) (hv : g.Op ≤ 2 ∨ v.size ≤ 10000) : matcher_Test_g N g v = some (Mt.test (toM g) v) := by
  unfold matcher_Test_g Mt.test Mt.right toM
  rw [label_p (by omega), lab_eq]
  simp only [Option.bind_some, cond_not, cm_lss, cm_gtr, cm_eql, cm_neq, cond_dec, ite_or, ite_and, sl_eq, bind_self]
  cases Nm.labelB g.Name.data.toList with
  | false => rfl
  | true =>
    simp only [_root_.cond_true, Bool.true_eq_false, if_false]
    by_cases c1 : g.Op < 1 ∨ 4 < g.Op
    · simp [c1]
    · simp only [c1, if_false]
      by_cases c2 : g.Op ≤ 2
      · have c2' : g.Op = 1 ∨ g.Op = 2 := by omega
        simp only [c2, c2', if_true]
        by_cases c3 : 1024 < g.Value.size
        · have c3' : (1024 : Int) < (g.Value.size : Int) := by omega
          simp [c3, c3']
        · have c3' : ¬ (1024 : Int) < (g.Value.size : Int) := by omega
          simp only [c3, c3', if_false, ne_eq, not_true_eq_false, if_true]
          unfold matcher_same_ask_g
          rw [sc_eql]
          simp only [Option.bind_some]
          have e : (v = g.Value) = (v.data.toList = g.Value.data.toList) := propext ba_eq
          simp only [e]
          rcases c2' with h | h
          · have : ¬ (g.Op = 2 ∨ g.Op = 4) := by omega
            rw [decide_eq_false this, if_pos h]
            cases decide (v.data.toList = g.Value.data.toList) <;> rfl
          · have : g.Op = 2 ∨ g.Op = 4 := by omega
            rw [decide_eq_true this, if_neg (by omega), if_pos h]
            cases decide (v.data.toList = g.Value.data.toList) <;> rfl
      · have c2' : ¬ (g.Op = 1 ∨ g.Op = 2) := by omega
        simp only [c2, c2', if_false]
        unfold regex_Parse_g
        simp only [Option.bind_some]
        by_cases c3 : (Rx.parse g.Value.data.toList).2.1 = 0
        · simp only [c3, if_true, ne_eq, not_true_eq_false, if_false]
          unfold matcher_like_ask_g
          rw [mmatch_p (by omega) (parse_size _) hN]
          simp only [Option.bind_some]
          have h34 : g.Op = 3 ∨ g.Op = 4 := by omega
          have n1 : ¬ g.Op = 1 := by omega
          have n2 : ¬ g.Op = 2 := by omega
          rcases h34 with h | h
          · have : ¬ (g.Op = 2 ∨ g.Op = 4) := by omega
            rw [decide_eq_false this, if_neg n1, if_neg n2, if_pos h]
            cases Mt.hits (Rx.parse g.Value.data.toList).1 v.data.toList <;> rfl
          · have : g.Op = 2 ∨ g.Op = 4 := by omega
            rw [decide_eq_true this, if_neg n1, if_neg n2, if_neg (by omega)]
            cases Mt.hits (Rx.parse g.Value.data.toList).1 v.data.toList <;> rfl
        · simp [c3]
theorem rtest_p {N : Nat} (hN : 30000 ≤ N) (g : GMatcher) (v : ByteArray) (hv : g.Op ≤ 2 ∨ v.size ≤ 10000) : r22_Test_g N g v = some (Mt.test (toM g) v) := by
  unfold r22_Test_g Mt.test
  rw [rright_p (by omega), Option.bind_some]
  simp only [cm_eql, cm_neq, cond_not, cond_dec, sc_eql, sc_neq]
  by_cases c1 : Mt.right (toM g) = 0
  case neg => simp [c1]
  simp only [c1, if_true, ne_eq, not_true_eq_false, if_false]
  have e : (v = g.Value) = (v.data.toList = g.Value.data.toList) := propext ba_eq
  simp only [e]
  have t1 : (toM g).op = g.Op := rfl
  have t2 : (toM g).val = g.Value := rfl
  rw [t1, t2]
  by_cases c2 : g.Op = 1
  · rw [if_pos c2, if_pos c2]
  by_cases c3 : g.Op = 2
  · rw [if_neg c2, if_pos c3, if_neg c2, if_pos c3]
  obtain ⟨_, o1, o2⟩ := Mt.right_ok c1
  rw [t1] at o1 o2
  rw [if_neg c2, if_neg c3, if_neg c2, if_neg c3, parse_p (by omega), Option.bind_some, rmatch_p (by omega) (parse_size _) hN]
  simp only [Option.bind_some]
  split <;> rfl
def toL (l : List GLabel) : List Mt.L := l.map fun x => ⟨x.Name, x.Value⟩
theorem mget_from (l : List GLabel) (n : ByteArray) (hl : l.length ≤ 10000) : ∀ (m k : Nat), k ≤ l.length → l.length < k + m → labels_Get_l2 l n m k = some (Mt.get (toL (l.drop k)) n) := by
  intro m
  induction m with
  | zero => intro k h1 h2; omega
  | succ m ih =>
    intro k h1 h2
    rw [labels_Get_l2]
    simp only [cm_lss, cond_dec, ll_eq, sc_eql]
    by_cases c : k < l.length
    · have k0 : ¬ (k : Int) < 0 := by omega
      rw [if_pos (by omega), at_get c, inc1 (by omega), Option.bind_some, ih (k + 1) (by omega) (by omega), List.drop_eq_getElem_cons c]
      unfold toL
      rw [List.map_cons, Mt.get]
      have e : (l[k].Name = n) = (l[k].Name.data.toList = n.data.toList) := propext ba_eq
      simp only [e, k0, if_false, Option.bind_some]
      split <;> rfl
    · rw [if_neg (by omega), List.drop_of_length_le (by omega), if_pos (by decide)]; rfl
theorem rget_from (l : List GLabel) (n : ByteArray) (hl : l.length ≤ 10000) : ∀ (m k : Nat), k ≤ l.length → l.length < k + m → r11_Get_l1 l n m k = some (Mt.get (toL (l.drop k)) n) := by
  intro m
  induction m with
  | zero => intro k h1 h2; omega
  | succ m ih =>
    intro k h1 h2
    rw [r11_Get_l1]
    simp only [cm_lss, cond_dec, ll_eq, sc_eql]
    by_cases c : k < l.length
    · rw [if_pos (by omega), at_get c, inc1 (by omega), Option.bind_some, ih (k + 1) (by omega) (by omega), List.drop_eq_getElem_cons c]
      unfold toL
      rw [List.map_cons, Mt.get]
      have e : (l[k].Name = n) = (l[k].Name.data.toList = n.data.toList) := propext ba_eq
      simp only [e, Option.bind_some]
      split <;> rfl
    · rw [if_neg (by omega), List.drop_of_length_le (by omega)]; rfl
theorem mget_p {N : Nat} (hN : 20000 ≤ N) (l : List GLabel) (n : ByteArray) (hl : l.length ≤ 10000) : labels_Get_g N l n = some (Mt.get (toL l) n) := mget_from l n hl N 0 (by omega) (by omega)
theorem rget_p {N : Nat} (hN : 20000 ≤ N) (l : List GLabel) (n : ByteArray) (hl : l.length ≤ 10000) : r11_Get_g N l n = some (Mt.get (toL l) n) := rget_from l n hl N 0 (by omega) (by omega)
end Pl
end Go.Proofs.YtpplemjjeefpdaaGreatDoor
namespace Go.Proofs.YtpplemjjeefpdaaGreatDoor
open Go
set_option linter.unusedVariables false
set_option linter.unusedSimpArgs false
namespace Sl
open Mt (M)
def firstBad : List M → Nat → Int × Nat
  | [], _ => (0, 0)
  | m :: r, i => if Mt.right m ≠ 0 then (Mt.right m, i) else firstBad r (i + 1)
def right (l : List M) : Int × Nat := if 64 < l.length then (3, 64) else firstBad l 0
def holds (l : List M) (m : List Mt.L) : Bool := l.all fun x => Mt.holds x m
end Sl
end Go.Proofs.YtpplemjjeefpdaaGreatDoor
namespace Go.Proofs.YtpplemjjeefpdaaGreatDoor
open Go Go.RowKit
set_option linter.unusedVariables false
set_option linter.unusedSimpArgs false
set_option maxRecDepth 100000
set_option maxHeartbeats 4000000
open Ab Sh
namespace Gn
def selector_Right_s (R : RF) (r : GFault) : V := .agg [fI .i64 r.E, fI .i64 r.At]
def selector_Right_l1 (N : Nat) (p0 : List GMatcher) : Nat → Int → Option GFault
| 0, _ => none
| m + 1, v1 =>
 cond (cm .lss v1 (ll (rw _ cMatcher p0)))
 ((at_ p0 v1).bind fun r2 =>
 (matcher_Right_g N r2).bind fun a3 =>
 cond (cm .neq a3 0)
 (some (⟨a3, v1⟩ : GFault))
 ((selector_Right_l1 N p0 m) (ar .add .i64 v1 1)))
 (some (⟨0, 0⟩ : GFault))
def selector_Right_g (N : Nat) (p0 : List GMatcher) : Option GFault :=
 cond (cm .gtr (ll (rw _ cMatcher p0)) 64)
 (some (⟨3, 64⟩ : GFault))
 (selector_Right_l1 N p0 N 0)
def r23_Right_s (R : RF) (r : GFault) : V := .agg [fI .i64 r.E, fI .i64 r.At]
def r23_Right_l1 (N : Nat) (p0 : List GMatcher) : Nat → Int → Option GFault
| 0, _ => none
| m + 1, v1 =>
 cond (cm .lss v1 (ll (rw _ cMatcher p0)))
 ((at_ p0 v1).bind fun r2 =>
 (r22_Right_g N r2).bind fun a3 =>
 cond (cm .neq a3 0)
 (some (⟨a3, v1⟩ : GFault))
 ((r23_Right_l1 N p0 m) (ar .add .i64 v1 1)))
 (some (⟨0, 0⟩ : GFault))
def r23_Right_g (N : Nat) (p0 : List GMatcher) : Option GFault :=
 cond (cm .gtr (ll (rw _ cMatcher p0)) 64)
 (some (⟨3, 64⟩ : GFault))
 (r23_Right_l1 N p0 N 0)
def r23_Holds_s (R : RF) (r : Bool) : V := fB r
def r23_Holds_l1 (N : Nat) (p0 : List GMatcher) (p1 : List GLabel) : Nat → Int → Option Bool
| 0, _ => none
| m + 1, v1 =>
 cond (cm .lss v1 (ll (rw _ cMatcher p0)))
 ((at_ p0 v1).bind fun r2 =>
 (r22_Holds_g N r2 p1).bind fun a3 =>
 cond (!a3)
 (some false)
 ((r23_Holds_l1 N p0 p1 m) (ar .add .i64 v1 1)))
 (some true)
def r23_Holds_g (N : Nat) (p0 : List GMatcher) (p1 : List GLabel) : Option Bool :=
 r23_Holds_l1 N p0 p1 N 0
def l23_SelectorHolds_s (R : RF) (r : Bool) : V := fB r
def l23_SelectorHolds_g (N : Nat) (p0 : List GMatcher) (p1 : List GLabel) : Option Bool :=
 (r23_Great_g N p0 p1).bind fun a1 =>
 cond (a1)
 ((l23_works_g N).bind fun a2 =>
 some a2)
 (((selector_Right_g N p0).bind fun a3 =>
 (r23_Right_g N p0).bind fun a4 =>
 cond (conj [cm .eql a3.E a4.E, cm .eql a3.At a4.At])
 ((selector_Holds_g N p0 p1).bind fun a5 =>
 (r23_Holds_g N p0 p1).bind fun a6 =>
 cond (conj [a5 == a6])
 ((l23_works_g N).bind fun a7 =>
 some a7)
 (some false))
 (some false) : Option Bool).bind fun j1 =>
 some j1)
end Gn
end Go.Proofs.YtpplemjjeefpdaaGreatDoor
namespace Go.Proofs.YtpplemjjeefpdaaGreatDoor
open Go
set_option linter.unusedVariables false
set_option linter.unusedSimpArgs false
set_option maxRecDepth 100000
open Sh Gn
namespace Pl
theorem sright_from {N : Nat} (hN : 1000 ≤ N) (l : List GMatcher) (hl : l.length ≤ 100000) : ∀ (m k : Nat), k ≤ l.length → l.length < k + m → selector_Right_l1 N l m k = some ⟨(Sl.firstBad (toMs (l.drop k)) k).1, ((Sl.firstBad (toMs (l.drop k)) k).2 : Int)⟩ := by
  intro m
  induction m with
  | zero => intro k h1 h2; omega
  | succ m ih =>
    intro k h1 h2
    rw [selector_Right_l1]
    simp only [cm_lss, cm_neq, cond_not, cond_dec, ll_eq]
    by_cases c : k < l.length
    · rw [if_pos (by omega), at_get c, inc1 (by omega), Option.bind_some, mright_p hN, Option.bind_some, List.drop_eq_getElem_cons c]
      unfold toMs
      rw [List.map_cons, Sl.firstBad]
      by_cases g : Mt.right (toM l[k]) = 0
      · rw [if_pos g, if_neg (by simp [g])]
        exact ih (k + 1) (by omega) (by omega)
      · rw [if_neg g, if_pos g]
    · rw [if_neg (by omega), List.drop_of_length_le (by omega)]
      rfl
theorem rsright_from {N : Nat} (hN : 1000 ≤ N) (l : List GMatcher) (hl : l.length ≤ 100000) : ∀ (m k : Nat), k ≤ l.length → l.length < k + m → r23_Right_l1 N l m k = some ⟨(Sl.firstBad (toMs (l.drop k)) k).1, ((Sl.firstBad (toMs (l.drop k)) k).2 : Int)⟩ := by
  intro m
  induction m with
  | zero => intro k h1 h2; omega
  | succ m ih =>
    intro k h1 h2
    rw [r23_Right_l1]
    simp only [cm_lss, cm_neq, cond_not, cond_dec, ll_eq]
    by_cases c : k < l.length
    · rw [if_pos (by omega), at_get c, inc1 (by omega), Option.bind_some, rright_p hN, Option.bind_some, List.drop_eq_getElem_cons c]
      unfold toMs
      rw [List.map_cons, Sl.firstBad]
      by_cases g : Mt.right (toM l[k]) = 0
      · rw [if_pos g, if_neg (by simp [g])]
        exact ih (k + 1) (by omega) (by omega)
      · rw [if_neg g, if_pos g]
    · rw [if_neg (by omega), List.drop_of_length_le (by omega)]
      rfl
theorem sright_p {N : Nat} (hN : 1000 ≤ N) (l : List GMatcher) : selector_Right_g N l = some ⟨(Sl.right (toMs l)).1, ((Sl.right (toMs l)).2 : Int)⟩ := by
  unfold selector_Right_g Sl.right
  have e : (toMs l).length = l.length := by unfold toMs; rw [List.length_map]
  rw [cm_gtr, cond_dec, ll_eq, e]
  by_cases c : 64 < l.length
  · rw [if_pos (by omega), if_pos c]; rfl
  · rw [if_neg (by omega), if_neg c]
    exact sright_from hN l (by omega) N 0 (by omega) (by omega)
theorem rsright_p {N : Nat} (hN : 1000 ≤ N) (l : List GMatcher) : r23_Right_g N l = some ⟨(Sl.right (toMs l)).1, ((Sl.right (toMs l)).2 : Int)⟩ := by
  unfold r23_Right_g Sl.right
  have e : (toMs l).length = l.length := by unfold toMs; rw [List.length_map]
  rw [cm_gtr, cond_dec, ll_eq, e]
  by_cases c : 64 < l.length
  · rw [if_pos (by omega), if_pos c]; rfl
  · rw [if_neg (by omega), if_neg c]
    exact rsright_from hN l (by omega) N 0 (by omega) (by omega)
theorem get_val2 (l : List GLabel) (n : ByteArray) : Mt.get (toL l) n = ByteArray.empty ∨ ∃ x ∈ l, x.Name = n ∧ Mt.get (toL l) n = x.Value := by
  induction l with
  | nil => exact .inl rfl
  | cons a r ih =>
    unfold toL at ih ⊢
    rw [List.map_cons, Mt.get]
    by_cases h : a.Name.data.toList = n.data.toList
    · rw [if_pos h]; exact .inr ⟨a, by simp, ba_eq.2 h, rfl⟩
    · rw [if_neg h]
      rcases ih with e | ⟨x, hx, hn, e⟩
      · exact .inl e
      · exact .inr ⟨x, by simp [hx], hn, e⟩
theorem mild_get {p : List GLabel} {x : GMatcher} (h : Mild p x) : x.Op ≤ 2 ∨ (Mt.get (toL p) x.Name).size ≤ 10000 := by
  rcases h.2.2 with h | h
  · exact .inl h
  · refine .inr ?_
    rcases get_val2 p x.Name with e | ⟨y, hy, hn, e⟩
    · rw [e]; decide
    · have := h y hy hn
      rw [e]; omega
theorem mholds_p {N : Nat} (hN : 30000 ≤ N) {p : List GLabel} (hp : p.length ≤ 10000) {x : GMatcher} (h : Mild p x) : matcher_Holds_g N x p = some (Mt.holds (toM x) (toL p)) := by
  unfold matcher_Holds_g Mt.holds
  rw [mget_p (by omega) p _ hp, Option.bind_some, mtest_p hN x _ (mild_get h)]; rfl
theorem rmholds_p {N : Nat} (hN : 30000 ≤ N) {p : List GLabel} (hp : p.length ≤ 10000) {x : GMatcher} (h : Mild p x) : r22_Holds_g N x p = some (Mt.holds (toM x) (toL p)) := by
  unfold r22_Holds_g Mt.holds
  rw [rget_p (by omega) p _ hp, Option.bind_some, rtest_p hN x _ (mild_get h)]; rfl
theorem sholds_from {N : Nat} (hN : 30000 ≤ N) {p : List GLabel} (hp : p.length ≤ 10000) (l : List GMatcher) (hl : l.length ≤ 10000) (h : ∀ x ∈ l, Mild p x) : ∀ (m k : Nat), k ≤ l.length → l.length < k + m → selector_Holds_l3 N l p m k = some (Sl.holds (toMs (l.drop k)) (toL p)) := by
  intro m
  induction m with
  | zero => intro k h1 h2; omega
  | succ m ih =>
    intro k h1 h2
    rw [selector_Holds_l3]
    simp only [cm_lss, cm_geq, cond_dec, ll_eq]
    by_cases c : k < l.length
    · rw [if_pos (by omega), at_get c, inc1 (by omega), Option.bind_some, mholds_p hN hp (h _ (List.getElem_mem c)), Option.bind_some, ih (k + 1) (by omega) (by omega), List.drop_eq_getElem_cons c]
      unfold toMs Sl.holds
      rw [List.map_cons, List.all_cons, decide_eq_true (show (0 : Int) ≤ k by omega)]
      cases Mt.holds (toM l[k]) (toL p) <;> rfl
    · rw [if_neg (by omega), List.drop_of_length_le (by omega)]
      rfl
theorem rsholds_from {N : Nat} (hN : 30000 ≤ N) {p : List GLabel} (hp : p.length ≤ 10000) (l : List GMatcher) (hl : l.length ≤ 10000) (h : ∀ x ∈ l, Mild p x) : ∀ (m k : Nat), k ≤ l.length → l.length < k + m → r23_Holds_l1 N l p m k = some (Sl.holds (toMs (l.drop k)) (toL p)) := by
  intro m
  induction m with
  | zero => intro k h1 h2; omega
  | succ m ih =>
    intro k h1 h2
    rw [r23_Holds_l1]
    simp only [cm_lss, cond_dec, ll_eq]
    by_cases c : k < l.length
    · rw [if_pos (by omega), at_get c, inc1 (by omega), Option.bind_some, rmholds_p hN hp (h _ (List.getElem_mem c)), Option.bind_some, ih (k + 1) (by omega) (by omega), List.drop_eq_getElem_cons c]
      unfold toMs Sl.holds
      rw [List.map_cons, List.all_cons]
      cases Mt.holds (toM l[k]) (toL p) <;> rfl
    · rw [if_neg (by omega), List.drop_of_length_le (by omega)]
      rfl
theorem sholds_p {N : Nat} (hN : 30000 ≤ N) {p : List GLabel} (hp : p.length ≤ 10000) (l : List GMatcher) (hl : l.length ≤ 10000) (h : ∀ x ∈ l, Mild p x) : selector_Holds_g N l p = some (Sl.holds (toMs l) (toL p)) := sholds_from hN hp l hl h N 0 (by omega) (by omega)
theorem rsholds_p {N : Nat} (hN : 30000 ≤ N) {p : List GLabel} (hp : p.length ≤ 10000) (l : List GMatcher) (hl : l.length ≤ 10000) (h : ∀ x ∈ l, Mild p x) : r23_Holds_g N l p = some (Sl.holds (toMs l) (toL p)) := rsholds_from hN hp l hl h N 0 (by omega) (by omega)
theorem selholds_g {N : Nat} (hN : 30000 ≤ N) (hW : l23_works_g N = some true) (l : List GMatcher) (p : List GLabel) : l23_SelectorHolds_g N l p = some true := by
  unfold l23_SelectorHolds_g
  obtain ⟨b, h1, h2⟩ := sgreat_p hN l p
  rw [h1, hW, Option.bind_some]
  cases b with
  | true => rfl
  | false =>
    obtain ⟨z1, z2, z3⟩ := h2 rfl
    rw [sright_p (by omega), rsright_p (by omega), sholds_p hN (by omega) l (by omega) z3, rsholds_p hN (by omega) l (by omega) z3]
    have b2 : ∀ b : Bool, conj [b == b] = true := fun b => by cases b <;> rfl
    simp only [Option.bind_some, _root_.cond_false, conj2, eql_self, Bool.and_self, _root_.cond_true, b2]
theorem selholds_p (l : List GMatcher) (p : List GLabel) : l23_SelectorHolds_g 200000 l p = some true := selholds_g (by omega) sworks_p l p
end Pl
end Go.Proofs.YtpplemjjeefpdaaGreatDoor
