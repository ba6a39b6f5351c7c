/- Texts that the proof leans on. -/
import Derived.Test.YtagppjldegblhaaGreatDoorK227
import Derived.Lib.AtoiAll
import Derived.Lib.Split
import Derived.Lib.SplitLaws
import Derived.Lib.Join
set_option linter.unusedVariables false
set_option linter.unusedSimpArgs false
set_option maxRecDepth 100000
set_option maxHeartbeats 4000000
namespace Go.Proofs.YtagppjldegblhaaGreatDoor
open Go
open Sh Gn
namespace Pl
theorem at_nat {α : Type} (l : List α) (i : Nat) : at_ l (i : Int) = l[i]? := by
 unfold at_; rw [if_pos (by omega)]; simp
theorem at_0 {α : Type} (l : List α) : at_ l 0 = l[0]? := at_nat l 0
theorem app_eq {α : Type} {c : α → List Ab.T} {l m : List α} (h : l.length + m.length ≤ 1000000000) : app c l m = some (l ++ m) := by unfold app; rw [if_pos h]
theorem join_from (k : Int) (parts : List Node) : ∀ (m i : Nat) (acc : List Node), i ≤ parts.length → parts.length < i + m → parts.length ≤ 1000000 → acc.length + Node.sizes (parts.drop i) ≤ 1000000 →
 r13_join_l1 k parts m i acc = some (match acc ++ Rx.flat k (parts.drop i) with | [n] => n | l => .mk k CSet.empty l 0 0) := by
 intro m
 induction m with
 | zero => intro i acc h1 h2; omega
 | succ m ih =>
   intro i acc h1 h2 h4 h3
   unfold r13_join_l1
   simp only [cm_lss, ll_eq, cond_dec, at_nat, cm_eql, bind_if]
   by_cases c : i < parts.length
   · have c' : (i : Int) < (parts.length : Int) := by omega
     have e1 := inc1 (show i ≤ 100000000 by omega)
     rw [List.drop_eq_getElem_cons c] at h3 ⊢
     rw [Node.sizes_cons] at h3
     have hk := Node.kids_le parts[i]
     have hp := Node.size_pos parts[i]
     simp only [c', if_true, List.getElem?_eq_getElem c, Option.bind_some, e1]
     by_cases g : (parts[i]).kind = k
     · simp only [g, if_true, app_eq (show acc.length + (parts[i]).kids.length ≤ 1000000000 by omega), Option.bind_some]
       have hz := Node.size_eq parts[i]
       have hl := Node.length_le_sizes (parts[i]).kids
       rw [ih (i + 1) _ (by omega) (by omega) h4 (by rw [List.length_append]; omega)]
       rw [Rx.flat, if_pos g, List.append_assoc]
     · simp only [g, if_false, app_eq (show acc.length + [parts[i]].length ≤ 1000000000 by simp only [List.length_singleton]; omega), Option.bind_some]
       rw [ih (i + 1) _ (by omega) (by omega) h4 (by rw [List.length_append, List.length_singleton]; omega)]
       rw [Rx.flat, if_neg g, List.append_assoc]; rfl
   · have c' : ¬ (i : Int) < (parts.length : Int) := by omega
     simp only [c', if_false]
     rw [List.drop_of_length_le (by omega), Rx.flat, List.append_nil]
     by_cases g : acc.length = 1
     · obtain ⟨n, rfl⟩ := List.length_eq_one_iff.1 g
       simp [at_0]
     · have g' : ¬ (acc.length : Int) = 1 := by omega
       simp only [g', if_false]
       match acc, g with
       | [], _ => rfl
       | [a], g => exact absurd rfl g
       | a :: b :: r, _ => rfl
theorem join_p (k : Int) {parts : List Node} {N : Nat} (h : parts.length < N) (hz : Node.sizes parts ≤ 1000000) : r13_join_g N k parts = some (Rx.join k parts) := by
 have hl := Node.length_le_sizes parts
 unfold r13_join_g Rx.join
 exact join_from k parts N 0 [] (by omega) (by omega) (by omega) (by simpa using hz)
section
variable {s : ByteArray} {i : Nat} {N : Nat} {atm : Nat → Res Node} {rec : ByteArray → Int → Int → Option Gr13_P} {d : Int}
theorem cat_from (hN : 2 * s.size + 20 ≤ N) (hs : s.size ≤ 100000) (ha : ∀ i : Nat, i ≤ s.size → RN (atm i) (rec s i d)) (hf : ∀ i, i ≤ s.data.toList.length → Fine s.data.toList i (atm i)) (hl : Rx.Lean2 s.data.toList atm) :
 ∀ (m f j : Nat) (ns : List Node), j ≤ s.size → s.size < j + f → s.size < j + m → Node.sizes ns ≤ 2 * j → ns.length ≤ j →
 RN (match Rx.pieces s.data.toList atm f ns j with | .ok ms p => .ok (Rx.join 2 ms) p | .bad e p => .bad e p | .out => .out) (r13_cat_l1 rec N s d m j ns) := by
 intro m
 induction m with
 | zero => intro f j ns h1 h2 h3; omega
 | succ m ih =>
   intro f j ns h1 h2 h3 h4 h5
   obtain ⟨f, rfl⟩ : ∃ g, f = g + 1 := ⟨f - 1, by omega⟩
   unfold r13_cat_l1 Rx.pieces
   simp only [cm_lss, sl_eq, cond_dec, bind_if, cm_neq, cond_not]
   have stop : RN (.ok (Rx.join 2 ns) j) ((r13_join_g N 2 ns).bind fun a6 => some (⟨a6, CSet.empty, false, (j : Int), (⟨0, 0⟩ : GFault)⟩ : Gr13_P)) := by
    rw [join_p 2 (by omega) (by omega)]; exact rfl
   by_cases c : j < s.size
   · have c' : (j : Int) < (s.size : Int) := by omega
     have hb := pk_range c
     have hn : ¬ Rx.pk s.data.toList j = -1 := by omega
     simp only [c', if_true, sin_in c, sa_pk c, _root_.cond_true, hn, false_or]
     by_cases c1 : Rx.pk s.data.toList j = 124
     · simp only [c1, if_true, true_or, Option.bind_some, cond_false]; exact stop
     by_cases c2 : Rx.pk s.data.toList j = 41
     · simp only [c1, c2, if_true, if_false, or_true, Option.bind_some, cond_false, decide_true, Bool.not_true]; exact stop
     simp only [c1, c2, if_false, or_false, Option.bind_some, decide_false, Bool.not_false, _root_.cond_true]
     have hP := piece_p (N := N) (show s.size + 20 ≤ N by omega) hs h1 (ha j h1) (hf j (by rw [size_list]; omega))
     have F := fine_piece s.data.toList atm j (hf j (by rw [size_list]; omega))
     cases hr : Rx.piece s.data.toList atm j with
     | out => rw [hr] at F; exact F.elim
     | bad e p =>
       rw [hr] at hP
       obtain ⟨hz, x, hx, hf'⟩ := hP
       have he : ¬ x.F.E = 0 := by rw [hf']; exact hz
       simp only [hx, Option.bind_some, he, if_false]
       exact ⟨hz, x, rfl, hf'⟩
     | ok n p =>
       rw [hr] at hP
       have hP : r13_piece_g rec N s j d = some (okN n p) := hP
       have hp := Rd.fine_le F hr
       rw [size_list] at hp
       have hsz := Rx.size_piece hl hf j n p (by rw [size_list]; omega) hr
       simp only [hP, Option.bind_some, okN, if_true, app_eq (show ns.length + [n].length ≤ 1000000000 by simp only [List.length_singleton]; omega)]
       exact ih f p (ns ++ [n]) hp.2 (by omega) (by omega) (by rw [Node.sizes_append, Node.sizes_cons, Node.sizes_nil]; omega) (by rw [List.length_append, List.length_singleton]; omega)
   · have c' : ¬ (j : Int) < (s.size : Int) := by omega
     simp only [c', if_false, pk_out c, true_or, if_true, Option.bind_some, cond_false]
     exact stop
theorem cat_p (hN : 2 * s.size + 20 ≤ N) (hs : s.size ≤ 100000) (ha : ∀ i : Nat, i ≤ s.size → RN (atm i) (rec s i d)) (hf : ∀ i, i ≤ s.data.toList.length → Fine s.data.toList i (atm i)) (hl : Rx.Lean2 s.data.toList atm) (hi : i ≤ s.size) :
 RN (Rx.cat s.data.toList atm i) (r13_cat_g rec N s i d) := by
 unfold r13_cat_g Rx.cat
 exact cat_from hN hs ha hf hl N (s.data.toList.length + 1) i [] hi (by rw [size_list]; omega) (by omega) (by rw [Node.sizes_nil]; omega) (by simp)
theorem alt_from (hN : 2 * s.size + 20 ≤ N) (hs : s.size ≤ 100000) (ha : ∀ i : Nat, i ≤ s.size → RN (atm i) (rec s i d)) (hf : ∀ i, i ≤ s.data.toList.length → Fine s.data.toList i (atm i)) (hl : Rx.Lean2 s.data.toList atm) :
 ∀ (m f j : Nat) (ns : List Node), j ≤ s.size → s.size < j + f → s.size < j + m → Node.sizes ns ≤ 2 * j + 1 → ns.length ≤ j + 1 → ∀ v4 v5 v6 v7 v8 v9 v10 v12 v13,
 RN (match Rx.cats s.data.toList atm f ns j with | .ok ms p => .ok (Rx.join 3 ms) p | .bad e p => .bad e p | .out => .out) (r13_alt_l1 rec N s d m v4 v5 v6 v7 v8 v9 v10 j v12 v13 ns) := by
 intro m
 induction m with
 | zero => intro f j ns h1 h2 h3; omega
 | succ m ih =>
   intro f j ns h1 h2 h3 h4 h5 v4 v5 v6 v7 v8 v9 v10 v12 v13
   obtain ⟨f, rfl⟩ : ∃ g, f = g + 1 := ⟨f - 1, by omega⟩
   unfold r13_alt_l1 Rx.cats
   rw [is_p (by decide), inc1 (show j ≤ 100000000 by omega)]
   simp only [Option.bind_some, cond_dec, cm_neq, cond_not]
   by_cases c : Rx.pk s.data.toList j = 124
   · have hj : j < s.size := Nat.lt_of_not_le fun g => by rw [pk_out (by omega)] at c; cases c
     simp only [c, if_true]
     have hP := cat_p hN hs ha hf hl (show j + 1 ≤ s.size by omega)
     have F := fine_cat s.data.toList atm hf (j + 1) (by rw [size_list]; omega)
     cases hr : Rx.cat s.data.toList atm (j + 1) with
     | out => rw [hr] at F; exact F.elim
     | bad e p =>
       rw [hr] at hP
       obtain ⟨hz, x, hx, hf'⟩ := hP
       have he : ¬ x.F.E = 0 := by rw [hf']; exact hz
       simp only [hx, Option.bind_some, he, if_false]
       exact ⟨hz, x, rfl, hf'⟩
     | ok n p =>
       rw [hr] at hP F
       have hP : r13_cat_g rec N s ((j + 1 : Nat) : Int) d = some (okN n p) := hP
       have hp : j + 1 ≤ p ∧ p ≤ s.data.toList.length := F
       rw [size_list] at hp
       have hsz := Rx.size_cat hl hf (by rw [size_list]; omega) hr
       simp only [hP, Option.bind_some, okN, if_true, app_eq (show ns.length + [n].length ≤ 1000000000 by simp only [List.length_singleton]; omega)]
       exact ih f p (ns ++ [n]) hp.2 (by omega) (by omega) (by rw [Node.sizes_append, Node.sizes_cons, Node.sizes_nil]; omega) (by rw [List.length_append, List.length_singleton]; omega) _ _ _ _ _ _ _ _ _
   · simp only [c, if_false]
     rw [join_p 3 (by omega) (by omega)]; exact rfl
theorem alt_p (hN : 2 * s.size + 20 ≤ N) (hs : s.size ≤ 100000) (ha : ∀ i : Nat, i ≤ s.size → RN (atm i) (rec s i d)) (hf : ∀ i, i ≤ s.data.toList.length → Fine s.data.toList i (atm i)) (hl : Rx.Lean2 s.data.toList atm) (hi : i ≤ s.size) :
 RN (Rx.alt s.data.toList atm i) (r13_alt_g rec N s i d) := by
 unfold r13_alt_g
 have hP := cat_p hN hs ha hf hl hi
 have F := fine_cat s.data.toList atm hf i (by rw [size_list]; omega)
 cases hr : Rx.cat s.data.toList atm i with
 | out => rw [hr] at F; exact F.elim
 | bad e p =>
   rw [Rd.alt_bad hr]
   rw [hr] at hP
   obtain ⟨hz, x, hx, hf'⟩ := hP
   have he : ¬ x.F.E = 0 := by rw [hf']; exact hz
   simp only [hx, Option.bind_some, cm_neq, cond_not, cond_dec, he, if_false, _root_.cond_true]
   exact ⟨hz, x, rfl, hf'⟩
 | ok n p =>
   rw [hr] at hP F
   have hP : r13_cat_g rec N s i d = some (okN n p) := hP
   have hp : i ≤ p ∧ p ≤ s.data.toList.length := F
   rw [size_list] at hp
   have hsz := Rx.size_cat hl hf (by rw [size_list]; omega) hr
   have g1 : r13_is_g s p 124 = some (decide (Rx.pk s.data.toList p = 124)) := is_p (by decide)
   simp only [hP, Option.bind_some, okN, cm_neq, cond_not, cond_dec, if_true, g1]
   have key := alt_from hN hs ha hf hl N (s.data.toList.length + 1) p [n] hp.2 (by rw [size_list]; omega) (by omega) (by rw [Node.sizes_cons, Node.sizes_nil]; omega) (by simp) n.kind n.set n.kids n.min n.max CSet.empty false 0 0
   by_cases c : Rx.pk s.data.toList p = 124
   · simp only [c, if_true, decide_true, Bool.not_true, cond_false]
     have S := Rx.size_cats hl hf (s.data.toList.length + 1) [n] p
     have Fc := fine_cats s.data.toList atm hf (s.data.toList.length + 1) [n] p (by rw [size_list]; omega) (by rw [size_list]; omega)
     cases hc : Rx.cats s.data.toList atm (s.data.toList.length + 1) [n] p with
     | out => rw [hc] at Fc; exact Fc.elim
     | bad e q =>
       rw [Rd.alt_bad2 hr hc]
       rw [hc] at key
       exact key
     | ok ms q =>
       have hm : ms.length ≠ 1 := by
        rcases S ms q (by rw [size_list]; omega) hc with ⟨h1, h2⟩ | ⟨h1 | h1, _⟩
        · exfalso
          have hq : p < s.size := Nat.lt_of_not_le fun g => by rw [pk_out (by omega)] at c; cases c
          rw [Rx.cats, if_pos c] at hc
          cases hr' : Rx.cat s.data.toList atm (p + 1) with
          | bad e z => rw [hr'] at hc; cases hc
          | out => rw [hr'] at hc; cases hc
          | ok n' z =>
            rw [hr'] at hc
            have F' := fine_cat s.data.toList atm hf (p + 1) (by rw [size_list]; omega)
            rw [hr'] at F'
            have F' : p + 1 ≤ z ∧ z ≤ s.data.toList.length := F'
            have G := fine_cats s.data.toList atm hf s.data.toList.length ([n] ++ [n']) z F'.2 (by omega)
            rw [show Rx.cats s.data.toList atm s.data.toList.length ([n] ++ [n']) z = .ok ms q from hc] at G
            have G : z ≤ q ∧ q ≤ s.data.toList.length := G
            omega
        · omega
        · cases h1
       rw [Rd.alt_many hr hc hm]
       rw [hc] at key
       exact key
   · simp only [c, if_false, decide_false, Bool.not_false, _root_.cond_true]
     rw [Rd.alt_one hr (by rw [Rx.cats, if_neg c])]
     exact rfl
end
end Pl
end Go.Proofs.YtagppjldegblhaaGreatDoor
namespace Go.Proofs.YtagppjldegblhaaGreatDoor
open Go
open Sh Gn
namespace Pl
theorem wrong_any (b : Int) (h : 0 ≤ b) : ((ByteArray.mk #[41, 93, 123, 125, 124, 42, 43, 63]).data.toList.any fun x => decide ((x.toNat : Int) = b)) = Rx.wrongAtom b := by
 rw [Bool.eq_iff_iff, Rd.wrong_iff]
 simp
 omega
section
variable {s : ByteArray} {i : Nat} {N : Nat}
theorem atom_s (hN : 2 * s.size + 20 ≤ N) (hs : s.size ≤ 100000) (dd : Nat) (hd : dd ≤ 16) (hi : i ≤ s.size) (H : ∀ d', dd = d' + 1 → ∀ i : Nat, i ≤ s.size → RN (Rx.atom s.data.toList d' i) (r13_atom_g N s i (16 - (d' : Int)))) :
 RN (Rx.atom s.data.toList dd i) (r13_atom_g (N + 1) s i (16 - (dd : Int))) := by
 unfold r13_atom_g
 simp only [cm_geq, sl_eq, cond_dec]
 by_cases c : i < s.size
 · have c' : ¬ (s.size : Int) ≤ (i : Int) := by omega
   have hb := pk_range c
   have e1 := inc1 (show i ≤ 100000000 by omega)
   simp only [c', if_false, sin_in c, sa_pk c, _root_.cond_true, among_p (Rx.pk s.data.toList i) (ByteArray.mk #[41, 93, 123, 125, 124, 42, 43, 63]) (N := N) (by decide) (show 8 < N by omega), wrong_any _ hb.1, Option.bind_some, bind_self, cm_eql, cond_dec, e1]
   by_cases w : Rx.wrongAtom (Rx.pk s.data.toList i) = true
   · rw [Rd.atom_wrong w]
     simp only [w, _root_.cond_true]
     exact oth_p
   · have w' : Rx.wrongAtom (Rx.pk s.data.toList i) = false := by simpa using w
     simp only [w', cond_false]
     by_cases c1 : Rx.pk s.data.toList i = 40
     · simp only [c1, if_true]
       cases dd with
       | zero =>
         rw [Rd.atom_0 w c1]
         have : (16 : Int) - ((0 : Nat) : Int) = 16 := by decide
         simp only [this, if_true]
         exact ⟨by decide, _, rfl, rfl⟩
       | succ d' =>
         have hne : ¬ (16 : Int) - ((d' + 1 : Nat) : Int) = 16 := by omega
         have e2 : ar .add .i64 ((16 : Int) - ((d' + 1 : Nat) : Int)) 1 = 16 - (d' : Int) := by rw [ar_add (by omega) (by omega)]; omega
         simp only [hne, if_false, e2]
         have hP := alt_p (N := N) hN hs (H d' rfl) (fun i hi => fine_atom s.data.toList d' i hi) (Rx.size_atom s.data.toList d') (show i + 1 ≤ s.size by omega)
         have F := fine_alt s.data.toList _ (fun i hi => fine_atom s.data.toList d' i hi) (i + 1) (by rw [size_list]; omega)
         rw [Rx.atom, if_neg w, if_pos c1]
         cases hr : Rx.alt s.data.toList (Rx.atom s.data.toList d') (i + 1) with
         | out => rw [hr] at F; exact F.elim
         | bad e p =>
           rw [hr] at hP
           obtain ⟨hz, x, hx, hf⟩ := hP
           have he : ¬ x.F.E = 0 := by rw [hf]; exact hz
           simp only [hx, Option.bind_some, he, if_false, cond_false]
           exact ⟨hz, _, rfl, hf⟩
         | ok n p =>
           rw [hr] at hP F
           have hP : r13_alt_g (r13_atom_g N) N s ((i + 1 : Nat) : Int) (16 - (d' : Int)) = some (okN n p) := hP
           have hp : i + 1 ≤ p ∧ p ≤ s.data.toList.length := F
           rw [size_list] at hp
           have g1 : r13_is_g s p 41 = some (decide (Rx.pk s.data.toList p = 41)) := is_p (by decide)
           have e3 := inc1 (show p ≤ 100000000 by omega)
           simp only [hP, Option.bind_some, okN, if_true, g1, e3]
           by_cases c2 : Rx.pk s.data.toList p = 41
           · simp only [c2, if_true, decide_true, Bool.not_true, cond_false]; rfl
           · simp only [c2, if_false, decide_false, Bool.not_false, _root_.cond_true]; exact oth_p
     by_cases c2 : Rx.pk s.data.toList i = 46
     · rw [Rd.atom_46 w c2]
       simp only [c1, c2, if_true, if_false, between_p (a := 0) (b := 255) (by decide) (by decide), Option.bind_some]
       rfl
     by_cases c3 : Rx.pk s.data.toList i = 91
     · simp only [c1, c2, c3, if_true, if_false]
       have h := class_p (s := s) (i := i + 1) (show s.size + 20 ≤ N by omega) hs (by omega)
       have F := fine_cls s.data.toList (i + 1) (by rw [size_list]; omega)
       cases hr : Rx.cls s.data.toList (i + 1) with
       | out => rw [hr] at F; exact F.elim
       | bad e p => rw [hr] at h; rw [Rd.atom_clsbad w c3 hr]; exact h
       | ok S p => rw [hr] at h; rw [Rd.atom_cls w c3 hr]; exact h
     by_cases c4 : Rx.pk s.data.toList i = 92
     · simp only [c1, c2, c3, c4, if_true, if_false]
       have h := esc_p (s := s) (i := i) (show 20 ≤ N by omega) (by omega) (by omega)
       have F := fine_esc s.data.toList i
       cases hr : Rx.esc s.data.toList i with
       | out => rw [hr] at F; exact F.elim
       | bad e p =>
         rw [hr] at h
         obtain ⟨hz, x, hx, hf⟩ := h
         have he : ¬ x.F.E = 0 := by rw [hf]; exact hz
         rw [Rd.atom_escbad w c4 hr]
         simp only [hx, Option.bind_some, cm_neq, cond_not, cond_dec, he, if_false]
         exact ⟨hz, x, rfl, hf⟩
       | ok a p =>
         rw [hr] at h
         have h : r13_escape_g N s i = some (okS a.1 a.2 p) := h
         rw [Rd.atom_esc w c4 hr]
         simp only [h, okS, Option.bind_some, cm_neq, cond_not, cond_dec, if_true]
         rfl
     · rw [Rd.atom_else w c1 c2 c3 c4]
       simp only [c1, c2, c3, c4, if_false]
       have ec : cv .i64 (Rx.pk s.data.toList i) = Rx.pk s.data.toList i := cv_i64 (by omega) (by omega)
       rw [ec, between_p hb hb]
       exact rfl
 · have c' : (s.size : Int) ≤ (i : Int) := by omega
   simp only [c', if_true, Option.bind_some, _root_.cond_true]
   have w : Rx.wrongAtom (Rx.pk s.data.toList i) = true := by rw [pk_out c]; rfl
   rw [Rd.atom_wrong w, bind_self]
   exact oth_p
theorem atom_p (hs : s.size ≤ 100000) : ∀ (dd N : Nat), 2 * s.size + 20 + dd < N → dd ≤ 16 → ∀ i : Nat, i ≤ s.size → RN (Rx.atom s.data.toList dd i) (r13_atom_g N s i (16 - (dd : Int))) := by
 intro dd
 induction dd with
 | zero =>
   intro N hN hd i hi
   obtain ⟨N, rfl⟩ : ∃ M, N = M + 1 := ⟨N - 1, by omega⟩
   exact atom_s (by omega) hs 0 hd hi fun d' h => by omega
 | succ dd ih =>
   intro N hN hd i hi
   obtain ⟨N, rfl⟩ : ∃ M, N = M + 1 := ⟨N - 1, by omega⟩
   exact atom_s (by omega) hs (dd + 1) hd hi fun d' h => by
    obtain rfl : dd = d' := by omega
    exact ih N (by omega) (by omega)
theorem parse_p (hN : 1000 ≤ N) : r13_Parse_g N s = some ((Rx.parse s.data.toList).1, ⟨(Rx.parse s.data.toList).2.1, ((Rx.parse s.data.toList).2.2 : Int)⟩) := by
 unfold r13_Parse_g
 simp only [cm_gtr, sl_eq, cond_dec]
 by_cases c : 256 < s.size
 · have c' : (256 : Int) < (s.size : Int) := by omega
   simp only [c', if_true]
   rw [Rx.parse, if_pos (by rw [size_list]; omega)]
   rfl
 · have c' : ¬ (256 : Int) < (s.size : Int) := by omega
   have hl : s.data.toList.length ≤ 256 := by rw [size_list]; omega
   simp only [c', if_false]
   have hP := alt_p (s := s) (i := 0) (N := N) (atm := Rx.atom s.data.toList 16) (rec := r13_atom_g N) (d := 0) (by omega) (by omega) (atom_p (by omega) 16 N (by omega) (by omega)) (fun i hi => fine_atom s.data.toList 16 i hi) (Rx.size_atom s.data.toList 16) (by omega)
   have F := fine_alt s.data.toList _ (fun i hi => fine_atom s.data.toList 16 i hi) 0 (by omega)
   cases hr : Rx.alt s.data.toList (Rx.atom s.data.toList 16) 0 with
   | out => rw [hr] at F; exact F.elim
   | bad e p =>
     rw [hr] at hP
     obtain ⟨hz, x, hx, hf⟩ := hP
     have hx : r13_alt_g (r13_atom_g N) N s 0 0 = some x := hx
     have he : ¬ x.F.E = 0 := by rw [hf]; exact hz
     have hz' : ¬ e = 0 := hz
     simp only [hx, Option.bind_some, cm_eql, cm_neq, cond_not, cond_dec, if_false, cond_false, Rd.par_bad hl hr, hf, hz']
     rfl
   | ok n p =>
     rw [hr] at hP F
     have hP : r13_alt_g (r13_atom_g N) N s 0 0 = some (okN n p) := hP
     have hp : 0 ≤ p ∧ p ≤ s.data.toList.length := F
     rw [size_list] at hp
     simp only [hP, Option.bind_some, okN, cm_eql, cm_neq, cm_lss, cond_not, cond_dec, if_true]
     by_cases c2 : p < s.size
     · have c2' : (p : Int) < (s.size : Int) := by omega
       obtain ⟨e, q, h1, h2, x, h3, h4⟩ := other_p (s := s) (i := p) (α := Node)
       have h2' : ¬ e = 0 := h2
       simp only [c2', if_true, decide_true, _root_.cond_true, h3, Option.bind_some, if_false, Rd.par_more hl hr (by rw [size_list]; exact c2) h1, h4, h2']
       rfl
     · have c2' : ¬ (p : Int) < (s.size : Int) := by omega
       simp only [c2', if_false, decide_false, cond_false, Option.bind_some, if_true, Rd.par_ok hl hr (by rw [size_list]; exact c2)]
       cases n; rfl
end
end Pl
end Go.Proofs.YtagppjldegblhaaGreatDoor
namespace Go.Proofs.YtagppjldegblhaaGreatDoor.Nm
def letterB (c : Int) : Bool := c == 95 || (decide (97 ≤ c) && decide (c ≤ 122)) || (decide (65 ≤ c) && decide (c ≤ 90))
def digitB (c : Int) : Bool := decide (48 ≤ c) && decide (c ≤ 57)
def signB (c : Int) (first : Bool) : Bool := letterB c || (!first && digitB c)
def wsignB (c : Int) (first : Bool) : Bool := (decide (97 ≤ c) && decide (c ≤ 122)) || (!first && (digitB c || c == 45))
theorem letterB_lt {c : Int} (h : letterB c = true) : 0 ≤ c ∧ c < 128 := by
 simp [letterB] at h; omega
theorem digitB_lt {c : Int} (h : digitB c = true) : 0 ≤ c ∧ c < 128 := by
 simp [digitB] at h; omega
theorem signB_lt {c : Int} {f : Bool} (h : signB c f = true) : 0 ≤ c ∧ c < 128 := by
 simp only [signB, Bool.or_eq_true, Bool.and_eq_true] at h
 rcases h with h | ⟨_, h⟩
 · exact letterB_lt h
 · exact digitB_lt h
theorem wsignB_lt {c : Int} {f : Bool} (h : wsignB c f = true) : 0 ≤ c ∧ c < 128 := by
 simp [wsignB, digitB] at h; omega
def run (g : Int → Bool → Bool) : Bool → List UInt8 → Nat
 | _, [] => 0
 | f, c :: r => if g c.toNat f then run g false r + 1 else 0
def allB (g : Int → Bool → Bool) (l : List UInt8) : Bool := run g true l == l.length
def labelB (l : List UInt8) : Bool := decide (1 ≤ l.length) && decide (l.length ≤ 32) && allB signB l
def wordB (l : List UInt8) : Bool := decide (1 ≤ l.length) && decide (l.length ≤ 32) && allB wsignB l
end Go.Proofs.YtagppjldegblhaaGreatDoor.Nm
namespace Go.Proofs.YtagppjldegblhaaGreatDoor
open Go Go.RowKit
open Sh Gn
namespace Pl
theorem letter_p (c : Int) : name_letter_g c = some (Nm.letterB c) := by
 unfold name_letter_g Nm.letterB
 simp only [cm_eql, cm_leq, cond_dec, bind_self]
 by_cases h1 : c = 95
 · subst h1; rfl
 · by_cases h2 : 97 ≤ c <;> by_cases h3 : c ≤ 122 <;> by_cases h4 : 65 ≤ c <;> by_cases h5 : c ≤ 90 <;> simp [h1, h2, h3, h4, h5]
theorem digit_p (c : Int) : name_digit_g c = some (Nm.digitB c) := by
 unfold name_digit_g Nm.digitB
 simp only [cm_eql, cm_leq, cond_dec, bind_self]
 by_cases h2 : 48 ≤ c <;> by_cases h3 : c ≤ 57 <;> simp [h2, h3]
theorem rsign_p (c : Int) (f : Bool) : r09_sign_g c f = some (Nm.signB c f) := by
 unfold r09_sign_g Nm.signB Nm.letterB Nm.digitB
 simp only [cm_eql, cm_leq, cm_geq, cond_dec, cond_not, bind_self]
 by_cases h1 : c = 95
 · subst h1; rfl
 · by_cases h2 : 97 ≤ c <;> by_cases h3 : c ≤ 122 <;> by_cases h4 : 65 ≤ c <;> by_cases h5 : c ≤ 90 <;> by_cases h6 : 48 ≤ c <;> by_cases h7 : c ≤ 57 <;> cases f <;> simp [h1, h2, h3, h4, h5, h6, h7]
def runAt (s : ByteArray) (f : Bool) (k : Nat) : Nat := Nm.run Nm.signB f (s.data.toList.drop k)
section
variable {s : ByteArray}
theorem runAt_end {k : Nat} {f : Bool} (h : ¬ k < s.size) : runAt s f k = 0 := by
 unfold runAt; rw [List.drop_of_length_le (by rw [size_list]; omega)]; rfl
theorem runAt_in {k : Nat} {f : Bool} (h : k < s.size) : runAt s f k = if Nm.signB (s[k].toNat) f then runAt s false (k + 1) + 1 else 0 := by
 unfold runAt
 rw [List.drop_eq_getElem_cons (by rw [size_list]; exact h)]
 rfl
theorem dec_p (k : Nat) (h : k < s.size) (f : Bool) : Nm.signB (s[k].toNat) f = Nm.signB (Utf8.decode s k).1 f ∧ (Nm.signB (Utf8.decode s k).1 f = true → (Utf8.decode s k).2 = 1) := by
 by_cases ha : (s[k]'h).toNat < 128
 · rw [decode_ascii s k h ha]; exact ⟨rfl, fun _ => rfl⟩
 · have hd := decode_high s k h (by omega)
   have e1 : Nm.signB (Utf8.decode s k).1 f = false := by
    cases e : Nm.signB (Utf8.decode s k).1 f with
    | false => rfl
    | true => have := Nm.signB_lt e; omega
   have e2 : Nm.signB (s[k].toNat) f = false := by
    cases e : Nm.signB (s[k].toNat) f with
    | false => rfl
    | true => have := Nm.signB_lt e; omega
   exact ⟨by rw [e1, e2], fun e => by rw [e1] at e; cases e⟩
theorem ask_p (c : Int) (k : Nat) : ((name_letter_g c).bind fun a4 => cond (!a4) (cond (cm .eql (k : Int) 0) (some true) ((name_digit_g c).bind fun a5 => some !a5)) (some false)) = some (!Nm.signB c (k == 0)) := by
 rw [letter_p, digit_p]
 simp only [Option.bind_some, cond_not, cm_eql, cond_dec]
 unfold Nm.signB
 cases k with
 | zero => cases Nm.letterB c <;> rfl
 | succ k =>
   have : ¬ ((k + 1 : Nat) : Int) = 0 := by omega
   simp only [this, if_false]
   have e : (k + 1 == 0) = false := rfl
   rw [e]
   cases Nm.letterB c <;> rfl
theorem label_from : ∀ (m k : Nat), k ≤ s.size → s.size < k + m → name_Label_l1 s m k = some (decide (runAt s (k == 0) k = s.size - k)) := by
 intro m
 induction m with
 | zero => intro k h1 h2; omega
 | succ m ih =>
   intro k h1 h2
   unfold name_Label_l1 nx
   rw [Int.toNat_natCast]
   by_cases c : k < s.size
   · rw [if_pos c]; dsimp only; rw [ask_p, runAt_in c]
     obtain ⟨e1, e2⟩ := dec_p (s := s) k c (k == 0)
     rw [e1]
     cases g : Nm.signB (Utf8.decode s k).1 (k == 0) with
     | false =>
       simp only [Option.bind_some, Bool.not_false, _root_.cond_true, Bool.false_eq_true, if_false]
       have : ¬ 0 = s.size - k := by omega
       rw [decide_eq_false this]
     | true =>
       have h3 : (k : Int) + ((Utf8.decode s k).2 : Int) = ((k + 1 : Nat) : Int) := by rw [e2 g]; rfl
       simp only [Option.bind_some, Bool.not_true, cond_false, if_true]
       rw [h3, ih (k + 1) (by omega) (by omega)]
       have e : (k + 1 == 0) = false := rfl
       rw [e]
       congr 1
       exact decide_eq_decide.2 (by omega)
   · rw [if_neg c, runAt_end c, decide_eq_true (by omega)]
theorem rlabel_from (hs : s.size ≤ 100000) : ∀ (m k : Nat), k ≤ s.size → s.size < k + m → r09_Label_l1 s m k = some (decide (runAt s (k == 0) k = s.size - k)) := by
 intro m
 induction m with
 | zero => intro k h1 h2; omega
 | succ m ih =>
   intro k h1 h2
   unfold r09_Label_l1
   rw [cm_lss, sl_eq, cond_dec]
   by_cases c : k < s.size
   · have e0 : (cm .eql (k : Int) 0) = (k == 0) := by rw [cm_eql]; cases k <;> simp; omega
     have e1 := inc1 (show k ≤ 100000000 by omega)
     have ea : sa s (k : Int) = (s[k].toNat : Int) := by
      show ((s.data.getD _ 0).toNat : Int) = _
      rw [Int.toNat_natCast, Array.getD_eq_getD_getElem?, Array.getElem?_eq_getElem c]; rfl
     rw [if_pos (by omega), sin_in c, _root_.cond_true, rsign_p, e0, e1, ea, runAt_in c]
     cases g : Nm.signB (s[k].toNat) (k == 0) with
     | false =>
       simp only [Option.bind_some, Bool.not_false, _root_.cond_true, Bool.false_eq_true, if_false]
       have : ¬ 0 = s.size - k := by omega
       rw [decide_eq_false this]
     | true =>
       simp only [Option.bind_some, Bool.not_true, cond_false, if_true]
       rw [ih (k + 1) (by omega) (by omega)]
       have e : (k + 1 == 0) = false := rfl
       rw [e]
       congr 1
       exact decide_eq_decide.2 (by omega)
   · rw [if_neg (by omega), runAt_end c, decide_eq_true (by omega)]
def lab (s : ByteArray) : Bool := decide (1 ≤ s.size ∧ s.size ≤ 32 ∧ runAt s true 0 = s.size)
theorem label_p {N : Nat} (hN : 1000 ≤ N) : name_Label_g N s = some (lab s) := by
 unfold name_Label_g lab
 rw [sc_eql, cm_gtr, cond_dec, sl_eq]
 by_cases c : 1 ≤ s.size
 · have c' : ¬ s = ByteArray.empty := fun e => by subst e; exact absurd c (by decide)
   rw [if_neg c']
   by_cases c2 : s.size ≤ 32
   · have : ¬ (32 : Int) < (s.size : Int) := by omega
     rw [decide_eq_false this]
     simp only [Option.bind_some, cond_false]
     rw [show (0 : Int) = ((0 : Nat) : Int) from rfl, label_from N 0 (by omega) (by omega)]
     simp [c, c2]
   · have : (32 : Int) < (s.size : Int) := by omega
     rw [decide_eq_true this]
     simp [c2]
 · have c' : s = ByteArray.empty := by
    apply ByteArray.ext
    apply Array.eq_empty_of_size_eq_zero
    show s.size = 0
    omega
   rw [if_pos c']
   simp [c]
theorem rlabel_p {N : Nat} (hN : 1000 ≤ N) : r09_Label_g N s = some (lab s) := by
 unfold r09_Label_g lab
 rw [cm_gtr, cm_lss, cond_dec, sl_eq]
 by_cases c : 1 ≤ s.size
 · rw [if_neg (by omega)]
   by_cases c2 : s.size ≤ 32
   · have : ¬ (32 : Int) < (s.size : Int) := by omega
     rw [decide_eq_false this]
     simp only [Option.bind_some, cond_false]
     rw [show (0 : Int) = ((0 : Nat) : Int) from rfl, rlabel_from (by omega) N 0 (by omega) (by omega)]
     simp [c, c2]
   · have : (32 : Int) < (s.size : Int) := by omega
     rw [decide_eq_true this]
     simp [c2]
 · rw [if_pos (by omega)]
   simp [c]
end
end Pl
end Go.Proofs.YtagppjldegblhaaGreatDoor
namespace Go.Proofs.YtagppjldegblhaaGreatDoor
open Go
namespace Cv
theorem dec_len : ∀ (k u : Nat), u < 10 ^ (k + 1) → (Lib.decDigits u).length ≤ k + 1
 | 0, u, h => by
   rw [Lib.decDigits, dif_pos (by omega)]
   exact Nat.le_refl _
 | k + 1, u, h => by
   rw [Lib.decDigits]
   split
   · simp
   · have := dec_len k (u / 10) (by rw [Nat.pow_succ] at h; omega)
     simp only [List.length_append, List.length_cons, List.length_nil]
     omega
end Cv
end Go.Proofs.YtagppjldegblhaaGreatDoor
namespace Go.Proofs.YtagppjldegblhaaGreatDoor.Nm
open Go
def attach (p : List UInt8) : List (List UInt8) → List (List UInt8)
 | [] => [p]
 | x :: r => (p ++ x) :: r
def splitL : List UInt8 → List (List UInt8)
 | [] => [[]]
 | c :: r => if c = 32 then [] :: splitL r else attach [c] (splitL r)
theorem join_cons2 (x y : List UInt8) (r : List (List UInt8)) (sep : List UInt8) : Lib.join (x :: y :: r) sep = x ++ sep ++ Lib.join (y :: r) sep := by
 rw [Lib.join_cons, Lib.join_cons]
 simp [Lib.joinTail]
def joinTo (xs : List (List UInt8)) (k : Nat) : List UInt8 := Lib.join (xs.take k) [32]
theorem joinTo_succ (xs : List (List UInt8)) (k : Nat) (h : k < xs.length) : joinTo xs (k + 1) = if k = 0 then xs[k]'h else joinTo xs k ++ [32] ++ xs[k]'h := by
 unfold joinTo
 cases xs with
 | nil => simp at h
 | cons x r =>
   cases k with
   | zero => simp [Lib.join_one]
   | succ k =>
     rw [if_neg (by omega)]
     have hk : k < r.length := by simpa using h
     rw [List.take_succ_cons, List.take_succ_cons, Lib.join_cons, Lib.join_cons, List.take_succ_eq_append_getElem hk]
     unfold Lib.joinTail
     rw [List.map_append, List.flatten_append]
     simp only [List.map_cons, List.map_nil, List.flatten_cons, List.flatten_nil, List.append_nil, List.append_assoc, List.getElem_cons_succ]
theorem join_total : ∀ (xs : List (List UInt8)), (Lib.join xs [32]).length ≤ (xs.map List.length).sum + xs.length
 | [] => by simp [Lib.join_nil]
 | [x] => by simp [Lib.join_one]
 | x :: y :: r => by
   rw [join_cons2]
   have := join_total (y :: r)
   simp at this ⊢
   omega
end Go.Proofs.YtagppjldegblhaaGreatDoor.Nm
namespace Go.Proofs.YtagppjldegblhaaGreatDoor
open Go
namespace Mx
abbrev Pos := Nat → Bool
def zr : Pos := fun _ => false
def orP (a b : Pos) : Pos := fun j => a j || b j
def one (S : CSet) (s : List UInt8) (x : Pos) : Pos := fun j => match j with
 | 0 => false
 | i + 1 => x i && (match s[i]? with | some c => S.has c.toNat | _ => false)
def iter (f : Pos → Pos) : Nat → Pos → Pos
 | 0, x => x
 | k + 1, x => iter f k (f x)
def upto (f : Pos → Pos) : Nat → Pos → Pos
 | 0, x => x
 | k + 1, x => orP x (f (upto f k x))
def more (long : Nat) (mn mx : Int) : Nat := if mx = -1 then long else (mx - mn).toNat
mutual
def sp (s : List UInt8) : Node → Pos → Pos
 | .mk k S kids mn mx => fun x => if k = 1 then one S s x else if k = 2 then spCat s kids x else if k = 3 then spAlt s kids x else spRep s kids mn mx x
def spCat (s : List UInt8) : List Node → Pos → Pos
 | [] => fun x => x
 | n :: r => fun x => spCat s r (sp s n x)
def spAlt (s : List UInt8) : List Node → Pos → Pos
 | [] => fun _ => zr
 | n :: r => fun x => orP (sp s n x) (spAlt s r x)
def spRep (s : List UInt8) (kids : List Node) (mn mx : Int) : Pos → Pos := match kids with
 | [] => fun _ => zr
 | n :: _ => fun x => upto (sp s n) (more s.length mn mx) (iter (sp s n) mn.toNat x)
end
structure Adds (f : Pos → Pos) : Prop where
 or_ : ∀ a b, f (orP a b) = orP (f a) (f b)
 none_ : f zr = zr
theorem or_self (a : Pos) : orP a a = a := by funext j; simp [orP]
theorem Adds.comp {f g : Pos → Pos} (hf : Adds f) (hg : Adds g) : Adds (fun x => g (f x)) := ⟨fun a b => by rw [hf.or_, hg.or_], by rw [hf.none_, hg.none_]⟩
theorem Adds.id : Adds (fun x => x) := ⟨fun _ _ => rfl, rfl⟩
theorem Adds.iter {f : Pos → Pos} (hf : Adds f) : ∀ k, Adds (iter f k)
 | 0 => Adds.id
 | k + 1 => hf.comp (Adds.iter hf k)
def Sup (N : Nat) (x : Pos) : Prop := ∀ j, N ≤ j → x j = false
def Keeps (N : Nat) (f : Pos → Pos) : Prop := ∀ x, Sup N x → Sup N (f x)
theorem Keeps.iter {N : Nat} {f : Pos → Pos} (hf : Keeps N f) : ∀ k, Keeps N (iter f k)
 | 0 => fun _ h => h
 | k + 1 => fun x h => Keeps.iter hf k _ (hf x h)
end Mx
end Go.Proofs.YtagppjldegblhaaGreatDoor
namespace Go.Proofs.YtagppjldegblhaaGreatDoor
open Go
namespace Rx
section
variable {l m : List UInt8} {k : Nat} {c : Int}
def Sim {α : Type} (k : Nat) (L : Prop) (r r' : Res α) : Prop := ∀ a p, r = .ok a p → r' = .ok a (p + k) ∨ (L ∧ ∃ q, r' = .bad 3 q)
variable {at1 at2 : Nat → Res Node} {L : Prop}
variable (hf : ∀ i, i ≤ l.length → Fine l i (at1 i)) (ha : ∀ i, i ≤ l.length → Sim k L (at1 i) (at2 (i + k)))
include hf ha
end
end Rx
namespace Rx
def Bads {α : Type} (l : List UInt8) (r : Res α) : Prop := ∀ e p, r = .bad e p → (e = 1 ∨ e = 2 ∨ e = 3) ∧ p ≤ l.length
variable {l : List UInt8}
end Rx
end Go.Proofs.YtagppjldegblhaaGreatDoor
