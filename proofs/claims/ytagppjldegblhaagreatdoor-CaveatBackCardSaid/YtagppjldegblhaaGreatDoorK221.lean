/- Texts that the proof leans on. -/
import Derived.Test.YtagppjldegblhaaGreatDoorK220
set_option linter.unusedVariables false
set_option linter.unusedSimpArgs false
set_option maxRecDepth 100000
set_option maxHeartbeats 4000000
namespace Go.Proofs.YtagppjldegblhaaGreatDoor
open Go Go.RowKit
open Ab
namespace Rd
theorem use_rn {P : Program} {A : Run} {E : Env} (hE : dom P A = E) {f : FuncId} {ty : TypeId} {id : Nat} {cells0 cells args args' : List V} {s : St} {t : ByteArray} {op : Int} {r : Res Node} {K : V → St → Prop} (hM : Meth P f ty cells args' (rdOut t op nodeV r)) (hrow : s.heap.getD id none = some (.box ty cells0)) (hcs : nrm.nrmL cells0 = cells) (he : nrm.nrmL args = args') (hcc : cells0.all V.closedB = true) (hca : args.all V.closedB = true) (ho : r ≠ .out)
 (h1 : ∀ n p J x, r = .ok n p → J = ((p : Nat) : Int) → x = ns n → K (nsV x) (s.setRow id (.box ty [fS t, fI .i64 J, fI .i64 op]))) (h2 : ∀ e p X, r = .bad e p → X = ((p : Nat) : Int) → E.pan (faultV e X) (s.setRow id (.box ty (List.replicate cells0.length .junk)))) : E.call f (.ptr id 0 :: args) s K :=
 use_rd hE hM hrow hcs he hcc hca ho (fun n p J hr hJ => h1 n p J _ hr hJ rfl) h2
def nd (l : List UInt8) (i : Nat) (b : Int) : Res Unit := if Rx.pk l i = b then .ok () (i + 1) else Rx.other l i
def shU (_ : Unit) : V := .tup []
theorem nd_ne (l : List UInt8) (i : Nat) (b : Int) : nd l i b ≠ .out := by
 unfold nd; split
 · simp
 · unfold Rx.other; split <;> simp
theorem need_c (s : ByteArray) {I : Int} {i : Nat} (op : Int) {b : Int} (hI : I = i) (hi : i ≤ s.size) (hs : s.size ≤ 1000) (hb : 0 ≤ b ∧ b ≤ 255) : Meth Tryz.prog 175 157 (rd s I op) [fI .u8 b] (rdOut s op shU (nd s.data.toList i b)) := by
 have hl : s.data.toList.length = s.size := by simp
 have hpk : pkI s I = Rx.pk s.data.toList i := by unfold pkI; rw [hI]; rfl
 unfold nd
 by_cases h : Rx.pk s.data.toList i = b
 · rw [if_pos h]
   have := need_yes s op (i := I) (b := b) (by omega) (by rw [hpk, h]) hb.1 (by omega)
   rw [show I + 1 = ((i + 1 : Nat) : Int) by omega] at this
   exact this
 · rw [if_neg h]
   rcases Nat.lt_or_ge i s.size with g | g
   · have := need_form s op (i := I) (b := b) (by omega) (by omega) hb (by rw [hpk]; exact h)
     rw [show (Rx.other s.data.toList i : Res Unit) = .bad 2 i by unfold Rx.other; rw [if_neg (fun e => by have := pk_ge (l := s.data.toList) (i := i) (by omega); omega)]]
     rw [hI] at this ⊢; exact this
   · have := need_end s op (i := I) (b := b) (by omega) (by omega) hb
     rw [other_end (by omega), ← hl] at *; exact this
theorem rep_v (n : Node) (lo hi : Int) : nodeV (Rx.rep n lo hi) = nsV ⟨4, CSet.empty, [nsR (ns n)], lo, hi⟩ := by
 rw [← nodeRow_ns]
 show nsV ⟨4, CSet.empty, nodeRows [n], lo, hi⟩ = _
 unfold nodeRows; unfold nodeRows; rfl
section
variable {l : List UInt8} {atm : Nat → Res Node} {i p q : Nat} {n : Node} {e : Int}
theorem piece_bad (h : atm i = .bad e p) : Rx.piece l atm i = .bad e p := by unfold Rx.piece; rw [h]
theorem piece_brc_bad (h : atm i = .ok n p) (hb : Rx.pk l p = 123) (h2 : Rx.brc l (p + 1) = .bad e q) : Rx.piece l atm i = .bad e q := by unfold Rx.piece; rw [h]; dsimp only; rw [hb, h2]; rfl
theorem piece_nd_bad {a : Int × Int} {e : Int} {z : Nat} (h : atm i = .ok n p) (hb : Rx.pk l p = 123) (h2 : Rx.brc l (p + 1) = .ok a q) (h3 : nd l q 125 = .bad e z) : Rx.piece l atm i = .bad e z := by
 obtain ⟨lo, hi⟩ := a
 unfold nd at h3
 split at h3
 · cases h3
 · rename_i h4
   unfold Rx.piece; rw [h]; dsimp only; rw [hb, h2]
   show (if Rx.pk l q = 125 then _ else Rx.other l q) = _
   rw [if_neg h4]
   unfold Rx.other at h3 ⊢
   split at h3 <;> (obtain ⟨rfl, rfl⟩ := Res.bad.inj h3; rename_i h5; first | rw [if_pos h5] | rw [if_neg h5])
theorem piece_nd {a : Int × Int} {u : Unit} {z : Nat} (h : atm i = .ok n p) (hb : Rx.pk l p = 123) (h2 : Rx.brc l (p + 1) = .ok a q) (h3 : nd l q 125 = .ok u z) : Rx.piece l atm i = .ok (Rx.rep n a.1 a.2) z := by
 obtain ⟨lo, hi⟩ := a
 unfold nd at h3
 split at h3
 · rename_i h4
   obtain ⟨-, rfl⟩ := Res.ok.inj h3
   unfold Rx.piece; rw [h]; dsimp only; rw [hb, h2]
   show (if Rx.pk l q = 125 then _ else Rx.other l q) = _
   rw [if_pos h4]
 · unfold Rx.other at h3; split at h3 <;> cases h3
theorem piece_no (h : atm i = .ok n p) (h1 : Rx.pk l p ≠ 42) (h2 : Rx.pk l p ≠ 43) (h3 : Rx.pk l p ≠ 63) (h4 : Rx.pk l p ≠ 123) : Rx.piece l atm i = .ok n p := by
 unfold Rx.piece; rw [h]; dsimp only; rw [if_neg h1, if_neg h2, if_neg h3, if_neg h4]
theorem piece_42 (h : atm i = .ok n p) (h1 : Rx.pk l p = 42) : Rx.piece l atm i = .ok (Rx.rep n 0 (-1)) (p + 1) := by
 unfold Rx.piece; rw [h]; dsimp only; rw [h1]; rfl
theorem piece_43 (h : atm i = .ok n p) (h1 : Rx.pk l p = 43) : Rx.piece l atm i = .ok (Rx.rep n 1 (-1)) (p + 1) := by
 unfold Rx.piece; rw [h]; dsimp only; rw [h1]; rfl
theorem piece_63 (h : atm i = .ok n p) (h1 : Rx.pk l p = 63) : Rx.piece l atm i = .ok (Rx.rep n 0 1) (p + 1) := by
 unfold Rx.piece; rw [h]; dsimp only; rw [h1]; rfl
end
theorem piece_c (s : ByteArray) {I : Int} {i : Nat} (op : Int) {atm : Nat → Res Node} (HA : Meth Tryz.prog 173 157 (rd s I op) [] (rdOut s op nodeV (atm i))) (F1 : Fine s.data.toList i (atm i)) (hs : s.size ≤ 1000) : Meth Tryz.prog 167 157 (rd s I op) [] (rdOut s op nodeV (Rx.piece s.data.toList atm i)) := by
 have hl : s.data.toList.length = s.size := by simp
 refine methO_of lay_ok (Tryz.call167) (Tryz.func167) rfl ?_; intro A E Q hE hf hQ hP
 cbv
 repeat' (first | (refine r_true hE rfl ?_; cbv) | (refine r_false hE rfl ?_; cbv) | (refine c_eql hE (fun h => ?_) (fun h => ?_) <;> first | (exfalso; omega) | cbv) | (refine c_neq hE (fun h => ?_) (fun h => ?_) <;> first | (exfalso; omega) | cbv) | (refine c_lss hE (fun h => ?_) (fun h => ?_) <;> first | (exfalso; omega) | cbv) | (refine c_leq hE (fun h => ?_) (fun h => ?_) <;> first | (exfalso; omega) | cbv) | (refine c_gtr hE (fun h => ?_) (fun h => ?_) <;> first | (exfalso; omega) | cbv) | (refine c_geq hE (fun h => ?_) (fun h => ?_) <;> first | (exfalso; omega) | cbv) | (refine c_seql hE (fun h => ?_) (fun h => ?_) <;> first | (exfalso; omega) | cbv) | (refine c_sneq hE (fun h => ?_) (fun h => ?_) <;> first | (exfalso; omega) | cbv) | (refine r_sin hE ?_ ?_ ?_; rotate_left 2; cbv) | (refine r_ssin hE ?_ ?_ ?_ ?_; rotate_left 3; cbv) | (refine use_draw hE lay_ok (by kernel_rfl) (by kernel_rfl) ?_; cbv) | (refine c_b hE (fun h => ?_) (fun h => ?_) <;> cbv))
 refine use_rn hE HA rfl rfl rfl rfl rfl (fine_ne F1) (fun n p J x hr hJ hx => ?_) (fun e p X hr hX => ?_) <;> cbv
 case refine_2 => exact hP _ _ _ rfl rfl (by rw [piece_bad hr]; exact pan_eq hX)
 have hp := fine_le F1 hr
 have P1 := peek_l s op hJ
 have g1 := e_inc hE hJ (by omega)
 have hin := fun h => pk_in (l := s.data.toList) (i := p) h
 obtain ⟨b, hb⟩ : ∃ b, b = Rx.pk s.data.toList p := ⟨_, rfl⟩
 rw [← hb] at P1 hin
 refine use_meth hE P1 rfl rfl rfl rfl rfl ?_
 cbv
 refine c_eql hE (fun q1 => ?_) (fun q1 => ?_) <;> cbv
 · repeat' (first | (refine r_true hE rfl ?_; cbv) | (refine r_false hE rfl ?_; cbv) | (refine c_eql hE (fun h => ?_) (fun h => ?_) <;> first | (exfalso; omega) | cbv) | (refine c_neq hE (fun h => ?_) (fun h => ?_) <;> first | (exfalso; omega) | cbv) | (refine c_lss hE (fun h => ?_) (fun h => ?_) <;> first | (exfalso; omega) | cbv) | (refine c_leq hE (fun h => ?_) (fun h => ?_) <;> first | (exfalso; omega) | cbv) | (refine c_gtr hE (fun h => ?_) (fun h => ?_) <;> first | (exfalso; omega) | cbv) | (refine c_geq hE (fun h => ?_) (fun h => ?_) <;> first | (exfalso; omega) | cbv) | (refine c_seql hE (fun h => ?_) (fun h => ?_) <;> first | (exfalso; omega) | cbv) | (refine c_sneq hE (fun h => ?_) (fun h => ?_) <;> first | (exfalso; omega) | cbv) | (refine r_sin hE ?_ ?_ ?_; rotate_left 2; cbv) | (refine r_ssin hE ?_ ?_ ?_ ?_; rotate_left 3; cbv) | (refine use_draw hE lay_ok (by kernel_rfl) (by kernel_rfl) ?_; cbv) | (refine c_b hE (fun h => ?_) (fun h => ?_) <;> cbv))
   exact And.left (hQ _ _ _ _ _ rfl rfl rfl rfl (by rw [piece_42 hr (hb.symm.trans q1)]; exact ret_eq (by rw [rep_v, ← hx]; rfl) g1))
 refine c_eql hE (fun q2 => ?_) (fun q2 => ?_) <;> cbv
 · repeat' (first | (refine r_true hE rfl ?_; cbv) | (refine r_false hE rfl ?_; cbv) | (refine c_eql hE (fun h => ?_) (fun h => ?_) <;> first | (exfalso; omega) | cbv) | (refine c_neq hE (fun h => ?_) (fun h => ?_) <;> first | (exfalso; omega) | cbv) | (refine c_lss hE (fun h => ?_) (fun h => ?_) <;> first | (exfalso; omega) | cbv) | (refine c_leq hE (fun h => ?_) (fun h => ?_) <;> first | (exfalso; omega) | cbv) | (refine c_gtr hE (fun h => ?_) (fun h => ?_) <;> first | (exfalso; omega) | cbv) | (refine c_geq hE (fun h => ?_) (fun h => ?_) <;> first | (exfalso; omega) | cbv) | (refine c_seql hE (fun h => ?_) (fun h => ?_) <;> first | (exfalso; omega) | cbv) | (refine c_sneq hE (fun h => ?_) (fun h => ?_) <;> first | (exfalso; omega) | cbv) | (refine r_sin hE ?_ ?_ ?_; rotate_left 2; cbv) | (refine r_ssin hE ?_ ?_ ?_ ?_; rotate_left 3; cbv) | (refine use_draw hE lay_ok (by kernel_rfl) (by kernel_rfl) ?_; cbv) | (refine c_b hE (fun h => ?_) (fun h => ?_) <;> cbv))
   exact And.left (hQ _ _ _ _ _ rfl rfl rfl rfl (by rw [piece_43 hr (hb.symm.trans q2)]; exact ret_eq (by rw [rep_v, ← hx]; rfl) g1))
 refine c_eql hE (fun q3 => ?_) (fun q3 => ?_) <;> cbv
 · repeat' (first | (refine r_true hE rfl ?_; cbv) | (refine r_false hE rfl ?_; cbv) | (refine c_eql hE (fun h => ?_) (fun h => ?_) <;> first | (exfalso; omega) | cbv) | (refine c_neq hE (fun h => ?_) (fun h => ?_) <;> first | (exfalso; omega) | cbv) | (refine c_lss hE (fun h => ?_) (fun h => ?_) <;> first | (exfalso; omega) | cbv) | (refine c_leq hE (fun h => ?_) (fun h => ?_) <;> first | (exfalso; omega) | cbv) | (refine c_gtr hE (fun h => ?_) (fun h => ?_) <;> first | (exfalso; omega) | cbv) | (refine c_geq hE (fun h => ?_) (fun h => ?_) <;> first | (exfalso; omega) | cbv) | (refine c_seql hE (fun h => ?_) (fun h => ?_) <;> first | (exfalso; omega) | cbv) | (refine c_sneq hE (fun h => ?_) (fun h => ?_) <;> first | (exfalso; omega) | cbv) | (refine r_sin hE ?_ ?_ ?_; rotate_left 2; cbv) | (refine r_ssin hE ?_ ?_ ?_ ?_; rotate_left 3; cbv) | (refine use_draw hE lay_ok (by kernel_rfl) (by kernel_rfl) ?_; cbv) | (refine c_b hE (fun h => ?_) (fun h => ?_) <;> cbv))
   exact And.left (hQ _ _ _ _ _ rfl rfl rfl rfl (by rw [piece_63 hr (hb.symm.trans q3)]; exact ret_eq (by rw [rep_v, ← hx]; rfl) g1))
 refine c_eql hE (fun q4 => ?_) (fun q4 => ?_) <;> cbv
 · have hlt := hin (by omega)
   have h4 := hb.symm.trans q4
   have B1 := braces_c s op g1 (by omega) hs
   have F2 := fine_brc s.data.toList (p + 1) (by omega)
   repeat' (first | (refine r_true hE rfl ?_; cbv) | (refine r_false hE rfl ?_; cbv) | (refine c_eql hE (fun h => ?_) (fun h => ?_) <;> first | (exfalso; omega) | cbv) | (refine c_neq hE (fun h => ?_) (fun h => ?_) <;> first | (exfalso; omega) | cbv) | (refine c_lss hE (fun h => ?_) (fun h => ?_) <;> first | (exfalso; omega) | cbv) | (refine c_leq hE (fun h => ?_) (fun h => ?_) <;> first | (exfalso; omega) | cbv) | (refine c_gtr hE (fun h => ?_) (fun h => ?_) <;> first | (exfalso; omega) | cbv) | (refine c_geq hE (fun h => ?_) (fun h => ?_) <;> first | (exfalso; omega) | cbv) | (refine c_seql hE (fun h => ?_) (fun h => ?_) <;> first | (exfalso; omega) | cbv) | (refine c_sneq hE (fun h => ?_) (fun h => ?_) <;> first | (exfalso; omega) | cbv) | (refine r_sin hE ?_ ?_ ?_; rotate_left 2; cbv) | (refine r_ssin hE ?_ ?_ ?_ ?_; rotate_left 3; cbv) | (refine use_draw hE lay_ok (by kernel_rfl) (by kernel_rfl) ?_; cbv) | (refine c_b hE (fun h => ?_) (fun h => ?_) <;> cbv))
   refine use_rd hE B1 rfl rfl rfl rfl rfl (fine_ne F2) (fun a q K hr2 hK => ?_) (fun e q X hr2 hX => ?_) <;> cbv
   case refine_2 => exact hP _ _ _ rfl rfl (by rw [piece_brc_bad hr h4 hr2]; exact pan_eq hX)
   have hq := fine_le F2 hr2
   have N1 := need_c s op (b := 125) hK (by omega) hs (by decide)
   have F3 := nd_ne s.data.toList q 125
   repeat' (first | (refine r_true hE rfl ?_; cbv) | (refine r_false hE rfl ?_; cbv) | (refine c_eql hE (fun h => ?_) (fun h => ?_) <;> first | (exfalso; omega) | cbv) | (refine c_neq hE (fun h => ?_) (fun h => ?_) <;> first | (exfalso; omega) | cbv) | (refine c_lss hE (fun h => ?_) (fun h => ?_) <;> first | (exfalso; omega) | cbv) | (refine c_leq hE (fun h => ?_) (fun h => ?_) <;> first | (exfalso; omega) | cbv) | (refine c_gtr hE (fun h => ?_) (fun h => ?_) <;> first | (exfalso; omega) | cbv) | (refine c_geq hE (fun h => ?_) (fun h => ?_) <;> first | (exfalso; omega) | cbv) | (refine c_seql hE (fun h => ?_) (fun h => ?_) <;> first | (exfalso; omega) | cbv) | (refine c_sneq hE (fun h => ?_) (fun h => ?_) <;> first | (exfalso; omega) | cbv) | (refine r_sin hE ?_ ?_ ?_; rotate_left 2; cbv) | (refine r_ssin hE ?_ ?_ ?_ ?_; rotate_left 3; cbv) | (refine use_draw hE lay_ok (by kernel_rfl) (by kernel_rfl) ?_; cbv) | (refine c_b hE (fun h => ?_) (fun h => ?_) <;> cbv))
   refine use_rd hE N1 rfl rfl rfl rfl rfl F3 (fun u z Z hr3 hZ => ?_) (fun e z X hr3 hX => ?_) <;> cbv
   case refine_2 => exact hP _ _ _ rfl rfl (by rw [piece_nd_bad hr h4 hr2 hr3]; exact pan_eq hX)
   repeat' (first | (refine r_true hE rfl ?_; cbv) | (refine r_false hE rfl ?_; cbv) | (refine c_eql hE (fun h => ?_) (fun h => ?_) <;> first | (exfalso; omega) | cbv) | (refine c_neq hE (fun h => ?_) (fun h => ?_) <;> first | (exfalso; omega) | cbv) | (refine c_lss hE (fun h => ?_) (fun h => ?_) <;> first | (exfalso; omega) | cbv) | (refine c_leq hE (fun h => ?_) (fun h => ?_) <;> first | (exfalso; omega) | cbv) | (refine c_gtr hE (fun h => ?_) (fun h => ?_) <;> first | (exfalso; omega) | cbv) | (refine c_geq hE (fun h => ?_) (fun h => ?_) <;> first | (exfalso; omega) | cbv) | (refine c_seql hE (fun h => ?_) (fun h => ?_) <;> first | (exfalso; omega) | cbv) | (refine c_sneq hE (fun h => ?_) (fun h => ?_) <;> first | (exfalso; omega) | cbv) | (refine r_sin hE ?_ ?_ ?_; rotate_left 2; cbv) | (refine r_ssin hE ?_ ?_ ?_ ?_; rotate_left 3; cbv) | (refine use_draw hE lay_ok (by kernel_rfl) (by kernel_rfl) ?_; cbv) | (refine c_b hE (fun h => ?_) (fun h => ?_) <;> cbv))
   exact And.left (hQ _ _ _ _ _ rfl rfl rfl rfl (by rw [piece_nd hr h4 hr2 hr3]; exact ret_eq (by rw [rep_v, ← hx]; rfl) hZ))
 · repeat' (first | (refine r_true hE rfl ?_; cbv) | (refine r_false hE rfl ?_; cbv) | (refine c_eql hE (fun h => ?_) (fun h => ?_) <;> first | (exfalso; omega) | cbv) | (refine c_neq hE (fun h => ?_) (fun h => ?_) <;> first | (exfalso; omega) | cbv) | (refine c_lss hE (fun h => ?_) (fun h => ?_) <;> first | (exfalso; omega) | cbv) | (refine c_leq hE (fun h => ?_) (fun h => ?_) <;> first | (exfalso; omega) | cbv) | (refine c_gtr hE (fun h => ?_) (fun h => ?_) <;> first | (exfalso; omega) | cbv) | (refine c_geq hE (fun h => ?_) (fun h => ?_) <;> first | (exfalso; omega) | cbv) | (refine c_seql hE (fun h => ?_) (fun h => ?_) <;> first | (exfalso; omega) | cbv) | (refine c_sneq hE (fun h => ?_) (fun h => ?_) <;> first | (exfalso; omega) | cbv) | (refine r_sin hE ?_ ?_ ?_; rotate_left 2; cbv) | (refine r_ssin hE ?_ ?_ ?_ ?_; rotate_left 3; cbv) | (refine use_draw hE lay_ok (by kernel_rfl) (by kernel_rfl) ?_; cbv) | (refine c_b hE (fun h => ?_) (fun h => ?_) <;> cbv))
   exact And.left (hQ _ _ _ _ _ rfl rfl rfl rfl (by rw [piece_no hr (hb ▸ q1) (hb ▸ q2) (hb ▸ q3) (hb ▸ q4)]; exact ret_eq (by show _ = nsV (ns n); rw [← hx]; rfl) hJ))
end Rd
end Go.Proofs.YtagppjldegblhaaGreatDoor
namespace Go.Proofs.YtagppjldegblhaaGreatDoor
open Go Go.RowKit
open Ab
namespace Rd
def AtomC (s : ByteArray) (op : Int) (atm : Nat → Res Node) : Prop :=
 ∀ (i : Nat) (I : Int), I = ((i : Nat) : Int) → i ≤ s.size → Meth Tryz.prog 173 157 (rd s I op) [] (rdOut s op nodeV (atm i))
section
variable {l : List UInt8} {atm : Nat → Res Node}
theorem pieces_end {f i : Nat} {ms : List Node} (h : Rx.pk l i = -1 ∨ Rx.pk l i = 124 ∨ Rx.pk l i = 41) : Rx.pieces l atm (f + 1) ms i = .ok ms i := by
 conv => lhs; unfold Rx.pieces
 exact if_pos h
theorem pieces_go {f i p : Nat} {ms : List Node} {n : Node} (h : ¬ (Rx.pk l i = -1 ∨ Rx.pk l i = 124 ∨ Rx.pk l i = 41)) (hr : Rx.piece l atm i = .ok n p) : Rx.pieces l atm (f + 1) ms i = Rx.pieces l atm f (ms ++ [n]) p := by
 conv => lhs; unfold Rx.pieces
 rw [if_neg h, hr]
theorem pieces_bad {f i p : Nat} {ms : List Node} {e : Int} (h : ¬ (Rx.pk l i = -1 ∨ Rx.pk l i = 124 ∨ Rx.pk l i = 41)) (hr : Rx.piece l atm i = .bad e p) : Rx.pieces l atm (f + 1) ms i = .bad e p := by
 conv => lhs; unfold Rx.pieces
 rw [if_neg h, hr]
theorem cat_ok {i p : Nat} {ms : List Node} (h : Rx.pieces l atm (l.length + 1) [] i = .ok ms p) : Rx.cat l atm i = .ok (Rx.join 2 ms) p := by unfold Rx.cat; rw [h]
theorem cat_bad {i p : Nat} {e : Int} (h : Rx.pieces l atm (l.length + 1) [] i = .bad e p) : Rx.cat l atm i = .bad e p := by unfold Rx.cat; rw [h]
end
def catI (s : ByteArray) (atm : Nat → Res Node) (i : Nat) (T : Res (List Node)) (g : List Node × Nat × Int) : Prop :=
 g.2.2 = ((g.2.1 : Nat) : Int) ∧ i ≤ g.2.1 ∧ g.2.1 ≤ s.size ∧ Node.sizes g.1 ≤ 2 * (g.2.1 - i) ∧ ∃ f, s.data.toList.length < g.2.1 + f ∧ Rx.pieces s.data.toList atm f g.1 g.2.1 = T
theorem cat_c (s : ByteArray) {I : Int} {i : Nat} (op : Int) {atm : Nat → Res Node} (HA : AtomC s op atm) (hfn : ∀ i, i ≤ s.data.toList.length → Fine s.data.toList i (atm i)) (hln : Rx.Lean2 s.data.toList atm) (hI : I = i) (hi : i ≤ s.size) (hs : s.size ≤ 1000) : Meth Tryz.prog 152 157 (rd s I op) [] (rdOut s op nodeV (Rx.cat s.data.toList atm i)) := by
 have hl : s.data.toList.length = s.size := by simp
 obtain ⟨T, hT⟩ : ∃ T, T = Rx.pieces s.data.toList atm (s.data.toList.length + 1) [] i := ⟨_, rfl⟩
 have sb := fun e p (h : T = .bad e p) => cat_bad (hT.symm.trans h)
 have so := fun ms p (h : T = .ok ms p) => cat_ok (hT.symm.trans h)
 obtain ⟨O, hO⟩ : ∃ O : List Node → Ab.Rows, O = nodeRows := ⟨_, rfl⟩
 have hO0 : O [] = [] := by rw [hO]; unfold nodeRows; rfl
 refine methO_of lay_ok (Tryz.call152) (Tryz.func152) rfl ?_; intro A E Q hE hf hQ hP
 cbv
 repeat' (first | (refine r_true hE rfl ?_; cbv) | (refine r_false hE rfl ?_; cbv) | (refine c_eql hE (fun h => ?_) (fun h => ?_) <;> first | (exfalso; omega) | cbv) | (refine c_neq hE (fun h => ?_) (fun h => ?_) <;> first | (exfalso; omega) | cbv) | (refine c_lss hE (fun h => ?_) (fun h => ?_) <;> first | (exfalso; omega) | cbv) | (refine c_leq hE (fun h => ?_) (fun h => ?_) <;> first | (exfalso; omega) | cbv) | (refine c_gtr hE (fun h => ?_) (fun h => ?_) <;> first | (exfalso; omega) | cbv) | (refine c_geq hE (fun h => ?_) (fun h => ?_) <;> first | (exfalso; omega) | cbv) | (refine c_seql hE (fun h => ?_) (fun h => ?_) <;> first | (exfalso; omega) | cbv) | (refine c_sneq hE (fun h => ?_) (fun h => ?_) <;> first | (exfalso; omega) | cbv) | (refine r_sin hE ?_ ?_ ?_; rotate_left 2; cbv) | (refine r_ssin hE ?_ ?_ ?_ ?_; rotate_left 3; cbv) | (refine use_draw hE lay_ok (by kernel_rfl) (by kernel_rfl) ?_; cbv) | (refine c_b hE (fun h => ?_) (fun h => ?_) <;> cbv))
 refine use_for hE lay_ok 2 (fun g : List Node × Nat × Int => [(3, .lst 2)]) (fun g => [(0, .box 157 (rd s g.2.2 op)), (2, .list 91 8 (O g.1))]) (catI s atm i T) (fun g => s.size - g.2.1) ([], i, I) ⟨hI, Nat.le_refl _, hi, by simp [Node.sizes_nil], s.data.toList.length + 1, by show _ < i + _; omega, hT.symm⟩ ?_ ?_
 · cbv
   refine ⟨⟨.inr trivial, trivial⟩, ⟨?_, trivial⟩, trivial⟩
   show (match Row.list 91 8 (O []) with | Row.list ty es [] => True | x => False)
   rw [hO0]; trivial
 rintro ⟨ms, p, J⟩ ⟨hJ, hip, hp, hsz, f, hf1, hf2⟩ Q' hN hR hX
 have hJ : J = ((p : Nat) : Int) := hJ
 have hip : i ≤ p := hip
 have hp : p ≤ s.size := hp
 have hsz : Node.sizes ms ≤ 2 * (p - i) := hsz
 have hf1 : s.data.toList.length < p + f := hf1
 have hf2 : Rx.pieces s.data.toList atm f ms p = T := hf2
 have hml := Node.length_le_sizes ms
 have hOl : (O ms).length ≤ 1000000 := by rw [hO, nodeRows_len]; omega
 obtain ⟨f, rfl⟩ : ∃ f', f = f' + 1 := ⟨f - 1, by omega⟩
 have P1 := peek_l s op hJ
 have C1 := piece_c s op (HA p J hJ hp) (hfn p (by omega)) hs
 have F1 := fine_piece s.data.toList atm p (hfn p (by omega))
 have J1 := join_c 2 ms (by omega)
 obtain ⟨b, hb⟩ : ∃ b, b = Rx.pk s.data.toList p := ⟨_, rfl⟩
 rw [← hb] at P1
 rw [← hO] at J1
 have hOs : ∀ n, O (ms ++ [n]) = O ms ++ [nsR (ns n)] := fun n => by rw [hO, nodeRows_app, ← nodeRow_ns]; conv => lhs; rhs; unfold nodeRows; unfold nodeRows
 by_cases q : b = -1 ∨ b = 124 ∨ b = 41
 · have hd := pieces_end (atm := atm) (f := f) (ms := ms) (by rw [← hb]; exact q)
   cbv
   repeat' (first | (refine r_true hE rfl ?_; cbv) | (refine r_false hE rfl ?_; cbv) | (refine use_meth hE P1 rfl rfl rfl rfl rfl ?_; cbv) | (refine use_gs hE (sh := nsV) 2 J1 rfl rfl (hf _ (by decide)) rfl rfl fun x hx => ?_; cbv) | (refine c_eql hE (fun h => ?_) (fun h => ?_) <;> first | (exfalso; omega) | cbv) | (refine c_neq hE (fun h => ?_) (fun h => ?_) <;> first | (exfalso; omega) | cbv) | (refine c_lss hE (fun h => ?_) (fun h => ?_) <;> first | (exfalso; omega) | cbv) | (refine c_leq hE (fun h => ?_) (fun h => ?_) <;> first | (exfalso; omega) | cbv) | (refine c_gtr hE (fun h => ?_) (fun h => ?_) <;> first | (exfalso; omega) | cbv) | (refine c_geq hE (fun h => ?_) (fun h => ?_) <;> first | (exfalso; omega) | cbv) | (refine c_seql hE (fun h => ?_) (fun h => ?_) <;> first | (exfalso; omega) | cbv) | (refine c_sneq hE (fun h => ?_) (fun h => ?_) <;> first | (exfalso; omega) | cbv) | (refine r_sin hE ?_ ?_ ?_; rotate_left 2; cbv) | (refine r_ssin hE ?_ ?_ ?_ ?_; rotate_left 3; cbv) | (refine use_draw hE lay_ok (by kernel_rfl) (by kernel_rfl) ?_; cbv) | (refine c_b hE (fun h => ?_) (fun h => ?_) <;> cbv))
   all_goals (refine hR _ ?_; exact And.left (hQ _ _ _ _ _ rfl rfl rfl rfl (by rw [so _ _ (hf2.symm.trans hd)]; exact ret_eq (by show _ = nsV (ns (Rx.join 2 ms)); rw [← hx]; rfl) hJ)))
 · have nq : ¬ (Rx.pk s.data.toList p = -1 ∨ Rx.pk s.data.toList p = 124 ∨ Rx.pk s.data.toList p = 41) := by rw [← hb]; exact q
   have sz := Rx.size_piece hln hfn
   cbv
   repeat' (first | (refine r_true hE rfl ?_; cbv) | (refine r_false hE rfl ?_; cbv) | (refine use_meth hE P1 rfl rfl rfl rfl rfl ?_; cbv) | (refine c_eql hE (fun h => ?_) (fun h => ?_) <;> first | (exfalso; omega) | cbv) | (refine c_neq hE (fun h => ?_) (fun h => ?_) <;> first | (exfalso; omega) | cbv) | (refine c_lss hE (fun h => ?_) (fun h => ?_) <;> first | (exfalso; omega) | cbv) | (refine c_leq hE (fun h => ?_) (fun h => ?_) <;> first | (exfalso; omega) | cbv) | (refine c_gtr hE (fun h => ?_) (fun h => ?_) <;> first | (exfalso; omega) | cbv) | (refine c_geq hE (fun h => ?_) (fun h => ?_) <;> first | (exfalso; omega) | cbv) | (refine c_seql hE (fun h => ?_) (fun h => ?_) <;> first | (exfalso; omega) | cbv) | (refine c_sneq hE (fun h => ?_) (fun h => ?_) <;> first | (exfalso; omega) | cbv) | (refine r_sin hE ?_ ?_ ?_; rotate_left 2; cbv) | (refine r_ssin hE ?_ ?_ ?_ ?_; rotate_left 3; cbv) | (refine use_draw hE lay_ok (by kernel_rfl) (by kernel_rfl) ?_; cbv) | (refine c_b hE (fun h => ?_) (fun h => ?_) <;> cbv))
   refine use_rn hE C1 rfl rfl rfl rfl rfl (fine_ne F1) (fun n q K x hr hK hx => ?_) (fun e q X hr hX => ?_) <;> cbv
   case refine_2 => exact hP _ _ _ rfl rfl (by rw [sb _ _ (hf2.symm.trans (pieces_bad nq hr))]; exact pan_eq hX)
   have hq := fine_le F1 hr
   have h1 := sz p n q (by omega) hr
   have st : E.lapp (O ms) [nsR x] = O (ms ++ [n]) := by rw [e_app hE, hOs, hx]
   refine And.intro (hf _ (by decide)) (r_room hE ?_ ?_ ?_ ?_)
   · simp
   · show (O ms).length + 1 ≤ _; omega
   · decide
   cbv
   refine hN _ (ms ++ [n], q, K) ⟨hK, by show i ≤ q; omega, by show q ≤ s.size; omega, ?_, f, by show _ < q + f; omega, (pieces_go nq hr).symm.trans hf2⟩ ?_ ?_
   · show Node.sizes (ms ++ [n]) ≤ 2 * (q - i)
     rw [Node.sizes_append, Node.sizes_cons, Node.sizes_nil]; omega
   · show s.size - q < s.size - p; omega
   · cbv
     exact ⟨⟨st, trivial⟩, trivial⟩
section
variable {l : List UInt8} {atm : Nat → Res Node}
theorem cats_end {f i : Nat} {ms : List Node} (h : ¬ Rx.pk l i = 124) : Rx.cats l atm (f + 1) ms i = .ok ms i := by
 conv => lhs; unfold Rx.cats
 exact if_neg h
theorem cats_go {f i p : Nat} {ms : List Node} {n : Node} (h : Rx.pk l i = 124) (hr : Rx.cat l atm (i + 1) = .ok n p) : Rx.cats l atm (f + 1) ms i = Rx.cats l atm f (ms ++ [n]) p := by
 conv => lhs; unfold Rx.cats
 rw [if_pos h, hr]
theorem cats_bad {f i p : Nat} {ms : List Node} {e : Int} (h : Rx.pk l i = 124) (hr : Rx.cat l atm (i + 1) = .bad e p) : Rx.cats l atm (f + 1) ms i = .bad e p := by
 conv => lhs; unfold Rx.cats
 rw [if_pos h, hr]
theorem alt_bad {i p : Nat} {e : Int} (h : Rx.cat l atm i = .bad e p) : Rx.alt l atm i = .bad e p := by unfold Rx.alt; rw [h]
theorem alt_bad2 {i p q : Nat} {n : Node} {e : Int} (h : Rx.cat l atm i = .ok n p) (h2 : Rx.cats l atm (l.length + 1) [n] p = .bad e q) : Rx.alt l atm i = .bad e q := by unfold Rx.alt; rw [h]; dsimp only; rw [h2]
theorem alt_one {i p q : Nat} {n m : Node} (h : Rx.cat l atm i = .ok n p) (h2 : Rx.cats l atm (l.length + 1) [n] p = .ok [m] q) : Rx.alt l atm i = .ok m q := by unfold Rx.alt; rw [h]; dsimp only; rw [h2]
theorem alt_many {i p q : Nat} {n : Node} {ms : List Node} (h : Rx.cat l atm i = .ok n p) (h2 : Rx.cats l atm (l.length + 1) [n] p = .ok ms q) (hn : ms.length ≠ 1) : Rx.alt l atm i = .ok (Rx.join 3 ms) q := by
 unfold Rx.alt; rw [h]; dsimp only; rw [h2]
 split
 · rename_i e; obtain ⟨e, -⟩ := Res.ok.inj e; subst e; exact absurd rfl hn
 · rename_i e; obtain ⟨rfl, rfl⟩ := Res.ok.inj e; rfl
 · rename_i e; cases e
 · rename_i e; cases e
end
def altI (s : ByteArray) (atm : Nat → Res Node) (i : Nat) (T : Res (List Node)) (g : List Node × Nat × Int) : Prop :=
 g.2.2 = ((g.2.1 : Nat) : Int) ∧ i ≤ g.2.1 ∧ g.2.1 ≤ s.size ∧ Node.sizes g.1 ≤ 2 * (g.2.1 - i) + 1 ∧ ∃ f, s.data.toList.length < g.2.1 + f ∧ Rx.cats s.data.toList atm f g.1 g.2.1 = T
theorem alt_c (s : ByteArray) {I : Int} {i : Nat} (op : Int) {atm : Nat → Res Node} (HA : AtomC s op atm) (hfn : ∀ i, i ≤ s.data.toList.length → Fine s.data.toList i (atm i)) (hln : Rx.Lean2 s.data.toList atm) (hI : I = i) (hi : i ≤ s.size) (hs : s.size ≤ 1000) : Meth Tryz.prog 132 157 (rd s I op) [] (rdOut s op nodeV (Rx.alt s.data.toList atm i)) := by
 have hl : s.data.toList.length = s.size := by simp
 have C0 := cat_c s op HA hfn hln hI hi hs
 have F0 := fine_cat s.data.toList atm hfn i (by omega)
 obtain ⟨O, hO⟩ : ∃ O : List Node → Ab.Rows, O = nodeRows := ⟨_, rfl⟩
 refine methO_of lay_ok (Tryz.call132) (Tryz.func132) rfl ?_; intro A E Q hE hf hQ hP
 cbv
 refine use_rn hE C0 rfl rfl rfl rfl rfl (fine0_ne F0) (fun n0 p0 J0 x0 hr0 hJ0 hx0 => ?_) (fun e p X hr hX => ?_) <;> cbv
 case refine_2 => exact hP _ _ _ rfl rfl (by rw [alt_bad hr]; exact pan_eq hX)
 have hp0 := fine0_le F0 hr0
 have hz0 := Rx.size_cat hln hfn (by omega) hr0
 obtain ⟨T, hT⟩ : ∃ T, T = Rx.cats s.data.toList atm (s.data.toList.length + 1) [n0] p0 := ⟨_, rfl⟩
 have sb := fun e p (h : T = .bad e p) => alt_bad2 hr0 (hT.symm.trans h)
 have s1 := fun m p (h : T = .ok [m] p) => alt_one hr0 (hT.symm.trans h)
 have s2 := fun ms p (h : T = .ok ms p) => alt_many hr0 (hT.symm.trans h)
 have hO0 : O [n0] = [nsR x0] := by rw [hO, hx0, ← nodeRow_ns]; unfold nodeRows; unfold nodeRows; rfl
 repeat' (first | (refine r_true hE rfl ?_; cbv) | (refine r_false hE rfl ?_; cbv) | (refine c_eql hE (fun h => ?_) (fun h => ?_) <;> first | (exfalso; omega) | cbv) | (refine c_neq hE (fun h => ?_) (fun h => ?_) <;> first | (exfalso; omega) | cbv) | (refine c_lss hE (fun h => ?_) (fun h => ?_) <;> first | (exfalso; omega) | cbv) | (refine c_leq hE (fun h => ?_) (fun h => ?_) <;> first | (exfalso; omega) | cbv) | (refine c_gtr hE (fun h => ?_) (fun h => ?_) <;> first | (exfalso; omega) | cbv) | (refine c_geq hE (fun h => ?_) (fun h => ?_) <;> first | (exfalso; omega) | cbv) | (refine c_seql hE (fun h => ?_) (fun h => ?_) <;> first | (exfalso; omega) | cbv) | (refine c_sneq hE (fun h => ?_) (fun h => ?_) <;> first | (exfalso; omega) | cbv) | (refine r_sin hE ?_ ?_ ?_; rotate_left 2; cbv) | (refine r_ssin hE ?_ ?_ ?_ ?_; rotate_left 3; cbv) | (refine use_draw hE lay_ok (by kernel_rfl) (by kernel_rfl) ?_; cbv) | (refine c_b hE (fun h => ?_) (fun h => ?_) <;> cbv))
 refine use_for hE lay_ok 2 (fun g : List Node × Nat × Int => [(3, .lst 2)]) (fun g => [(0, .box 157 (rd s g.2.2 op)), (2, .list 91 8 (O g.1))]) (altI s atm i T) (fun g => s.size - g.2.1) ([n0], p0, J0) ⟨hJ0, hp0.1, by show p0 ≤ s.size; omega, by show Node.sizes [n0] ≤ 2 * (p0 - i) + 1; rw [Node.sizes_cons, Node.sizes_nil]; omega, s.data.toList.length + 1, by show _ < p0 + _; omega, hT.symm⟩ ?_ ?_
 · cbv
   exact ⟨⟨hO0.symm, trivial⟩, trivial⟩
 rintro ⟨ms, p, J⟩ ⟨hJ, hip, hp, hsz, f, hf1, hf2⟩ Q' hN hR hX
 have hJ : J = ((p : Nat) : Int) := hJ
 have hip : i ≤ p := hip
 have hp : p ≤ s.size := hp
 have hsz : Node.sizes ms ≤ 2 * (p - i) + 1 := hsz
 have hf1 : s.data.toList.length < p + f := hf1
 have hf2 : Rx.cats s.data.toList atm f ms p = T := hf2
 have hml := Node.length_le_sizes ms
 have hOl : (O ms).length = ms.length := by rw [hO, nodeRows_len]
 obtain ⟨f, rfl⟩ : ∃ f', f = f' + 1 := ⟨f - 1, by omega⟩
 have P1 := peek_l s op hJ
 have J1 := join_c 3 ms (by omega)
 have hin := fun h => pk_in (l := s.data.toList) (i := p) h
 obtain ⟨b, hb⟩ : ∃ b, b = Rx.pk s.data.toList p := ⟨_, rfl⟩
 rw [← hb] at P1 hin
 rw [← hO] at J1
 have hOs : ∀ n, O (ms ++ [n]) = O ms ++ [nsR (ns n)] := fun n => by rw [hO, nodeRows_app, ← nodeRow_ns]; conv => lhs; rhs; unfold nodeRows; unfold nodeRows
 by_cases q : b = 124
 · have hlt := hin (by omega)
   have g1 := e_inc hE hJ (by omega)
   have C1 := cat_c s op HA hfn hln g1 (by omega) hs
   have F1 := fine_cat s.data.toList atm hfn (p + 1) (by omega)
   have h4 := hb.symm.trans q
   have sz := fun {n q} => Rx.size_cat (i := p + 1) (p := q) (n := n) hln hfn (by omega)
   cbv
   repeat' (first | (refine r_true hE rfl ?_; cbv) | (refine r_false hE rfl ?_; cbv) | (refine use_meth hE P1 rfl rfl rfl rfl rfl ?_; cbv) | (refine c_eql hE (fun h => ?_) (fun h => ?_) <;> first | (exfalso; omega) | cbv) | (refine c_neq hE (fun h => ?_) (fun h => ?_) <;> first | (exfalso; omega) | cbv) | (refine c_lss hE (fun h => ?_) (fun h => ?_) <;> first | (exfalso; omega) | cbv) | (refine c_leq hE (fun h => ?_) (fun h => ?_) <;> first | (exfalso; omega) | cbv) | (refine c_gtr hE (fun h => ?_) (fun h => ?_) <;> first | (exfalso; omega) | cbv) | (refine c_geq hE (fun h => ?_) (fun h => ?_) <;> first | (exfalso; omega) | cbv) | (refine c_seql hE (fun h => ?_) (fun h => ?_) <;> first | (exfalso; omega) | cbv) | (refine c_sneq hE (fun h => ?_) (fun h => ?_) <;> first | (exfalso; omega) | cbv) | (refine r_sin hE ?_ ?_ ?_; rotate_left 2; cbv) | (refine r_ssin hE ?_ ?_ ?_ ?_; rotate_left 3; cbv) | (refine use_draw hE lay_ok (by kernel_rfl) (by kernel_rfl) ?_; cbv) | (refine c_b hE (fun h => ?_) (fun h => ?_) <;> cbv))
   refine use_rn hE C1 rfl rfl rfl rfl rfl (fine0_ne F1) (fun n q K x hr hK hx => ?_) (fun e q X hr hX => ?_) <;> cbv
   case refine_2 => exact hP _ _ _ rfl rfl (by rw [sb _ _ (hf2.symm.trans (cats_bad h4 hr))]; exact pan_eq hX)
   have hq := fine0_le F1 hr
   have h1 := sz hr
   have st : E.lapp (O ms) [nsR x] = O (ms ++ [n]) := by rw [e_app hE, hOs, hx]
   refine And.intro (hf _ (by decide)) (r_room hE ?_ ?_ ?_ ?_)
   · simp
   · show (O ms).length + 1 ≤ _; omega
   · decide
   cbv
   refine hN _ (ms ++ [n], q, K) ⟨hK, by show i ≤ q; omega, by show q ≤ s.size; omega, ?_, f, by show _ < q + f; omega, (cats_go h4 hr).symm.trans hf2⟩ ?_ ?_
   · show Node.sizes (ms ++ [n]) ≤ 2 * (q - i) + 1
     rw [Node.sizes_append, Node.sizes_cons, Node.sizes_nil]; omega
   · show s.size - q < s.size - p; omega
   · cbv
     exact ⟨⟨st, trivial⟩, trivial⟩
 · have hd := cats_end (atm := atm) (f := f) (ms := ms) (by rw [← hb]; exact q)
   have eT := hf2.symm.trans hd
   have eL := e_llen hE (O ms)
   rw [hOl] at eL
   cbv
   repeat' (first | (refine r_true hE rfl ?_; cbv) | (refine r_false hE rfl ?_; cbv) | (refine use_meth hE P1 rfl rfl rfl rfl rfl ?_; cbv) | (refine c_eql hE (fun h => ?_) (fun h => ?_) <;> first | (exfalso; omega) | cbv) | (refine c_neq hE (fun h => ?_) (fun h => ?_) <;> first | (exfalso; omega) | cbv) | (refine c_lss hE (fun h => ?_) (fun h => ?_) <;> first | (exfalso; omega) | cbv) | (refine c_leq hE (fun h => ?_) (fun h => ?_) <;> first | (exfalso; omega) | cbv) | (refine c_gtr hE (fun h => ?_) (fun h => ?_) <;> first | (exfalso; omega) | cbv) | (refine c_geq hE (fun h => ?_) (fun h => ?_) <;> first | (exfalso; omega) | cbv) | (refine c_seql hE (fun h => ?_) (fun h => ?_) <;> first | (exfalso; omega) | cbv) | (refine c_sneq hE (fun h => ?_) (fun h => ?_) <;> first | (exfalso; omega) | cbv) | (refine r_sin hE ?_ ?_ ?_; rotate_left 2; cbv) | (refine r_ssin hE ?_ ?_ ?_ ?_; rotate_left 3; cbv) | (refine use_draw hE lay_ok (by kernel_rfl) (by kernel_rfl) ?_; cbv) | (refine c_b hE (fun h => ?_) (fun h => ?_) <;> cbv))
   refine hX _ _ ?_
   cbv
   refine c_eql hE (fun h => ?_) (fun h => ?_) <;> cbv
   · have h1 : E.llen (O ms) = 1 := h
     rw [eL] at h1
     obtain ⟨m, rfl⟩ : ∃ m, ms = [m] := List.length_eq_one_iff.1 (by exact_mod_cast h1)
     obtain ⟨n, hn⟩ : ∃ n, n = ns m := ⟨_, rfl⟩
     have hat : (O [m])[(0 : Int).toNat]? = some (nsR n) := by rw [hO, hn, ← nodeRow_ns]; unfold nodeRows; rfl
     refine r_row hE (by decide) hat ?_
     cbv
     refine r_row hE (by decide) hat ?_
     cbv
     exact And.left (hQ _ _ _ _ _ rfl rfl rfl rfl (by rw [s1 _ _ eT]; exact ret_eq (by show _ = nsV (ns m); rw [← hn]; rfl) hJ))
   · have h1 : ¬ E.llen (O ms) = 1 := h
     rw [eL] at h1
     refine use_gs hE (sh := nsV) 2 J1 rfl rfl (hf _ (by decide)) rfl rfl fun x hx => ?_
     cbv
     exact And.left (hQ _ _ _ _ _ rfl rfl rfl rfl (by rw [s2 _ _ eT (fun e => h1 (by rw [e]; rfl))]; exact ret_eq (by show _ = nsV (ns (Rx.join 3 ms)); rw [← hx]; rfl) hJ))
end Rd
end Go.Proofs.YtagppjldegblhaaGreatDoor
