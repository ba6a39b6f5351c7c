/- Texts that the proof leans on. -/
import Derived.Test.YtagppjldegblhaaGreatDoorK221
import Derived.Defers
import Derived.Recover
import Derived.Laws.Pointers
set_option linter.unusedVariables false
set_option linter.unusedSimpArgs false
set_option maxRecDepth 100000
set_option maxHeartbeats 4000000
namespace Go.Proofs.YtagppjldegblhaaGreatDoor
open Go Go.RowKit
open Ab
namespace Rd
theorem ret_eqO {α : Type} {s : ByteArray} {op : Int} {sh : α → V} {a : α} {p : Nat} {v : V} {J O : Int} (hv : nrm v = sh a) (hJ : J = (p : Int)) (hO : O = op) : rdOut s op sh (.ok a p) = .ret (nrm v) [fS s, fI .i64 J, fI .i64 O] := by subst hO; exact ret_eq hv hJ
theorem wrong_iff {b : Int} : Rx.wrongAtom b = true ↔ b = -1 ∨ b = 41 ∨ b = 93 ∨ b = 123 ∨ b = 125 ∨ b = 124 ∨ b = 42 ∨ b = 43 ∨ b = 63 := by
 unfold Rx.wrongAtom; simp only [List.contains_eq_mem, List.mem_cons, List.not_mem_nil, or_false, decide_eq_true_eq]
section
variable {l : List UInt8} {d i p q : Nat} {n : Node} {e : Int} {S : CSet}
theorem atom_wrong (h : Rx.wrongAtom (Rx.pk l i) = true) : Rx.atom l d i = Rx.other l i := by unfold Rx.atom; rw [if_pos h]
theorem atom_0 (h1 : ¬ Rx.wrongAtom (Rx.pk l i) = true) (h : Rx.pk l i = 40) : Rx.atom l 0 i = .bad 3 i := by unfold Rx.atom; rw [if_neg h1, if_pos h]
theorem atom_altbad (h1 : ¬ Rx.wrongAtom (Rx.pk l i) = true) (h : Rx.pk l i = 40) (h2 : Rx.alt l (Rx.atom l d) (i + 1) = .bad e p) : Rx.atom l (d + 1) i = .bad e p := by unfold Rx.atom; rw [if_neg h1, if_pos h]; dsimp only; rw [h2]
theorem atom_ndbad (h1 : ¬ Rx.wrongAtom (Rx.pk l i) = true) (h : Rx.pk l i = 40) (h2 : Rx.alt l (Rx.atom l d) (i + 1) = .ok n p) (h3 : nd l p 41 = .bad e q) : Rx.atom l (d + 1) i = .bad e q := by
 unfold Rx.atom; rw [if_neg h1, if_pos h]; dsimp only; rw [h2]; dsimp only
 unfold nd at h3
 split at h3
 · cases h3
 · rename_i h4
   rw [if_neg h4]
   unfold Rx.other at h3 ⊢
   split at h3 <;> (obtain ⟨rfl, rfl⟩ := Res.bad.inj h3; rename_i h5; first | rw [if_pos h5] | rw [if_neg h5])
theorem atom_nd {u : Unit} (h1 : ¬ Rx.wrongAtom (Rx.pk l i) = true) (h : Rx.pk l i = 40) (h2 : Rx.alt l (Rx.atom l d) (i + 1) = .ok n p) (h3 : nd l p 41 = .ok u q) : Rx.atom l (d + 1) i = .ok n q := by
 unfold Rx.atom; rw [if_neg h1, if_pos h]; dsimp only; rw [h2]; dsimp only
 unfold nd at h3
 split at h3
 · rename_i h4; obtain ⟨-, rfl⟩ := Res.ok.inj h3; rw [if_pos h4]
 · unfold Rx.other at h3; split at h3 <;> cases h3
theorem atom_46 (h1 : ¬ Rx.wrongAtom (Rx.pk l i) = true) (h : Rx.pk l i = 46) : Rx.atom l d i = .ok (.mk 1 (CSet.between 0 255) [] 0 0) (i + 1) := by unfold Rx.atom; rw [if_neg h1, if_neg (by omega), if_pos h]
theorem atom_clsbad (h1 : ¬ Rx.wrongAtom (Rx.pk l i) = true) (h : Rx.pk l i = 91) (h2 : Rx.cls l (i + 1) = .bad e p) : Rx.atom l d i = .bad e p := by unfold Rx.atom; rw [if_neg h1, if_neg (by omega), if_neg (by omega), if_pos h, h2]
theorem atom_cls (h1 : ¬ Rx.wrongAtom (Rx.pk l i) = true) (h : Rx.pk l i = 91) (h2 : Rx.cls l (i + 1) = .ok S p) : Rx.atom l d i = .ok (.mk 1 S [] 0 0) p := by unfold Rx.atom; rw [if_neg h1, if_neg (by omega), if_neg (by omega), if_pos h, h2]
theorem atom_escbad (h1 : ¬ Rx.wrongAtom (Rx.pk l i) = true) (h : Rx.pk l i = 92) (h2 : Rx.esc l i = .bad e p) : Rx.atom l d i = .bad e p := by unfold Rx.atom; rw [if_neg h1, if_neg (by omega), if_neg (by omega), if_neg (by omega), if_pos h, h2]
theorem atom_esc {a : CSet × Bool} (h1 : ¬ Rx.wrongAtom (Rx.pk l i) = true) (h : Rx.pk l i = 92) (h2 : Rx.esc l i = .ok a p) : Rx.atom l d i = .ok (.mk 1 a.1 [] 0 0) p := by
 obtain ⟨S, m⟩ := a; unfold Rx.atom; rw [if_neg h1, if_neg (by omega), if_neg (by omega), if_neg (by omega), if_pos h, h2]
theorem atom_else (h1 : ¬ Rx.wrongAtom (Rx.pk l i) = true) (h2 : Rx.pk l i ≠ 40) (h3 : Rx.pk l i ≠ 46) (h4 : Rx.pk l i ≠ 91) (h5 : Rx.pk l i ≠ 92) : Rx.atom l d i = .ok (.mk 1 (Rx.one (Rx.pk l i)) [] 0 0) (i + 1) := by unfold Rx.atom; rw [if_neg h1, if_neg h2, if_neg h3, if_neg h4, if_neg h5]
end
theorem leaf_v (S : CSet) : nodeV (.mk 1 S [] 0 0) = nsV ⟨1, S, [], 0, 0⟩ := by unfold nodeV ns; show nsV ⟨1, S, nodeRows [], 0, 0⟩ = _; unfold nodeRows; rfl
theorem atom_step (s : ByteArray) (hs : s.size ≤ 1000) (d : Nat) (op : Int) (hop : op = 16 - (d : Int)) (hd : d ≤ 16) (H : ∀ d', d = d' + 1 → ∀ op', op' = 16 - (d' : Int) → AtomC s op' (Rx.atom s.data.toList d')) : AtomC s op (Rx.atom s.data.toList d) := by
 have hl : s.data.toList.length = s.size := by simp
 intro i I hI hi
 have hbd := pkb s.data.toList i
 have hin := fun h => pk_in (l := s.data.toList) (i := i) h
 have P1 := peek_l s op hI
 have W1 := wrong_c s op nodeV hI
 have O1 := other_bad (α := Node) s.data.toList i
 have wi := wrong_iff (b := Rx.pk s.data.toList i)
 obtain ⟨b, hb⟩ : ∃ b, b = Rx.pk s.data.toList i := ⟨_, rfl⟩
 by_cases q1 : Rx.wrongAtom (Rx.pk s.data.toList i) = true
 · have sp := atom_wrong (d := d) q1
   have q := wi.1 q1
   rw [← hb] at P1 q
   refine methO_of lay_ok (Tryz.call173) (Tryz.func173) rfl ?_; intro A E Q hE hf hQ hP
   generalize (Rx.other s.data.toList i : Res Node) = r at *
   cbv
   repeat' (first | (refine r_true hE rfl ?_; cbv) | (refine r_false hE rfl ?_; cbv) | (refine use_meth hE P1 rfl rfl rfl rfl rfl ?_; cbv) | (refine use_bad hE W1 rfl rfl rfl rfl rfl O1 (fun e p X hr hX => ?_); cbv) | (refine c_eql hE (fun h => ?_) (fun h => ?_) <;> first | (exfalso; omega) | cbv) | (refine c_neq hE (fun h => ?_) (fun h => ?_) <;> first | (exfalso; omega) | cbv) | (refine c_lss hE (fun h => ?_) (fun h => ?_) <;> first | (exfalso; omega) | cbv) | (refine c_leq hE (fun h => ?_) (fun h => ?_) <;> first | (exfalso; omega) | cbv) | (refine c_gtr hE (fun h => ?_) (fun h => ?_) <;> first | (exfalso; omega) | cbv) | (refine c_geq hE (fun h => ?_) (fun h => ?_) <;> first | (exfalso; omega) | cbv) | (refine c_seql hE (fun h => ?_) (fun h => ?_) <;> first | (exfalso; omega) | cbv) | (refine c_sneq hE (fun h => ?_) (fun h => ?_) <;> first | (exfalso; omega) | cbv) | (refine r_sin hE ?_ ?_ ?_; rotate_left 2; cbv) | (refine r_ssin hE ?_ ?_ ?_ ?_; rotate_left 3; cbv) | (refine use_draw hE lay_ok (by kernel_rfl) (by kernel_rfl) ?_; cbv) | (refine c_b hE (fun h => ?_) (fun h => ?_) <;> cbv))
   all_goals exact hP _ _ _ rfl rfl (by rw [sp, hr]; exact pan_eq hX)
 have nq : ¬ _ := fun h => q1 (wi.2 h)
 have hlt : i < s.data.toList.length := hin (fun e => nq (by omega))
 rw [← hb] at P1 nq hbd
 have hb' := hb.symm
 by_cases q2 : b = 40
 · have q2' := hb'.trans q2
   refine methO_of lay_ok (Tryz.call173) (Tryz.func173) rfl ?_; intro A E Q hE hf hQ hP
   obtain ⟨N, hN⟩ : ∃ N, N = E.ar .add .i64 op 1 := ⟨_, rfl⟩
   have hN1 : N = op + 1 := hN.trans (e_add hE (by omega) (by omega))
   by_cases q3 : d = 0
   · have sp : Rx.atom s.data.toList d i = .bad 3 i := by rw [q3]; exact atom_0 q1 q2'
     have h16 : (16 : Int) < E.ar .add .i64 op 1 := by rw [← hN]; omega
     cbv
     repeat' (first | (refine r_true hE rfl ?_; cbv) | (refine r_false hE rfl ?_; cbv) | (refine use_meth hE P1 rfl rfl rfl rfl rfl ?_; cbv) | (refine c_gtr hE (fun h => ?_) (fun h => absurd h16 h); cbv) | (refine use_thr hE (fail_t _ _) rfl rfl ?_; cbv) | (refine c_eql hE (fun h => ?_) (fun h => ?_) <;> first | (exfalso; omega) | cbv) | (refine c_neq hE (fun h => ?_) (fun h => ?_) <;> first | (exfalso; omega) | cbv) | (refine c_lss hE (fun h => ?_) (fun h => ?_) <;> first | (exfalso; omega) | cbv) | (refine c_leq hE (fun h => ?_) (fun h => ?_) <;> first | (exfalso; omega) | cbv) | (refine c_gtr hE (fun h => ?_) (fun h => ?_) <;> first | (exfalso; omega) | cbv) | (refine c_geq hE (fun h => ?_) (fun h => ?_) <;> first | (exfalso; omega) | cbv) | (refine c_seql hE (fun h => ?_) (fun h => ?_) <;> first | (exfalso; omega) | cbv) | (refine c_sneq hE (fun h => ?_) (fun h => ?_) <;> first | (exfalso; omega) | cbv) | (refine r_sin hE ?_ ?_ ?_; rotate_left 2; cbv) | (refine r_ssin hE ?_ ?_ ?_ ?_; rotate_left 3; cbv) | (refine use_draw hE lay_ok (by kernel_rfl) (by kernel_rfl) ?_; cbv) | (refine c_b hE (fun h => ?_) (fun h => ?_) <;> cbv))
     exact hP _ _ _ rfl rfl (by rw [sp]; exact pan_eq hI)
   obtain ⟨d, rfl⟩ : ∃ d', d = d' + 1 := ⟨d - 1, by omega⟩
   have h16 : ¬ (16 : Int) < E.ar .add .i64 op 1 := by rw [← hN]; omega
   have hO : E.ar .sub .i64 (E.ar .add .i64 op 1) 1 = op := by rw [← hN]; exact (e_sub hE (by omega) (by omega)).trans (by omega)
   have g1 := e_inc hE hI (by omega)
   have hfn := fine_atom s.data.toList d
   have hln := Rx.size_atom s.data.toList d
   have A1 := alt_c s (E.ar .add .i64 op 1) (H d rfl _ (by rw [← hN]; omega)) hfn hln g1 (by omega) hs
   have F1 := fine_alt s.data.toList _ hfn (i + 1) (by omega)
   generalize hr1 : Rx.alt s.data.toList (Rx.atom s.data.toList d) (i + 1) = r1 at *
   cbv
   repeat' (first | (refine r_true hE rfl ?_; cbv) | (refine r_false hE rfl ?_; cbv) | (refine use_meth hE P1 rfl rfl rfl rfl rfl ?_; cbv) | (refine c_gtr hE (fun h => absurd h h16) (fun h => ?_); cbv) | (refine c_eql hE (fun h => ?_) (fun h => ?_) <;> first | (exfalso; omega) | cbv) | (refine c_neq hE (fun h => ?_) (fun h => ?_) <;> first | (exfalso; omega) | cbv) | (refine c_lss hE (fun h => ?_) (fun h => ?_) <;> first | (exfalso; omega) | cbv) | (refine c_leq hE (fun h => ?_) (fun h => ?_) <;> first | (exfalso; omega) | cbv) | (refine c_gtr hE (fun h => ?_) (fun h => ?_) <;> first | (exfalso; omega) | cbv) | (refine c_geq hE (fun h => ?_) (fun h => ?_) <;> first | (exfalso; omega) | cbv) | (refine c_seql hE (fun h => ?_) (fun h => ?_) <;> first | (exfalso; omega) | cbv) | (refine c_sneq hE (fun h => ?_) (fun h => ?_) <;> first | (exfalso; omega) | cbv) | (refine r_sin hE ?_ ?_ ?_; rotate_left 2; cbv) | (refine r_ssin hE ?_ ?_ ?_ ?_; rotate_left 3; cbv) | (refine use_draw hE lay_ok (by kernel_rfl) (by kernel_rfl) ?_; cbv) | (refine c_b hE (fun h => ?_) (fun h => ?_) <;> cbv))
   refine use_rn hE A1 rfl rfl rfl rfl rfl (fine0_ne F1) (fun n q K x hr hK hx => ?_) (fun e q X hr hX => ?_) <;> cbv
   case refine_2 => exact hP _ _ _ rfl rfl (by rw [atom_altbad q1 q2' (hr1.trans hr)]; exact pan_eq hX)
   have hq := fine0_le F1 hr
   have N1 := need_c s (E.ar .add .i64 op 1) (b := 41) hK (by omega) hs (by decide)
   have F3 := nd_ne s.data.toList q 41
   repeat' (first | (refine r_true hE rfl ?_; cbv) | (refine r_false hE rfl ?_; cbv) | (refine c_eql hE (fun h => ?_) (fun h => ?_) <;> first | (exfalso; omega) | cbv) | (refine c_neq hE (fun h => ?_) (fun h => ?_) <;> first | (exfalso; omega) | cbv) | (refine c_lss hE (fun h => ?_) (fun h => ?_) <;> first | (exfalso; omega) | cbv) | (refine c_leq hE (fun h => ?_) (fun h => ?_) <;> first | (exfalso; omega) | cbv) | (refine c_gtr hE (fun h => ?_) (fun h => ?_) <;> first | (exfalso; omega) | cbv) | (refine c_geq hE (fun h => ?_) (fun h => ?_) <;> first | (exfalso; omega) | cbv) | (refine c_seql hE (fun h => ?_) (fun h => ?_) <;> first | (exfalso; omega) | cbv) | (refine c_sneq hE (fun h => ?_) (fun h => ?_) <;> first | (exfalso; omega) | cbv) | (refine r_sin hE ?_ ?_ ?_; rotate_left 2; cbv) | (refine r_ssin hE ?_ ?_ ?_ ?_; rotate_left 3; cbv) | (refine use_draw hE lay_ok (by kernel_rfl) (by kernel_rfl) ?_; cbv) | (refine c_b hE (fun h => ?_) (fun h => ?_) <;> cbv))
   refine use_rd hE N1 rfl rfl rfl rfl rfl F3 (fun u z Z hr3 hZ => ?_) (fun e z X hr3 hX => ?_) <;> cbv
   case refine_2 => exact hP _ _ _ rfl rfl (by rw [atom_ndbad q1 q2' (hr1.trans hr) hr3]; exact pan_eq hX)
   repeat' (first | (refine r_true hE rfl ?_; cbv) | (refine r_false hE rfl ?_; cbv) | (refine c_eql hE (fun h => ?_) (fun h => ?_) <;> first | (exfalso; omega) | cbv) | (refine c_neq hE (fun h => ?_) (fun h => ?_) <;> first | (exfalso; omega) | cbv) | (refine c_lss hE (fun h => ?_) (fun h => ?_) <;> first | (exfalso; omega) | cbv) | (refine c_leq hE (fun h => ?_) (fun h => ?_) <;> first | (exfalso; omega) | cbv) | (refine c_gtr hE (fun h => ?_) (fun h => ?_) <;> first | (exfalso; omega) | cbv) | (refine c_geq hE (fun h => ?_) (fun h => ?_) <;> first | (exfalso; omega) | cbv) | (refine c_seql hE (fun h => ?_) (fun h => ?_) <;> first | (exfalso; omega) | cbv) | (refine c_sneq hE (fun h => ?_) (fun h => ?_) <;> first | (exfalso; omega) | cbv) | (refine r_sin hE ?_ ?_ ?_; rotate_left 2; cbv) | (refine r_ssin hE ?_ ?_ ?_ ?_; rotate_left 3; cbv) | (refine use_draw hE lay_ok (by kernel_rfl) (by kernel_rfl) ?_; cbv) | (refine c_b hE (fun h => ?_) (fun h => ?_) <;> cbv))
   exact And.left (hQ _ _ _ _ _ rfl rfl rfl rfl (by rw [atom_nd q1 q2' (hr1.trans hr) hr3]; exact ret_eqO (by show _ = nsV (ns n); rw [← hx]; rfl) hZ hO))
 by_cases q3 : b = 46
 · have q3' := hb'.trans q3
   have sp := atom_46 (d := d) q1 q3'
   have hof := f_of (x := 0) (y := 255) (lo := 0) (hi := 255) rfl rfl (by decide) (by decide)
   refine methO_of lay_ok (Tryz.call173) (Tryz.func173) rfl ?_; intro A E Q hE hf hQ hP
   have g1 := e_inc hE hI (by omega)
   cbv
   repeat' (first | (refine r_true hE rfl ?_; cbv) | (refine r_false hE rfl ?_; cbv) | (refine use_meth hE P1 rfl rfl rfl rfl rfl ?_; cbv) | (refine use_s hE hof rfl rfl fun x hx => ?_; cbv) | (refine c_eql hE (fun h => ?_) (fun h => ?_) <;> first | (exfalso; omega) | cbv) | (refine c_neq hE (fun h => ?_) (fun h => ?_) <;> first | (exfalso; omega) | cbv) | (refine c_lss hE (fun h => ?_) (fun h => ?_) <;> first | (exfalso; omega) | cbv) | (refine c_leq hE (fun h => ?_) (fun h => ?_) <;> first | (exfalso; omega) | cbv) | (refine c_gtr hE (fun h => ?_) (fun h => ?_) <;> first | (exfalso; omega) | cbv) | (refine c_geq hE (fun h => ?_) (fun h => ?_) <;> first | (exfalso; omega) | cbv) | (refine c_seql hE (fun h => ?_) (fun h => ?_) <;> first | (exfalso; omega) | cbv) | (refine c_sneq hE (fun h => ?_) (fun h => ?_) <;> first | (exfalso; omega) | cbv) | (refine r_sin hE ?_ ?_ ?_; rotate_left 2; cbv) | (refine r_ssin hE ?_ ?_ ?_ ?_; rotate_left 3; cbv) | (refine use_draw hE lay_ok (by kernel_rfl) (by kernel_rfl) ?_; cbv) | (refine c_b hE (fun h => ?_) (fun h => ?_) <;> cbv))
   exact And.left (hQ _ _ _ _ _ rfl rfl rfl rfl (by rw [sp]; exact ret_eq (by rw [leaf_v, ← hx]; rfl) g1))
 by_cases q4 : b = 91
 · have q4' := hb'.trans q4
   have F1 := fine_ne (fine_cls s.data.toList (i + 1) (by omega))
   refine methO_of lay_ok (Tryz.call173) (Tryz.func173) rfl ?_; intro A E Q hE hf hQ hP
   have g1 := e_inc hE hI (by omega)
   have C1 := class_c s op g1 (by omega) hs
   cbv
   repeat' (first | (refine r_true hE rfl ?_; cbv) | (refine r_false hE rfl ?_; cbv) | (refine use_meth hE P1 rfl rfl rfl rfl rfl ?_; cbv) | (refine c_eql hE (fun h => ?_) (fun h => ?_) <;> first | (exfalso; omega) | cbv) | (refine c_neq hE (fun h => ?_) (fun h => ?_) <;> first | (exfalso; omega) | cbv) | (refine c_lss hE (fun h => ?_) (fun h => ?_) <;> first | (exfalso; omega) | cbv) | (refine c_leq hE (fun h => ?_) (fun h => ?_) <;> first | (exfalso; omega) | cbv) | (refine c_gtr hE (fun h => ?_) (fun h => ?_) <;> first | (exfalso; omega) | cbv) | (refine c_geq hE (fun h => ?_) (fun h => ?_) <;> first | (exfalso; omega) | cbv) | (refine c_seql hE (fun h => ?_) (fun h => ?_) <;> first | (exfalso; omega) | cbv) | (refine c_sneq hE (fun h => ?_) (fun h => ?_) <;> first | (exfalso; omega) | cbv) | (refine r_sin hE ?_ ?_ ?_; rotate_left 2; cbv) | (refine r_ssin hE ?_ ?_ ?_ ?_; rotate_left 3; cbv) | (refine use_draw hE lay_ok (by kernel_rfl) (by kernel_rfl) ?_; cbv) | (refine c_b hE (fun h => ?_) (fun h => ?_) <;> cbv))
   refine use_rd hE C1 rfl rfl rfl rfl rfl F1 (fun S z Z hr hZ => ?_) (fun e z X hr hX => ?_) <;> cbv
   case refine_2 => exact hP _ _ _ rfl rfl (by rw [atom_clsbad q1 q4' hr]; exact pan_eq hX)
   repeat' (first | (refine r_true hE rfl ?_; cbv) | (refine r_false hE rfl ?_; cbv) | (refine c_eql hE (fun h => ?_) (fun h => ?_) <;> first | (exfalso; omega) | cbv) | (refine c_neq hE (fun h => ?_) (fun h => ?_) <;> first | (exfalso; omega) | cbv) | (refine c_lss hE (fun h => ?_) (fun h => ?_) <;> first | (exfalso; omega) | cbv) | (refine c_leq hE (fun h => ?_) (fun h => ?_) <;> first | (exfalso; omega) | cbv) | (refine c_gtr hE (fun h => ?_) (fun h => ?_) <;> first | (exfalso; omega) | cbv) | (refine c_geq hE (fun h => ?_) (fun h => ?_) <;> first | (exfalso; omega) | cbv) | (refine c_seql hE (fun h => ?_) (fun h => ?_) <;> first | (exfalso; omega) | cbv) | (refine c_sneq hE (fun h => ?_) (fun h => ?_) <;> first | (exfalso; omega) | cbv) | (refine r_sin hE ?_ ?_ ?_; rotate_left 2; cbv) | (refine r_ssin hE ?_ ?_ ?_ ?_; rotate_left 3; cbv) | (refine use_draw hE lay_ok (by kernel_rfl) (by kernel_rfl) ?_; cbv) | (refine c_b hE (fun h => ?_) (fun h => ?_) <;> cbv))
   exact And.left (hQ _ _ _ _ _ rfl rfl rfl rfl (by rw [atom_cls q1 q4' hr]; exact ret_eq (by rw [leaf_v]; rfl) hZ))
 by_cases q5 : b = 92
 · have q5' := hb'.trans q5
   have F1 := fine_ne (fine_esc s.data.toList i)
   have C1 := escape_c s op hI (by omega) hs
   refine methO_of lay_ok (Tryz.call173) (Tryz.func173) rfl ?_; intro A E Q hE hf hQ hP
   cbv
   repeat' (first | (refine r_true hE rfl ?_; cbv) | (refine r_false hE rfl ?_; cbv) | (refine use_meth hE P1 rfl rfl rfl rfl rfl ?_; cbv) | (refine c_eql hE (fun h => ?_) (fun h => ?_) <;> first | (exfalso; omega) | cbv) | (refine c_neq hE (fun h => ?_) (fun h => ?_) <;> first | (exfalso; omega) | cbv) | (refine c_lss hE (fun h => ?_) (fun h => ?_) <;> first | (exfalso; omega) | cbv) | (refine c_leq hE (fun h => ?_) (fun h => ?_) <;> first | (exfalso; omega) | cbv) | (refine c_gtr hE (fun h => ?_) (fun h => ?_) <;> first | (exfalso; omega) | cbv) | (refine c_geq hE (fun h => ?_) (fun h => ?_) <;> first | (exfalso; omega) | cbv) | (refine c_seql hE (fun h => ?_) (fun h => ?_) <;> first | (exfalso; omega) | cbv) | (refine c_sneq hE (fun h => ?_) (fun h => ?_) <;> first | (exfalso; omega) | cbv) | (refine r_sin hE ?_ ?_ ?_; rotate_left 2; cbv) | (refine r_ssin hE ?_ ?_ ?_ ?_; rotate_left 3; cbv) | (refine use_draw hE lay_ok (by kernel_rfl) (by kernel_rfl) ?_; cbv) | (refine c_b hE (fun h => ?_) (fun h => ?_) <;> cbv))
   refine use_rd hE C1 rfl rfl rfl rfl rfl F1 (fun S z Z hr hZ => ?_) (fun e z X hr hX => ?_) <;> cbv
   case refine_2 => exact hP _ _ _ rfl rfl (by rw [atom_escbad q1 q5' hr]; exact pan_eq hX)
   repeat' (first | (refine r_true hE rfl ?_; cbv) | (refine r_false hE rfl ?_; cbv) | (refine c_eql hE (fun h => ?_) (fun h => ?_) <;> first | (exfalso; omega) | cbv) | (refine c_neq hE (fun h => ?_) (fun h => ?_) <;> first | (exfalso; omega) | cbv) | (refine c_lss hE (fun h => ?_) (fun h => ?_) <;> first | (exfalso; omega) | cbv) | (refine c_leq hE (fun h => ?_) (fun h => ?_) <;> first | (exfalso; omega) | cbv) | (refine c_gtr hE (fun h => ?_) (fun h => ?_) <;> first | (exfalso; omega) | cbv) | (refine c_geq hE (fun h => ?_) (fun h => ?_) <;> first | (exfalso; omega) | cbv) | (refine c_seql hE (fun h => ?_) (fun h => ?_) <;> first | (exfalso; omega) | cbv) | (refine c_sneq hE (fun h => ?_) (fun h => ?_) <;> first | (exfalso; omega) | cbv) | (refine r_sin hE ?_ ?_ ?_; rotate_left 2; cbv) | (refine r_ssin hE ?_ ?_ ?_ ?_; rotate_left 3; cbv) | (refine use_draw hE lay_ok (by kernel_rfl) (by kernel_rfl) ?_; cbv) | (refine c_b hE (fun h => ?_) (fun h => ?_) <;> cbv))
   exact And.left (hQ _ _ _ _ _ rfl rfl rfl rfl (by rw [atom_esc q1 q5' hr]; exact ret_eq (by rw [leaf_v]; rfl) hZ))
 have sp := atom_else (d := d) q1 (by rw [← hb]; exact q2) (by rw [← hb]; exact q3) (by rw [← hb]; exact q4) (by rw [← hb]; exact q5)
 rw [← hb] at sp
 refine methO_of lay_ok (Tryz.call173) (Tryz.func173) rfl ?_; intro A E Q hE hf hQ hP
 have g1 := e_inc hE hI (by omega)
 have hcb := conv_byte hE (b := b) (by omega) hbd.2
 have hof := f_of (x := E.conv .u8 b) (y := E.conv .u8 b) (lo := b.toNat) (hi := b.toNat) hcb hcb (by omega) (by omega)
 cbv
 repeat' (first | (refine r_true hE rfl ?_; cbv) | (refine r_false hE rfl ?_; cbv) | (refine use_meth hE P1 rfl rfl rfl rfl rfl ?_; cbv) | (refine use_s hE hof rfl rfl fun x hx => ?_; cbv) | (refine c_eql hE (fun h => ?_) (fun h => ?_) <;> first | (exfalso; omega) | cbv) | (refine c_neq hE (fun h => ?_) (fun h => ?_) <;> first | (exfalso; omega) | cbv) | (refine c_lss hE (fun h => ?_) (fun h => ?_) <;> first | (exfalso; omega) | cbv) | (refine c_leq hE (fun h => ?_) (fun h => ?_) <;> first | (exfalso; omega) | cbv) | (refine c_gtr hE (fun h => ?_) (fun h => ?_) <;> first | (exfalso; omega) | cbv) | (refine c_geq hE (fun h => ?_) (fun h => ?_) <;> first | (exfalso; omega) | cbv) | (refine c_seql hE (fun h => ?_) (fun h => ?_) <;> first | (exfalso; omega) | cbv) | (refine c_sneq hE (fun h => ?_) (fun h => ?_) <;> first | (exfalso; omega) | cbv) | (refine r_sin hE ?_ ?_ ?_; rotate_left 2; cbv) | (refine r_ssin hE ?_ ?_ ?_ ?_; rotate_left 3; cbv) | (refine use_draw hE lay_ok (by kernel_rfl) (by kernel_rfl) ?_; cbv) | (refine c_b hE (fun h => ?_) (fun h => ?_) <;> cbv))
 exact And.left (hQ _ _ _ _ _ rfl rfl rfl rfl (by rw [sp]; exact ret_eq (by rw [leaf_v, show Rx.one b = x from hx.symm]; rfl) g1))
theorem atom_c (s : ByteArray) (hs : s.size ≤ 1000) : ∀ (d : Nat) (op : Int), op = 16 - (d : Int) → d ≤ 16 → AtomC s op (Rx.atom s.data.toList d) := by
 intro d
 induction d with
 | zero => exact fun op hop hd => atom_step s hs 0 op hop hd (fun d' e => by omega)
 | succ d ih => exact fun op hop hd => atom_step s hs (d + 1) op hop hd (fun d' e op' h' => by cases Nat.succ.inj e; exact ih op' h' (by omega))
end Rd
end Go.Proofs.YtagppjldegblhaaGreatDoor
namespace Go.Proofs.YtagppjldegblhaaGreatDoor
open Go Go.RowKit
namespace Ab
section
variable {P : Program} {A : Run} {L : TypeId → Option Lt}
theorem Rel.again {cx : Cx} {s : St} {a : Act} {w : World} (R : Rel A cx s a w) (hpin : ∀ i, A.pin i = none) (n : Nat) (hn : n ≤ s.heap.length) (pan : V → St → Prop) (D : List Deferred) (i : Tmp) (u : Value) :
 Rel ⟨A.w, A.M, A.G, fun i => if i < n then cx.at_ i else none, n, pan, D⟩ cx ⟨s.tmps.set i .junk, s.heap, n⟩ { a.put (some i) u with defers := D } w := by
 refine ⟨VReps.put (s := s) R.tm (.junk u) (some i), rfl, R.hp, ?_, rfl⟩
 refine ⟨R.kp.os, R.kp.tape, R.kp.output, R.kp.size, R.kp.block, R.kp.live, R.kp.G0, R.kp.G1, R.kp.G2, fun j B h => ?_, hn, R.kp.tab⟩
 have h' : (if j < n then cx.at_ j else none) = some B := h
 split at h'
 · rename_i e; exact ⟨h', e⟩
 · cases h'
theorem defer_wp (hL : LayOk P L) {c0 c1 r3 rest : Code} {s0 : St} {a0 : Act} {w0 : World} {cx0 : Cx} (R0 : Rel A cx0 s0 a0 w0) (hD : A.D = []) {W : Exit → Act → World → Prop} {Q1 : Ex → St → Prop}
 (h1 : pwp (dom P A) L (c0.seq c1) s0 Q1) (hpan : ∀ v t, ¬ A.pan v t)
 (hret : ∀ e e' s cx a w, e ≠ .normal → exRel e e' → Q1 e' s → Rel A cx s a w → W e a w)
 (hnor : ∀ s cx a w, Q1 .normal s → Rel A cx s a w → a.defers = [] → r3.wp P (Exit.then (rest.wp P W) W) a w) :
 (c0.seq (c1.seq (r3.seq rest))).wp P W a0 w0 := by
 refine wp_seq ?_
 have h1' : pwp (dom P A) L c0 s0 (fun e s => match e with | .normal => pwp (dom P A) L c1 s Q1 | e => Q1 e s) := h1
 refine wp_mono (pwp_sound hL c0 s0 _ h1' cx0 a0 w0 R0) fun e a w h => ?_
 rcases h with ⟨e', s', cx', g1, g2, g3⟩ | ⟨ch, rfl, h⟩
 case inr => obtain ⟨v, u, s, cx, -, -, h, -⟩ := h; exact absurd h (hpan _ _)
 cases e with
 | normal =>
   cases e' <;> first | exact g1.elim | skip
   refine wp_seq (wp_mono (pwp_sound hL c1 s' _ g2 cx' a w g3) fun e a w h => ?_)
   rcases h with ⟨e', s2, cx2, k1, k2, k3⟩ | ⟨ch, rfl, h⟩
   case inr => obtain ⟨v, u, s, cx, -, -, h, -⟩ := h; exact absurd h (hpan _ _)
   cases e with
   | normal =>
     cases e' <;> first | exact k1.elim | skip
     exact wp_seq (hnor s2 cx2 a w k2 k3 (k3.df.trans hD))
   | _ => exact hret _ _ _ _ _ _ (by simp) k1 k2 k3
 | _ => cases e' <;> first | exact g1.elim | exact hret _ _ _ _ _ _ (by simp) g1 g2 g3
end
end Ab
end Go.Proofs.YtagppjldegblhaaGreatDoor
namespace Go.Proofs.YtagppjldegblhaaGreatDoor
open Go Go.RowKit
structure Only (rb : Nat) (w w' : World) : Prop where
 os : w'.os = w.os
 tape : w'.tape = w.tape
 output : w'.output = w.output
 size : w.heap.size ≤ w'.heap.size
 block : ∀ k, k < w.heap.size → k ≠ rb → w'.heap[k]? = w.heap[k]?
section
variable {rb : Nat} {a w w' : World}
theorem Only.refl (rb : Nat) (w : World) : Only rb w w := ⟨rfl, rfl, rfl, Nat.le_refl _, fun _ _ _ => rfl⟩
theorem Only.set (h : Only rb a w) {p : Addr} (hp : p.block = rb ∨ a.heap.size ≤ p.block) (u : Value) : Only rb a (w.setCell p u) :=
 ⟨h.os, h.tape, h.output, by simpa [World.setCell] using h.size, fun i hi hne => (Below.heap_setCell w p u i (by
  rintro rfl
  rcases hp with hp | hp
  · exact hne hp
  · omega)).trans (h.block i hi hne)⟩
theorem Only.blk {g : Nat} {t : TypeId} {cs : Array Value} (h : Only rb w w') (hg : g ≠ rb) (hb : Blk w g cs t) : Blk w' g cs t := (h.block g hb.lt hg).trans hb
end
theorem set8_only (rb : Nat) (w : World) (v0 v1 v2 v3 v4 v5 v6 v7 : Value) : Only rb w ((((((((w.setCell ⟨rb, 0, none⟩ v0).setCell ⟨rb, 1, none⟩ v1).setCell ⟨rb, 2, none⟩ v2).setCell ⟨rb, 3, none⟩ v3).setCell ⟨rb, 4, none⟩ v4).setCell ⟨rb, 5, none⟩ v5).setCell ⟨rb, 6, none⟩ v6).setCell ⟨rb, 7, none⟩ v7) :=
 ((((((((Only.refl rb w).set (Or.inl rfl) _).set (Or.inl rfl) _).set (Or.inl rfl) _).set (Or.inl rfl) _).set (Or.inl rfl) _).set (Or.inl rfl) _).set (Or.inl rfl) _).set (Or.inl rfl) _
theorem Only.below {B rb : Nat} {w w' : World} (h : Only rb w w') (h1 : B ≤ rb) (h2 : B ≤ w.heap.size) : Below B w w' := ⟨h.os, h.tape, h.output, h.size, fun k hk => h.block k (by omega) (by omega)⟩
theorem Blk.put8 {w : World} {g t : Nat} {cs : Array Value} (h : Blk w g cs t) (hc : cs.size = 8) (v0 v1 v2 v3 v4 v5 v6 v7 : Value) : Blk ((((((((w.setCell ⟨g, 0, none⟩ v0).setCell ⟨g, 1, none⟩ v1).setCell ⟨g, 2, none⟩ v2).setCell ⟨g, 3, none⟩ v3).setCell ⟨g, 4, none⟩ v4).setCell ⟨g, 5, none⟩ v5).setCell ⟨g, 6, none⟩ v6).setCell ⟨g, 7, none⟩ v7) g #[v0, v1, v2, v3, v4, v5, v6, v7] t := by
 refine Blk.is ((((((((h.put 0 v0).put 1 v1).put 2 v2).put 3 v3).put 4 v4).put 5 v5).put 6 v6).put 7 v7) ?_
 obtain ⟨l⟩ := cs
 match l, hc with
 | [a0, a1, a2, a3, a4, a5, a6, a7], _ => rfl
theorem catch_idle (g h : Nat) (w : World) :
 CallsD Tryz.prog 131 #[.pointer (some ⟨g, 0, none⟩), .pointer (some ⟨h, 0, none⟩)] .returning w fun e u' w' => e = .returned (.tuple #[]) ∧ u' = .returning ∧ w' = w := by
 refine callsD_of_wpS Tryz.func131 rfl fun c₀ cs hu => ?_
 apply wpS_seq
 apply wpS_region
 simp [wpOpsS, go_sem, recoverD, hu, Tryz.ntmps131, Exit.thenS]
 refine wpS_of_wp ?_
 go_wp2
 cases c₀
 simp_all [bodyPostS, results, Tryz.results131]
theorem catch_fault (g h : Nat) (e p : Int) (older : List PanicEntry) (w : World) (B : Nat) (c0 c1 c2 c3 c4 c5 c6 c7 d0 d1 : Value) (hg : Blk w g #[c0, c1, c2, c3, c4, c5, c6, c7] 91) (hh : Blk w h #[d0, d1] 43) (hgB : B ≤ g) (hhB : B ≤ h) (hne : g ≠ h) :
 CallsD Tryz.prog 131 #[.pointer (some ⟨g, 0, none⟩), .pointer (some ⟨h, 0, none⟩)] (.panicking ({ v := .iface 154 (.agg #[.int .i64 e, .int .i64 p]), recovered := false } :: older)) w fun x u' w' =>
  x = .returned (.tuple #[]) ∧ u' = .panicking ({ v := .iface 154 (.agg #[.int .i64 e, .int .i64 p]), recovered := true } :: older) ∧ Blk w' g #[.int .i64 0, .int .u64 0, .int .u64 0, .int .u64 0, .int .u64 0, .slice none 0 0, .int .i64 0, .int .i64 0] 91 ∧ Blk w' h #[.int .i64 e, .int .i64 p] 43 ∧ Below B w w' := by
 have g0 : w.cell? ⟨g, 0, none⟩ = some c0 := hg.cell 0
 have g1 : w.cell? ⟨g, 1, none⟩ = some c1 := hg.cell 1
 have g2 : w.cell? ⟨g, 2, none⟩ = some c2 := hg.cell 2
 have g3 : w.cell? ⟨g, 3, none⟩ = some c3 := hg.cell 3
 have g4 : w.cell? ⟨g, 4, none⟩ = some c4 := hg.cell 4
 have g5 : w.cell? ⟨g, 5, none⟩ = some c5 := hg.cell 5
 have g6 : w.cell? ⟨g, 6, none⟩ = some c6 := hg.cell 6
 have g7 : w.cell? ⟨g, 7, none⟩ = some c7 := hg.cell 7
 have gf : ∀ i, w.frozen? ⟨g, i, none⟩ = false := hg.frozen
 have h0 : w.cell? ⟨h, 0, none⟩ = some d0 := hh.cell 0
 have h1 : w.cell? ⟨h, 1, none⟩ = some d1 := hh.cell 1
 have hf : ∀ i, w.frozen? ⟨h, i, none⟩ = false := hh.frozen
 have hgl : g < w.heap.size := hg.lt
 have hhl : h < w.heap.size := hh.lt
 have hne2 : ¬ h = g := fun e => hne e.symm
 have HG := hid_mk hg
 have HH := hid_mk hh
 clear hg hh
 refine callsD_of_wpS Tryz.func131 rfl fun c₀ cs hu => ?_
 apply wpS_seq
 apply wpS_region
 simp [wpOpsS, go_sem, recoverD, hu, Tryz.ntmps131, Exit.thenS, Array.replicate, List.replicate]
 refine wpS_of_wp ?_
 have HU := hid_mk hu
 have hta : ∀ w, (Instr.typeAssert (.iface 154 (.agg #[.int .i64 e, .int .i64 p])) 20 154 true).run Tryz.prog w = .ok (.tuple #[.agg #[.int .i64 e, .int .i64 p], .bool true]) w := fun _ => by kernel_rfl
 clear hu
 go_wp2
 go_region
 go_wp2
 have hu := HU.out
 simp [bodyPostS, results, Tryz.results131, go_sem]
 have k1 := HG.out.put8 rfl (.int .i64 0) (.int .u64 0) (.int .u64 0) (.int .u64 0) (.int .u64 0) (.slice none 0 0) (.int .i64 0) (.int .i64 0)
 have k2 := (set8_only g w (.int .i64 0) (.int .u64 0) (.int .u64 0) (.int .u64 0) (.int .u64 0) (.slice none 0 0) (.int .i64 0) (.int .i64 0)).blk hne2 HH.out
 have k3 := (set8_only g w (.int .i64 0) (.int .u64 0) (.int .u64 0) (.int .u64 0) (.int .u64 0) (.slice none 0 0) (.int .i64 0) (.int .i64 0)).below hgB (by omega)
 refine ⟨?_, ?_, ?_⟩
 · exact Blk.drewN (Blk.alloc (Blk.far (Blk.far k1 (by exact hne) _) (by exact hne) _) _) 1
 · exact Blk.drewN (Blk.alloc (Blk.is (Blk.put (Blk.put k2 0 _) 1 _) rfl) _) 1
 · exact below_drewN (Below.alloc (Below.setCell (Below.setCell k3 hhB _) hhB _) (by simp [World.setCell]; omega) _) 1
end Go.Proofs.YtagppjldegblhaaGreatDoor
