/- Texts that the proof leans on. -/
import Derived.Test.YtagppjldegblhaaGreatDoorK232
set_option linter.unusedVariables false
set_option linter.unusedSimpArgs false
set_option maxRecDepth 100000
set_option maxHeartbeats 4000000
namespace Go.Proofs.YtagppjldegblhaaGreatDoor
open Go Go.RowKit
open Ab Sh
namespace Gn
theorem r13_item_w {N : Nat} {p0 : ByteArray} {p1 : Int} {r : Gr13_P} (h : r13_item_g N p0 p1 = some r) : FunS Tryz.prog 177 [fS p0, fI .i64 p1] (r13_item_s rw) r := by
 refine fun_w lay_ok Tryz.call177 Tryz.func177 rfl ?_
 intro A W E Q R hE hR hf hQ; rcases W with ⟨ar, cm, conj, cv, sl, sc, ct, sa, ss, ll, _, _, _, _, mi, mx, _, _, _⟩
 unfold r13_item_g at h
 rw [q_ar hE, q_cm hE] at h
 cbv
 refine L_call hE hR h (fun _ e => r13_sign_w e) rfl rfl fun a1 h => ?_; cbv
 refine L_rgJ hE lay_ok h 2 (fun j1 : Bool => [(26, fB j1)]) (fun j1 => []) (fun j1 h => ?_) (fun j1 h => ?_) <;> cbv
 · refine L_if hE h (fun h => ?_) (fun h => ?_) <;> cbv
   · cases h; (cbv; (try simp only [e_rnil hR]); repeat' (first | exact trivial | exact rfl | exact Or.inr trivial | apply And.intro))
   refine L_if hE h (fun h => ?_) (fun h => ?_) <;> cbv
   · cases h; (cbv; (try simp only [e_rnil hR]); repeat' (first | exact trivial | exact rfl | exact Or.inr trivial | apply And.intro))
   refine L_call hE hR h (fun _ e => r13_is_w e) rfl rfl fun a2 h => ?_; cbv
   cases h; (cbv; (try simp only [e_rnil hR]); repeat' (first | exact trivial | exact rfl | exact Or.inr trivial | apply And.intro))
 refine L_if hE h (fun h => ?_) (fun h => ?_) <;> cbv
 · exact And.left (hQ _ _ _ rfl rfl (by cases h; subst hR; rfl))
 refine L_call hE hR h (fun _ e => r13_sign_w e) rfl rfl fun a3 h => ?_; cbv
 refine L_if hE h (fun h => ?_) (fun h => ?_) <;> cbv
 · exact And.left (hQ _ _ _ rfl rfl (by cases h; subst hR; rfl))
 refine L_whole hE lay_ok (by kernel_rfl) (by kernel_rfl) ?_; cbv
 refine L_pcall hE hR h (fun _ e => r12_First_w e) rfl rfl fun a4 h => ?_; cbv
 refine L_pcall hE hR h (fun _ e => r12_First_w e) rfl rfl fun a5 h => ?_; cbv
 refine L_rgJ hE lay_ok h 11 (fun j2 : Bool => [(50, fB j2)]) (fun j2 => []) (fun j2 h => ?_) (fun j2 h => ?_) <;> cbv
 · refine L_if hE h (fun h => ?_) (fun h => ?_) <;> cbv
   · cases h; (cbv; (try simp only [e_rnil hR]); repeat' (first | exact trivial | exact rfl | exact Or.inr trivial | apply And.intro))
   cases h; (cbv; (try simp only [e_rnil hR]); repeat' (first | exact trivial | exact rfl | exact Or.inr trivial | apply And.intro))
 refine L_if hE h (fun h => ?_) (fun h => ?_) <;> cbv
 · refine L_call hE hR h (fun _ e => r13_bad_w e) rfl rfl fun a6 h => ?_; cbv
   exact And.left (hQ _ _ _ rfl rfl (by cases h; subst hR; rfl))
 refine L_tail hE lay_ok (by kernel_rfl) 6 (by kernel_rfl) ?_; cbv
 refine L_pcall hE hR h (fun _ e => r12_Between_w e) rfl rfl fun a7 h => ?_; cbv
 exact And.left (hQ _ _ _ rfl rfl (by cases h; subst hR; rfl))
theorem r13_class_w {N : Nat} {p0 : ByteArray} {p1 : Int} {r : Gr13_P} (h : r13_class_g N p0 p1 = some r) : FunS Tryz.prog 170 [fS p0, fI .i64 p1] (r13_class_s rw) r := by
 refine fun_w lay_ok Tryz.call170 Tryz.func170 rfl ?_
 intro A W E Q R hE hR hf hQ; rcases W with ⟨ar, cm, conj, cv, sl, sc, ct, sa, ss, ll, _, _, _, _, mi, mx, _, _, _⟩
 unfold r13_class_g at h
 rw [q_ar hE, q_cm hE] at h
 cbv
 refine L_call hE hR h (fun _ e => r13_is_w e) rfl rfl fun a1 h => ?_; cbv
 refine L_cdJ hE lay_ok h 1 (fun j1 : Int => [(1, fI .i64 j1)]) (fun j1 => []) (fun j1 h => ?_) (fun j1 h => ?_) <;> cbv
 · refine L_if hE h (fun h => ?_) (fun h => ?_) <;> cbv
   · cases h; (cbv; (try simp only [e_rnil hR]); repeat' (first | exact trivial | exact rfl | exact Or.inr trivial | apply And.intro))
   cases h; (cbv; (try simp only [e_rnil hR]); repeat' (first | exact trivial | exact rfl | exact Or.inr trivial | apply And.intro))
 refine L_call hE hR h (fun _ e => r13_item_w e) rfl rfl fun a2 h => ?_; cbv
 refine L_if hE h (fun h => ?_) (fun h => ?_) <;> cbv
 · exact And.left (hQ _ _ _ rfl rfl (by cases h; subst hR; rfl))
 refine L_for hE lay_ok 3 (fun g : Int × Int × CSet × (List Node) × Int × Int × CSet × Bool × Int × Int × Int × CSet × Nat => [(1, fI .i64 g.1)]) (fun g => [(1, .box 115 [fI .i64 g.2.1, fI .u64 (g.2.2.1.a.toNat : Int), fI .u64 (g.2.2.1.b.toNat : Int), fI .u64 (g.2.2.1.c.toNat : Int), fI .u64 (g.2.2.1.d.toNat : Int), .t (.slc (R _ nodeRow g.2.2.2.1)), fI .i64 g.2.2.2.2.1, fI .i64 g.2.2.2.2.2.1, fI .u64 (g.2.2.2.2.2.2.1.a.toNat : Int), fI .u64 (g.2.2.2.2.2.2.1.b.toNat : Int), fI .u64 (g.2.2.2.2.2.2.1.c.toNat : Int), fI .u64 (g.2.2.2.2.2.2.1.d.toNat : Int), fB g.2.2.2.2.2.2.2.1, fI .i64 g.2.2.2.2.2.2.2.2.1, fI .i64 g.2.2.2.2.2.2.2.2.2.1, fI .i64 g.2.2.2.2.2.2.2.2.2.2.1]), (2, .box 88 [fI .u64 (g.2.2.2.2.2.2.2.2.2.2.2.1.a.toNat : Int), fI .u64 (g.2.2.2.2.2.2.2.2.2.2.2.1.b.toNat : Int), fI .u64 (g.2.2.2.2.2.2.2.2.2.2.2.1.c.toNat : Int), fI .u64 (g.2.2.2.2.2.2.2.2.2.2.2.1.d.toNat : Int)])]) (fun g => r13_class_l1 N p0 a1 g.2.2.2.2.2.2.2.2.2.2.2.2 g.1 g.2.1 g.2.2.1 g.2.2.2.1 g.2.2.2.2.1 g.2.2.2.2.2.1 g.2.2.2.2.2.2.1 g.2.2.2.2.2.2.2.1 g.2.2.2.2.2.2.2.2.1 g.2.2.2.2.2.2.2.2.2.1 g.2.2.2.2.2.2.2.2.2.2.1 g.2.2.2.2.2.2.2.2.2.2.2.1 = some r) (fun g => g.2.2.2.2.2.2.2.2.2.2.2.2) (_, _, _, _, _, _, _, _, _, _, _, _, N) h ?_ ?_
 · (cbv; (try simp only [e_rnil hR]); repeat' (first | exact trivial | exact rfl | exact Or.inr trivial | apply And.intro))
 rintro ⟨v3, v4, v5, v6, v7, v8, v9, v10, v11, v12, v13, v14, m1⟩ h Q1 hN1 hT1 hX1
 have h : r13_class_l1 N p0 a1 m1 v3 v4 v5 v6 v7 v8 v9 v10 v11 v12 v13 v14 = some r := h
 cases m1 with
 | zero => exact nomatch (show (none : Option _) = some _ from h)
 | succ m1 =>
 rw [r13_class_l1] at h
 rw [q_ar hE, q_cm hE] at h
 cbv
 refine L_call hE hR h (fun _ e => r13_is_w e) rfl rfl fun a15 h => ?_; cbv
 refine L_if hE h (fun h => ?_) (fun h => ?_) <;> cbv
 · refine L_call hE hR h (fun _ e => r13_item_w e) rfl rfl fun a16 h => ?_; cbv
   refine L_if hE h (fun h => ?_) (fun h => ?_) <;> cbv
   · refine hT1 _ ?_
     exact And.left (hQ _ _ _ rfl rfl (by cases h; subst hR; rfl))
   refine L_call hE hR h (fun _ e => r12_Or_w e) rfl rfl fun a17 h => ?_; cbv
   refine hN1 _ (_, _, _, _, _, _, _, _, _, _, _, _, m1) [] h (Nat.lt_succ_self _) trivial ?_; (cbv; (try simp only [e_rnil hR]); repeat' (first | exact trivial | exact rfl | exact Or.inr trivial | apply And.intro))
 refine hX1 _ _ ?_; cbv
 refine L_cdJ hE lay_ok h 3 (fun j3 : CSet => []) (fun j3 => [(2, .box 88 [fI .u64 (j3.a.toNat : Int), fI .u64 (j3.b.toNat : Int), fI .u64 (j3.c.toNat : Int), fI .u64 (j3.d.toNat : Int)])]) (fun j3 h => ?_) (fun j3 h => ?_) <;> cbv
 · refine L_if hE h (fun h => ?_) (fun h => ?_) <;> cbv
   · refine L_call hE hR h (fun _ e => r12_Not_w e) rfl rfl fun a18 h => ?_; cbv
     cases h; (cbv; (try simp only [e_rnil hR]); repeat' (first | exact trivial | exact rfl | exact Or.inr trivial | apply And.intro))
   cases h; (cbv; (try simp only [e_rnil hR]); repeat' (first | exact trivial | exact rfl | exact Or.inr trivial | apply And.intro))
 exact And.left (hQ _ _ _ rfl rfl (by cases h; subst hR; rfl))
theorem r13_rep_w {p0 : Node} {p1 : Int} {p2 : Int} {p3 : Int} {r : Gr13_P} (h : r13_rep_g p0 p1 p2 p3 = some r) : FunS Tryz.prog 165 [.agg [fI .i64 p0.kind, fI .u64 (p0.set.a.toNat : Int), fI .u64 (p0.set.b.toNat : Int), fI .u64 (p0.set.c.toNat : Int), fI .u64 (p0.set.d.toNat : Int), .t (.slc (rw _ nodeRow p0.kids)), fI .i64 p0.min, fI .i64 p0.max], fI .i64 p1, fI .i64 p2, fI .i64 p3] (r13_rep_s rw) r := by
 refine fun_w lay_ok Tryz.call165 Tryz.func165 rfl ?_
 intro A W E Q R hE hR hf hQ; rcases W with ⟨ar, cm, conj, cv, sl, sc, ct, sa, ss, ll, _, _, _, _, mi, mx, _, _, _⟩
 rw [← hR]
 unfold r13_rep_g at h
 skip
 cbv
 refine L_lit hR (e := nodeRow) h (node_new hR) fun l1 e h => ?_; cbv at e; rw [e]; clear e
 exact And.left (hQ _ _ _ rfl rfl (by cases h; subst hR; rfl))
theorem r13_number_w {N : Nat} {p0 : ByteArray} {p1 : Int} {r : Int × Gr13_P} (h : r13_number_g N p0 p1 = some r) : FunS Tryz.prog 172 [fS p0, fI .i64 p1] (r13_number_s rw) r := by
 refine fun_w lay_ok Tryz.call172 Tryz.func172 rfl ?_
 intro A W E Q R hE hR hf hQ; rcases W with ⟨ar, cm, conj, cv, sl, sc, ct, sa, ss, ll, _, _, _, _, mi, mx, _, _, _⟩
 unfold r13_number_g at h
 skip
 cbv
 refine L_for hE lay_ok 1 (fun g : Int × Int × Nat => [(6, fI .i64 g.1), (7, fI .i64 g.2.1)]) (fun g => []) (fun g => r13_number_l1 p0 p1 g.2.2 g.1 g.2.1 = some r) (fun g => g.2.2) (_, _, N) h ?_ ?_
 · (cbv; (try simp only [e_rnil hR]); repeat' (first | exact trivial | exact rfl | exact Or.inr trivial | apply And.intro))
 rintro ⟨v1, v2, m1⟩ h Q1 hN1 hT1 hX1
 have h : r13_number_l1 p0 p1 m1 v1 v2 = some r := h
 cases m1 with
 | zero => exact nomatch (show (none : Option _) = some _ from h)
 | succ m1 =>
 rw [r13_number_l1] at h
 rw [q_ar hE, q_cm hE, q_cv hE, q_sl hE, q_sa hE] at h
 cbv
 refine L_rgJ hE lay_ok h 1 (fun j1 : Bool => [(24, fB j1)]) (fun j1 => []) (fun j1 h => ?_) (fun j1 h => ?_) <;> cbv
 · refine L_if hE h (fun h => ?_) (fun h => ?_) <;> cbv
   · refine L_sin hE h fun h => ?_
     refine L_if hE h (fun h => ?_) (fun h => ?_) <;> cbv
     · refine L_sin hE h fun h => ?_
       cases h; (cbv; (try simp only [e_rnil hR]); repeat' (first | exact trivial | exact rfl | exact Or.inr trivial | apply And.intro))
     cases h; (cbv; (try simp only [e_rnil hR]); repeat' (first | exact trivial | exact rfl | exact Or.inr trivial | apply And.intro))
   cases h; (cbv; (try simp only [e_rnil hR]); repeat' (first | exact trivial | exact rfl | exact Or.inr trivial | apply And.intro))
 refine L_if hE h (fun h => ?_) (fun h => ?_) <;> cbv
 · refine L_cdJ hE lay_ok h 1 (fun j2 : Int => [(7, fI .i64 j2)]) (fun j2 => []) (fun j2 h => ?_) (fun j2 h => ?_) <;> cbv
   · refine L_if hE h (fun h => ?_) (fun h => ?_) <;> cbv
     · refine L_sin hE h fun h => ?_
       cases h; (cbv; (try simp only [e_rnil hR]); repeat' (first | exact trivial | exact rfl | exact Or.inr trivial | apply And.intro))
     cases h; (cbv; (try simp only [e_rnil hR]); repeat' (first | exact trivial | exact rfl | exact Or.inr trivial | apply And.intro))
   refine hN1 _ (_, _, m1) [] h (Nat.lt_succ_self _) trivial ?_; (cbv; (try simp only [e_rnil hR]); repeat' (first | exact trivial | exact rfl | exact Or.inr trivial | apply And.intro))
 refine hX1 _ _ ?_; cbv
 refine L_if hE h (fun h => ?_) (fun h => ?_) <;> cbv
 · refine L_call hE hR h (fun _ e => r13_other_w e) rfl rfl fun a3 h => ?_; cbv
   exact And.left (hQ _ _ _ rfl rfl (by cases h; subst hR; rfl))
 refine L_rgJ hE lay_ok h 1 (fun j3 : Bool => [(52, fB j3)]) (fun j3 => []) (fun j3 h => ?_) (fun j3 h => ?_) <;> cbv
 · refine L_sin hE h fun h => ?_
   refine L_if hE h (fun h => ?_) (fun h => ?_) <;> cbv
   · cases h; (cbv; (try simp only [e_rnil hR]); repeat' (first | exact trivial | exact rfl | exact Or.inr trivial | apply And.intro))
   cases h; (cbv; (try simp only [e_rnil hR]); repeat' (first | exact trivial | exact rfl | exact Or.inr trivial | apply And.intro))
 refine L_if hE h (fun h => ?_) (fun h => ?_) <;> cbv
 · refine L_call hE hR h (fun _ e => r13_bad_w e) rfl rfl fun a4 h => ?_; cbv
   exact And.left (hQ _ _ _ rfl rfl (by cases h; subst hR; rfl))
 refine L_if hE h (fun h => ?_) (fun h => ?_) <;> cbv
 · refine L_call hE hR h (fun _ e => r13_bad_w e) rfl rfl fun a5 h => ?_; cbv
   exact And.left (hQ _ _ _ rfl rfl (by cases h; subst hR; rfl))
 exact And.left (hQ _ _ _ rfl rfl (by cases h; subst hR; rfl))
theorem r13_braces_w {N : Nat} {p0 : ByteArray} {p1 : Node} {p2 : Int} {r : Gr13_P} (h : r13_braces_g N p0 p1 p2 = some r) : FunS Tryz.prog 166 [fS p0, .agg [fI .i64 p1.kind, fI .u64 (p1.set.a.toNat : Int), fI .u64 (p1.set.b.toNat : Int), fI .u64 (p1.set.c.toNat : Int), fI .u64 (p1.set.d.toNat : Int), .t (.slc (rw _ nodeRow p1.kids)), fI .i64 p1.min, fI .i64 p1.max], fI .i64 p2] (r13_braces_s rw) r := by
 refine fun_w lay_ok Tryz.call166 Tryz.func166 rfl ?_
 intro A W E Q R hE hR hf hQ; rcases W with ⟨ar, cm, conj, cv, sl, sc, ct, sa, ss, ll, _, _, _, _, mi, mx, _, _, _⟩
 rw [← hR]
 unfold r13_braces_g at h
 rw [q_ar hE, q_cm hE] at h
 cbv
 refine L_call hE hR h (fun _ e => r13_number_w e) rfl rfl fun a1 h => ?_; cbv
 refine L_if hE h (fun h => ?_) (fun h => ?_) <;> cbv
 · exact And.left (hQ _ _ _ rfl rfl (by cases h; subst hR; rfl))
 refine L_rgJ hE lay_ok h 3 (fun j1 : Bool => [(36, fB j1)]) (fun j1 => []) (fun j1 h => ?_) (fun j1 h => ?_) <;> cbv
 · refine L_call hE hR h (fun _ e => r13_is_w e) rfl rfl fun a2 h => ?_; cbv
   refine L_if hE h (fun h => ?_) (fun h => ?_) <;> cbv
   · refine L_call hE hR h (fun _ e => r13_is_w e) rfl rfl fun a3 h => ?_; cbv
     cases h; (cbv; (try simp only [e_rnil hR]); repeat' (first | exact trivial | exact rfl | exact Or.inr trivial | apply And.intro))
   cases h; (cbv; (try simp only [e_rnil hR]); repeat' (first | exact trivial | exact rfl | exact Or.inr trivial | apply And.intro))
 refine L_if hE h (fun h => ?_) (fun h => ?_) <;> cbv
 · refine L_call hE hR h (fun _ e => r13_rep_w e) (by subst hR; rfl) rfl fun a4 h => ?_; cbv
   exact And.left (hQ _ _ _ rfl rfl (by cases h; subst hR; rfl))
 refine L_call hE hR h (fun _ e => r13_is_w e) rfl rfl fun a5 h => ?_; cbv
 refine L_cd hE lay_ok ?_; cbv
 refine L_if hE h (fun h => ?_) (fun h => ?_) <;> cbv
 · refine L_call hE hR h (fun _ e => r13_number_w e) rfl rfl fun a6 h => ?_; cbv
   refine L_if hE h (fun h => ?_) (fun h => ?_) <;> cbv
   · exact And.left (hQ _ _ _ rfl rfl (by cases h; subst hR; rfl))
   refine L_rgJ hE lay_ok h 3 (fun j2 : Bool => [(67, fB j2)]) (fun j2 => []) (fun j2 h => ?_) (fun j2 h => ?_) <;> cbv
   · refine L_if hE h (fun h => ?_) (fun h => ?_) <;> cbv
     · cases h; (cbv; (try simp only [e_rnil hR]); repeat' (first | exact trivial | exact rfl | exact Or.inr trivial | apply And.intro))
     cases h; (cbv; (try simp only [e_rnil hR]); repeat' (first | exact trivial | exact rfl | exact Or.inr trivial | apply And.intro))
   refine L_if hE h (fun h => ?_) (fun h => ?_) <;> cbv
   · refine L_call hE hR h (fun _ e => r13_bad_w e) rfl rfl fun a7 h => ?_; cbv
     exact And.left (hQ _ _ _ rfl rfl (by cases h; subst hR; rfl))
   refine L_call hE hR h (fun _ e => r13_is_w e) rfl rfl fun a8 h => ?_; cbv
   refine L_if hE h (fun h => ?_) (fun h => ?_) <;> cbv
   · refine L_call hE hR h (fun _ e => r13_other_w e) rfl rfl fun a9 h => ?_; cbv
     exact And.left (hQ _ _ _ rfl rfl (by cases h; subst hR; rfl))
   refine L_call hE hR h (fun _ e => r13_rep_w e) (by subst hR; rfl) rfl fun a10 h => ?_; cbv
   exact And.left (hQ _ _ _ rfl rfl (by cases h; subst hR; rfl))
 refine L_rgJ hE lay_ok h 3 (fun j3 : Bool => [(67, fB j3)]) (fun j3 => []) (fun j3 h => ?_) (fun j3 h => ?_) <;> cbv
 · refine L_if hE h (fun h => ?_) (fun h => ?_) <;> cbv
   · cases h; (cbv; (try simp only [e_rnil hR]); repeat' (first | exact trivial | exact rfl | exact Or.inr trivial | apply And.intro))
   cases h; (cbv; (try simp only [e_rnil hR]); repeat' (first | exact trivial | exact rfl | exact Or.inr trivial | apply And.intro))
 refine L_if hE h (fun h => ?_) (fun h => ?_) <;> cbv
 · refine L_call hE hR h (fun _ e => r13_bad_w e) rfl rfl fun a11 h => ?_; cbv
   exact And.left (hQ _ _ _ rfl rfl (by cases h; subst hR; rfl))
 refine L_call hE hR h (fun _ e => r13_is_w e) rfl rfl fun a12 h => ?_; cbv
 refine L_if hE h (fun h => ?_) (fun h => ?_) <;> cbv
 · refine L_call hE hR h (fun _ e => r13_other_w e) rfl rfl fun a13 h => ?_; cbv
   exact And.left (hQ _ _ _ rfl rfl (by cases h; subst hR; rfl))
 refine L_call hE hR h (fun _ e => r13_rep_w e) (by subst hR; rfl) rfl fun a14 h => ?_; cbv
 exact And.left (hQ _ _ _ rfl rfl (by cases h; subst hR; rfl))
end Gn
end Go.Proofs.YtagppjldegblhaaGreatDoor
namespace Go.Proofs.YtagppjldegblhaaGreatDoor
open Go Go.RowKit
open Ab Sh
namespace Gn
theorem r13_piece_w {rec : ByteArray → Int → Int → Option Gr13_P} (hrec : ∀ {p0 : ByteArray} {p1 : Int} {p2 : Int} {r : Gr13_P}, rec p0 p1 p2 = some r → FunS Tryz.prog 164 [fS p0, fI .i64 p1, fI .i64 p2] (r13_atom_s rw) r) {N : Nat} {p0 : ByteArray} {p1 : Int} {p2 : Int} {r : Gr13_P} (h : r13_piece_g rec N p0 p1 p2 = some r) : FunS Tryz.prog 151 [fS p0, fI .i64 p1, fI .i64 p2] (r13_piece_s rw) r := by
 refine fun_w lay_ok Tryz.call151 Tryz.func151 rfl ?_
 intro A W E Q R hE hR hf hQ; rcases W with ⟨ar, cm, conj, cv, sl, sc, ct, sa, ss, ll, _, _, _, _, mi, mx, _, _, _⟩
 unfold r13_piece_g at h
 rw [q_ar hE, q_cm hE, q_sl hE, q_sa hE] at h
 cbv
 refine L_call hE hR h (fun _ e => hrec e) rfl rfl fun a1 h => ?_; cbv
 refine L_rgJ hE lay_ok h 2 (fun j1 : Bool => [(23, fB j1)]) (fun j1 => []) (fun j1 h => ?_) (fun j1 h => ?_) <;> cbv
 · refine L_if hE h (fun h => ?_) (fun h => ?_) <;> cbv
   · cases h; (cbv; (try simp only [e_rnil hR]); repeat' (first | exact trivial | exact rfl | exact Or.inr trivial | apply And.intro))
   cases h; (cbv; (try simp only [e_rnil hR]); repeat' (first | exact trivial | exact rfl | exact Or.inr trivial | apply And.intro))
 refine L_if hE h (fun h => ?_) (fun h => ?_) <;> cbv
 · exact And.left (hQ _ _ _ rfl rfl (by cases h; subst hR; rfl))
 refine L_sin hE h fun h => ?_
 refine L_if hE h (fun h => ?_) (fun h => ?_) <;> cbv
 · refine L_call hE hR h (fun _ e => r13_rep_w e) (by subst hR; rfl) rfl fun a2 h => ?_; cbv
   exact And.left (hQ _ _ _ rfl rfl (by cases h; subst hR; rfl))
 refine L_if hE h (fun h => ?_) (fun h => ?_) <;> cbv
 · refine L_call hE hR h (fun _ e => r13_rep_w e) (by subst hR; rfl) rfl fun a3 h => ?_; cbv
   exact And.left (hQ _ _ _ rfl rfl (by cases h; subst hR; rfl))
 refine L_if hE h (fun h => ?_) (fun h => ?_) <;> cbv
 · refine L_call hE hR h (fun _ e => r13_rep_w e) (by subst hR; rfl) rfl fun a4 h => ?_; cbv
   exact And.left (hQ _ _ _ rfl rfl (by cases h; subst hR; rfl))
 refine L_if hE h (fun h => ?_) (fun h => ?_) <;> cbv
 · refine L_call hE hR h (fun _ e => r13_braces_w e) (by subst hR; rfl) rfl fun a5 h => ?_; cbv
   exact And.left (hQ _ _ _ rfl rfl (by cases h; subst hR; rfl))
 exact And.left (hQ _ _ _ rfl rfl (by cases h; subst hR; rfl))
theorem r13_cat_w {rec : ByteArray → Int → Int → Option Gr13_P} (hrec : ∀ {p0 : ByteArray} {p1 : Int} {p2 : Int} {r : Gr13_P}, rec p0 p1 p2 = some r → FunS Tryz.prog 164 [fS p0, fI .i64 p1, fI .i64 p2] (r13_atom_s rw) r) {N : Nat} {p0 : ByteArray} {p1 : Int} {p2 : Int} {r : Gr13_P} (h : r13_cat_g rec N p0 p1 p2 = some r) : FunS Tryz.prog 126 [fS p0, fI .i64 p1, fI .i64 p2] (r13_cat_s rw) r := by
 refine fun_w lay_ok Tryz.call126 Tryz.func126 rfl ?_
 intro A W E Q R hE hR hf hQ; rcases W with ⟨ar, cm, conj, cv, sl, sc, ct, sa, ss, ll, _, _, _, _, mi, mx, _, _, _⟩
 unfold r13_cat_g at h
 skip
 cbv
 refine L_for hE lay_ok 1 (fun g : Int × (List Node) × Nat => [(1, fI .i64 g.1), (7, .lst 1)]) (fun g => [(1, .list 91 8 (R _ nodeRow g.2.1))]) (fun g => r13_cat_l1 rec N p0 p2 g.2.2 g.1 g.2.1 = some r) (fun g => g.2.2) (_, _, N) h ?_ ?_
 · (cbv; (try simp only [e_rnil hR]); repeat' (first | exact trivial | exact rfl | exact Or.inr trivial | apply And.intro))
 rintro ⟨v1, v2, m1⟩ h Q1 hN1 hT1 hX1
 have h : r13_cat_l1 rec N p0 p2 m1 v1 v2 = some r := h
 cases m1 with
 | zero => exact nomatch (show (none : Option _) = some _ from h)
 | succ m1 =>
 rw [r13_cat_l1] at h
 rw [q_cm hE, q_sl hE, q_sa hE] at h
 cbv
 refine L_rgJ hE lay_ok h 2 (fun j2 : Bool => [(24, fB j2)]) (fun j2 => []) (fun j2 h => ?_) (fun j2 h => ?_) <;> cbv
 · refine L_if hE h (fun h => ?_) (fun h => ?_) <;> cbv
   · refine L_sin hE h fun h => ?_
     refine L_if hE h (fun h => ?_) (fun h => ?_) <;> cbv
     · refine L_sin hE h fun h => ?_
       cases h; (cbv; (try simp only [e_rnil hR]); repeat' (first | exact trivial | exact rfl | exact Or.inr trivial | apply And.intro))
     cases h; (cbv; (try simp only [e_rnil hR]); repeat' (first | exact trivial | exact rfl | exact Or.inr trivial | apply And.intro))
   cases h; (cbv; (try simp only [e_rnil hR]); repeat' (first | exact trivial | exact rfl | exact Or.inr trivial | apply And.intro))
 refine L_if hE h (fun h => ?_) (fun h => ?_) <;> cbv
 · refine L_call hE hR h (fun _ e => r13_piece_w (fun e => hrec e) e) rfl rfl fun a3 h => ?_; cbv
   refine L_if hE h (fun h => ?_) (fun h => ?_) <;> cbv
   · refine hT1 _ ?_
     exact And.left (hQ _ _ _ rfl rfl (by cases h; subst hR; rfl))
   refine L_lit hR (e := nodeRow) h (node_new hR) fun l4 e h => ?_; cbv at e; rw [e]; clear e
   refine L_app hE hR h (hf _) nodeRow_len (by decide) fun l5 e h => ?_; cbv at e; rw [e]; clear e
   refine hN1 _ (_, _, m1) [] h (Nat.lt_succ_self _) trivial ?_; (cbv; (try simp only [e_rnil hR]); repeat' (first | exact trivial | exact rfl | exact Or.inr trivial | apply And.intro))
 refine hX1 _ _ ?_; cbv
 refine L_give hE hR 1 h (fun _ e => r13_join_w e) rfl rfl (hf _) rfl (by subst hR; rfl) fun a6 h => ?_; cbv
 exact And.left (hQ _ _ _ rfl rfl (by cases h; subst hR; rfl))
theorem r13_alt_w {rec : ByteArray → Int → Int → Option Gr13_P} (hrec : ∀ {p0 : ByteArray} {p1 : Int} {p2 : Int} {r : Gr13_P}, rec p0 p1 p2 = some r → FunS Tryz.prog 164 [fS p0, fI .i64 p1, fI .i64 p2] (r13_atom_s rw) r) {N : Nat} {p0 : ByteArray} {p1 : Int} {p2 : Int} {r : Gr13_P} (h : r13_alt_g rec N p0 p1 p2 = some r) : FunS Tryz.prog 88 [fS p0, fI .i64 p1, fI .i64 p2] (r13_alt_s rw) r := by
 refine fun_w lay_ok Tryz.call88 Tryz.func88 rfl ?_
 intro A W E Q R hE hR hf hQ; rcases W with ⟨ar, cm, conj, cv, sl, sc, ct, sa, ss, ll, _, _, _, _, mi, mx, _, _, _⟩
 unfold r13_alt_g at h
 rw [q_cm hE] at h
 cbv
 refine L_call hE hR h (fun _ e => r13_cat_w (fun e => hrec e) e) rfl rfl fun a1 h => ?_; cbv
 refine L_rgJ hE lay_ok h 2 (fun j1 : Bool => [(23, fB j1)]) (fun j1 => []) (fun j1 h => ?_) (fun j1 h => ?_) <;> cbv
 · refine L_if hE h (fun h => ?_) (fun h => ?_) <;> cbv
   · cases h; (cbv; (try simp only [e_rnil hR]); repeat' (first | exact trivial | exact rfl | exact Or.inr trivial | apply And.intro))
   refine L_call hE hR h (fun _ e => r13_is_w e) rfl rfl fun a2 h => ?_; cbv
   cases h; (cbv; (try simp only [e_rnil hR]); repeat' (first | exact trivial | exact rfl | exact Or.inr trivial | apply And.intro))
 refine L_if hE h (fun h => ?_) (fun h => ?_) <;> cbv
 · exact And.left (hQ _ _ _ rfl rfl (by cases h; subst hR; rfl))
 refine L_lit hR (e := nodeRow) h (node_new hR) fun l3 e h => ?_; cbv at e; rw [e]; clear e
 refine L_for hE lay_ok 3 (fun g : Int × CSet × (List Node) × Int × Int × CSet × Bool × Int × Int × Int × (List Node) × Nat => [(8, .lst 2)]) (fun g => [(1, .box 115 [fI .i64 g.1, fI .u64 (g.2.1.a.toNat : Int), fI .u64 (g.2.1.b.toNat : Int), fI .u64 (g.2.1.c.toNat : Int), fI .u64 (g.2.1.d.toNat : Int), .t (.slc (R _ nodeRow g.2.2.1)), fI .i64 g.2.2.2.1, fI .i64 g.2.2.2.2.1, fI .u64 (g.2.2.2.2.2.1.a.toNat : Int), fI .u64 (g.2.2.2.2.2.1.b.toNat : Int), fI .u64 (g.2.2.2.2.2.1.c.toNat : Int), fI .u64 (g.2.2.2.2.2.1.d.toNat : Int), fB g.2.2.2.2.2.2.1, fI .i64 g.2.2.2.2.2.2.2.1, fI .i64 g.2.2.2.2.2.2.2.2.1, fI .i64 g.2.2.2.2.2.2.2.2.2.1]), (2, .list 91 8 (R _ nodeRow g.2.2.2.2.2.2.2.2.2.2.1))]) (fun g => r13_alt_l1 rec N p0 p2 g.2.2.2.2.2.2.2.2.2.2.2 g.1 g.2.1 g.2.2.1 g.2.2.2.1 g.2.2.2.2.1 g.2.2.2.2.2.1 g.2.2.2.2.2.2.1 g.2.2.2.2.2.2.2.1 g.2.2.2.2.2.2.2.2.1 g.2.2.2.2.2.2.2.2.2.1 g.2.2.2.2.2.2.2.2.2.2.1 = some r) (fun g => g.2.2.2.2.2.2.2.2.2.2.2) (_, _, _, _, _, _, _, _, _, _, _, N) h ?_ ?_
 · (cbv; (try simp only [e_rnil hR]); repeat' (first | exact trivial | exact rfl | exact Or.inr trivial | apply And.intro))
 rintro ⟨v4, v5, v6, v7, v8, v9, v10, v11, v12, v13, v14, m1⟩ h Q1 hN1 hT1 hX1
 have h : r13_alt_l1 rec N p0 p2 m1 v4 v5 v6 v7 v8 v9 v10 v11 v12 v13 v14 = some r := h
 cases m1 with
 | zero => exact nomatch (show (none : Option _) = some _ from h)
 | succ m1 =>
 rw [r13_alt_l1] at h
 rw [q_ar hE, q_cm hE] at h
 cbv
 refine L_call hE hR h (fun _ e => r13_is_w e) rfl rfl fun a15 h => ?_; cbv
 refine L_if hE h (fun h => ?_) (fun h => ?_) <;> cbv
 · refine L_call hE hR h (fun _ e => r13_cat_w (fun e => hrec e) e) rfl rfl fun a16 h => ?_; cbv
   refine L_if hE h (fun h => ?_) (fun h => ?_) <;> cbv
   · refine hT1 _ ?_
     exact And.left (hQ _ _ _ rfl rfl (by cases h; subst hR; rfl))
   refine L_lit hR (e := nodeRow) h (node_new hR) fun l17 e h => ?_; cbv at e; rw [e]; clear e
   refine L_app hE hR h (hf _) nodeRow_len (by decide) fun l18 e h => ?_; cbv at e; rw [e]; clear e
   refine hN1 _ (_, _, _, _, _, _, _, _, _, _, _, m1) [] h (Nat.lt_succ_self _) trivial ?_; (cbv; (try simp only [e_rnil hR]); repeat' (first | exact trivial | exact rfl | exact Or.inr trivial | apply And.intro))
 refine hX1 _ _ ?_; cbv
 refine L_ord hE lay_ok (by kernel_rfl) (.two 0 2 (.two 1 2 (.one 2 (.one 3 (.one 4 (.one 5 .done)))) (.two 1 3 (.one 3 (.one 4 (.one 5 .done))) (.one 1 (.one 4 (.one 5 .done))))) (.two 0 3 (.two 1 3 (.one 3 (.one 4 (.one 5 .done))) (.one 1 (.one 4 (.one 5 .done)))) (.one 0 (.one 1 (.one 4 (.one 5 .done)))))) (by kernel_rfl) (by decide) ?_; cbv; repeat' apply And.intro
 all_goals (refine L_give hE hR 2 h (fun _ e => r13_join_w e) rfl rfl (hf _) rfl (by subst hR; rfl) fun a19 h => ?_; cbv; repeat' apply And.intro)
 all_goals (exact And.left (hQ _ _ _ rfl rfl (by cases h; subst hR; rfl)))
theorem r13_atom_w : ∀ {N : Nat} {p0 : ByteArray} {p1 : Int} {p2 : Int} {r : Gr13_P}, r13_atom_g N p0 p1 p2 = some r → FunS Tryz.prog 164 [fS p0, fI .i64 p1, fI .i64 p2] (r13_atom_s rw) r := by
 intro N
 induction N with
 | zero => intros; rename_i h; exact nomatch (show (none : Option _) = some _ from h)
 | succ N ih =>
 intro p0 p1 p2 r h
 refine fun_w lay_ok Tryz.call164 Tryz.func164 rfl ?_
 intro A W E Q R hE hR hf hQ; rcases W with ⟨ar, cm, conj, cv, sl, sc, ct, sa, ss, ll, _, _, _, _, mi, mx, _, _, _⟩
 rw [r13_atom_g] at h
 rw [q_ar hE, q_cm hE, q_cv hE, q_sl hE, q_sa hE] at h
 cbv
 refine L_rgJ hE lay_ok h 1 (fun j1 : Bool => [(18, fB j1)]) (fun j1 => []) (fun j1 h => ?_) (fun j1 h => ?_) <;> cbv
 · refine L_if hE h (fun h => ?_) (fun h => ?_) <;> cbv
   · cases h; (cbv; (try simp only [e_rnil hR]); repeat' (first | exact trivial | exact rfl | exact Or.inr trivial | apply And.intro))
   refine L_sin hE h fun h => ?_
   refine L_call hE hR h (fun _ e => r13_among_w e) rfl rfl fun a1 h => ?_; cbv
   cases h; (cbv; (try simp only [e_rnil hR]); repeat' (first | exact trivial | exact rfl | exact Or.inr trivial | apply And.intro))
 refine L_if hE h (fun h => ?_) (fun h => ?_) <;> cbv
 · refine L_call hE hR h (fun _ e => r13_other_w e) rfl rfl fun a2 h => ?_; cbv
   exact And.left (hQ _ _ _ rfl rfl (by cases h; subst hR; rfl))
 refine L_sin hE h fun h => ?_
 refine L_if hE h (fun h => ?_) (fun h => ?_) <;> cbv
 · refine L_if hE h (fun h => ?_) (fun h => ?_) <;> cbv
   · refine L_call hE hR h (fun _ e => r13_bad_w e) rfl rfl fun a3 h => ?_; cbv
     exact And.left (hQ _ _ _ rfl rfl (by cases h; subst hR; rfl))
   refine L_call hE hR h (fun _ e => r13_alt_w (fun e => ih e) e) rfl rfl fun a4 h => ?_; cbv
   refine L_rgJ hE lay_ok h 2 (fun j2 : Bool => [(46, fB j2)]) (fun j2 => []) (fun j2 h => ?_) (fun j2 h => ?_) <;> cbv
   · refine L_if hE h (fun h => ?_) (fun h => ?_) <;> cbv
     · refine L_call hE hR h (fun _ e => r13_is_w e) rfl rfl fun a5 h => ?_; cbv
       cases h; (cbv; (try simp only [e_rnil hR]); repeat' (first | exact trivial | exact rfl | exact Or.inr trivial | apply And.intro))
     cases h; (cbv; (try simp only [e_rnil hR]); repeat' (first | exact trivial | exact rfl | exact Or.inr trivial | apply And.intro))
   refine L_if hE h (fun h => ?_) (fun h => ?_) <;> cbv
   · refine L_call hE hR h (fun _ e => r13_other_w e) rfl rfl fun a6 h => ?_; cbv
     exact And.left (hQ _ _ _ rfl rfl (by cases h; subst hR; rfl))
   exact And.left (hQ _ _ _ rfl rfl (by cases h; subst hR; rfl))
 refine L_sin hE h fun h => ?_
 refine L_if hE h (fun h => ?_) (fun h => ?_) <;> cbv
 · refine L_call hE hR h (fun _ e => r12_Between_w e) rfl rfl fun a7 h => ?_; cbv
   exact And.left (hQ _ _ _ rfl rfl (by cases h; subst hR; rfl))
 refine L_sin hE h fun h => ?_
 refine L_if hE h (fun h => ?_) (fun h => ?_) <;> cbv
 · refine L_call hE hR h (fun _ e => r13_class_w e) rfl rfl fun a8 h => ?_; cbv
   exact And.left (hQ _ _ _ rfl rfl (by cases h; subst hR; rfl))
 refine L_sin hE h fun h => ?_
 refine L_if hE h (fun h => ?_) (fun h => ?_) <;> cbv
 · refine L_call hE hR h (fun _ e => r13_escape_w e) rfl rfl fun a9 h => ?_; cbv
   refine L_if hE h (fun h => ?_) (fun h => ?_) <;> cbv
   · exact And.left (hQ _ _ _ rfl rfl (by cases h; subst hR; rfl))
   exact And.left (hQ _ _ _ rfl rfl (by cases h; subst hR; rfl))
 refine L_tail hE lay_ok (by kernel_rfl) 13 (by kernel_rfl) ?_; cbv
 refine L_sin hE h fun h => ?_
 refine L_sin hE h fun h => ?_
 refine L_pcall hE hR h (fun _ e => r12_Between_w e) rfl rfl fun a10 h => ?_; cbv
 exact And.left (hQ _ _ _ rfl rfl (by cases h; subst hR; rfl))
theorem r13_Parse_w {N : Nat} {p0 : ByteArray} {r : Node × GFault} (h : r13_Parse_g N p0 = some r) : FunS Tryz.prog 64 [fS p0] (r13_Parse_s rw) r := by
 refine fun_w lay_ok Tryz.call64 Tryz.func64 rfl ?_
 intro A W E Q R hE hR hf hQ; rcases W with ⟨ar, cm, conj, cv, sl, sc, ct, sa, ss, ll, _, _, _, _, mi, mx, _, _, _⟩
 unfold r13_Parse_g at h
 rw [q_cm hE, q_sl hE] at h
 cbv
 refine L_if hE h (fun h => ?_) (fun h => ?_) <;> cbv
 · exact And.left (hQ _ _ _ rfl rfl (by cases h; subst hR; rfl))
 refine L_call hE hR h (fun _ e => r13_alt_w (fun e => r13_atom_w e) e) rfl rfl fun a1 h => ?_; cbv
 refine L_rgJ hE lay_ok h 3 (fun j1 : Bool => [(22, fB j1)]) (fun j1 => []) (fun j1 h => ?_) (fun j1 h => ?_) <;> cbv
 · refine L_if hE h (fun h => ?_) (fun h => ?_) <;> cbv
   · cases h; (cbv; (try simp only [e_rnil hR]); repeat' (first | exact trivial | exact rfl | exact Or.inr trivial | apply And.intro))
   cases h; (cbv; (try simp only [e_rnil hR]); repeat' (first | exact trivial | exact rfl | exact Or.inr trivial | apply And.intro))
 refine L_cdJ hE lay_ok h 3 (fun j2 : Int × CSet × (List Node) × Int × Int × CSet × Bool × Int × Int × Int => []) (fun j2 => [(2, .box 115 [fI .i64 j2.1, fI .u64 (j2.2.1.a.toNat : Int), fI .u64 (j2.2.1.b.toNat : Int), fI .u64 (j2.2.1.c.toNat : Int), fI .u64 (j2.2.1.d.toNat : Int), .t (.slc (R _ nodeRow j2.2.2.1)), fI .i64 j2.2.2.2.1, fI .i64 j2.2.2.2.2.1, fI .u64 (j2.2.2.2.2.2.1.a.toNat : Int), fI .u64 (j2.2.2.2.2.2.1.b.toNat : Int), fI .u64 (j2.2.2.2.2.2.1.c.toNat : Int), fI .u64 (j2.2.2.2.2.2.1.d.toNat : Int), fB j2.2.2.2.2.2.2.1, fI .i64 j2.2.2.2.2.2.2.2.1, fI .i64 j2.2.2.2.2.2.2.2.2.1, fI .i64 j2.2.2.2.2.2.2.2.2.2])]) (fun j2 h => ?_) (fun j2 h => ?_) <;> cbv
 · refine L_if hE h (fun h => ?_) (fun h => ?_) <;> cbv
   · refine L_call hE hR h (fun _ e => r13_other_w e) rfl rfl fun a2 h => ?_; cbv
     cases h; (cbv; (try simp only [e_rnil hR]); repeat' (first | exact trivial | exact rfl | exact Or.inr trivial | apply And.intro))
   cases h; (cbv; (try simp only [e_rnil hR]); repeat' (first | exact trivial | exact rfl | exact Or.inr trivial | apply And.intro))
 refine L_if hE h (fun h => ?_) (fun h => ?_) <;> cbv
 · refine L_ord hE lay_ok (by kernel_rfl) (.two 0 1 (.two 1 3 (.two 2 3 (.one 3 (.one 4 .done)) (.one 2 (.one 4 .done))) (.one 1 (.one 2 (.one 4 .done)))) (.two 0 2 (.two 2 3 (.one 3 (.one 4 .done)) (.one 2 (.one 4 .done))) (.one 0 (.one 3 (.one 4 .done))))) (by kernel_rfl) (by decide) ?_; cbv; repeat' apply And.intro
   all_goals (exact And.left (hQ _ _ _ rfl rfl (by cases h; subst hR; rfl)))
 exact And.left (hQ _ _ _ rfl rfl (by cases h; subst hR; rfl))
end Gn
end Go.Proofs.YtagppjldegblhaaGreatDoor
namespace Go.Proofs.YtagppjldegblhaaGreatDoor
open Go Go.RowKit
open Ab Sh
namespace Gn
theorem slices_Index_S_w {N : Nat} {p0 : List ByteArray} {p1 : ByteArray} {r : Int} (h : slices_Index_S_g N p0 p1 = some r) : FunS Tryz.prog 36 [.t (.slc (rw _ cS p0)), fS p1] (slices_Index_S_s rw) r := by
 refine fun_w lay_ok Tryz.call36 Tryz.func36 rfl ?_
 intro A W E Q R hE hR hf hQ; rcases W with ⟨ar, cm, conj, cv, sl, sc, ct, sa, ss, ll, _, _, _, _, mi, mx, _, _, _⟩
 rw [← hR]
 unfold slices_Index_S_g at h
 skip
 cbv
 refine L_for hE lay_ok 0 (fun g : Int × Nat => [(4, fI .i64 0), (8, fI .i64 g.1)]) (fun g => []) (fun g => slices_Index_S_l1 p0 p1 g.2 g.1 = some r) (fun g => g.2) (_, N) h ?_ ?_
 · (cbv; (try simp only [e_rnil hR]); repeat' (first | exact trivial | exact rfl | exact Or.inr trivial | apply And.intro))
 rintro ⟨v1, m1⟩ h Q1 hN1 hT1 hX1
 have h : slices_Index_S_l1 p0 p1 m1 v1 = some r := h
 cases m1 with
 | zero => exact nomatch (show (none : Option _) = some _ from h)
 | succ m1 =>
 rw [slices_Index_S_l1] at h
 rw [q_ar hE, q_cm hE, q_sc hE, q_ll hE, ← hR] at h
 cbv
 refine L_if hE h (fun h => ?_) (fun h => ?_) <;> cbv
 · refine L_row hE hR h fun r2 h => ?_; cbv
   refine L_if hE h (fun h => ?_) (fun h => ?_) <;> cbv
   · refine hT1 _ ?_
     exact And.left (hQ _ _ _ rfl rfl (by cases h; subst hR; rfl))
   refine hN1 _ (_, m1) [] h (Nat.lt_succ_self _) trivial ?_; (cbv; (try simp only [e_rnil hR]); repeat' (first | exact trivial | exact rfl | exact Or.inr trivial | apply And.intro))
 refine hX1 _ _ ?_; cbv
 exact And.left (hQ _ _ _ rfl rfl (by cases h; subst hR; rfl))
theorem slices_Contains_S_w {N : Nat} {p0 : List ByteArray} {p1 : ByteArray} {r : Bool} (h : slices_Contains_S_g N p0 p1 = some r) : FunS Tryz.prog 32 [.t (.slc (rw _ cS p0)), fS p1] (slices_Contains_S_s rw) r := by
 refine fun_w lay_ok Tryz.call32 Tryz.func32 rfl ?_
 intro A W E Q R hE hR hf hQ; rcases W with ⟨ar, cm, conj, cv, sl, sc, ct, sa, ss, ll, _, _, _, _, mi, mx, _, _, _⟩
 rw [← hR]
 unfold slices_Contains_S_g at h
 rw [q_cm hE] at h
 cbv
 refine L_call hE hR h (fun _ e => slices_Index_S_w e) (by subst hR; rfl) rfl fun a1 h => ?_; cbv
 exact And.left (hQ _ _ _ rfl rfl (by cases h; subst hR; rfl))
theorem name_digit_w {p0 : Int} {r : Bool} (h : name_digit_g p0 = some r) : FunS Tryz.prog 66 [fI .i32 p0] (name_digit_s rw) r := by
 refine fun_w lay_ok Tryz.call66 Tryz.func66 rfl ?_
 intro A W E Q R hE hR hf hQ; rcases W with ⟨ar, cm, conj, cv, sl, sc, ct, sa, ss, ll, _, _, _, _, mi, mx, _, _, _⟩
 unfold name_digit_g at h
 rw [q_cm hE] at h
 cbv
 refine L_rgJ hE lay_ok h 0 (fun j1 : Bool => [(2, fB j1)]) (fun j1 => []) (fun j1 h => ?_) (fun j1 h => ?_) <;> cbv
 · refine L_if hE h (fun h => ?_) (fun h => ?_) <;> cbv
   · cases h; (cbv; (try simp only [e_rnil hR]); repeat' (first | exact trivial | exact rfl | exact Or.inr trivial | apply And.intro))
   cases h; (cbv; (try simp only [e_rnil hR]); repeat' (first | exact trivial | exact rfl | exact Or.inr trivial | apply And.intro))
 exact And.left (hQ _ _ _ rfl rfl (by cases h; subst hR; rfl))
theorem name_Word_w {N : Nat} {p0 : ByteArray} {r : Bool} (h : name_Word_g N p0 = some r) : FunS Tryz.prog 46 [fS p0] (name_Word_s rw) r := by
 refine fun_w lay_ok Tryz.call46 Tryz.func46 rfl ?_
 intro A W E Q R hE hR hf hQ; rcases W with ⟨ar, cm, conj, cv, sl, sc, ct, sa, ss, ll, _, _, _, _, mi, mx, _, _, _⟩
 unfold name_Word_g at h
 rw [q_cm hE, q_sl hE, q_sc hE] at h
 cbv
 refine L_rgJ hE lay_ok h 0 (fun j1 : Bool => [(12, fB j1)]) (fun j1 => []) (fun j1 h => ?_) (fun j1 h => ?_) <;> cbv
 · refine L_if hE h (fun h => ?_) (fun h => ?_) <;> cbv
   · cases h; (cbv; (try simp only [e_rnil hR]); repeat' (first | exact trivial | exact rfl | exact Or.inr trivial | apply And.intro))
   cases h; (cbv; (try simp only [e_rnil hR]); repeat' (first | exact trivial | exact rfl | exact Or.inr trivial | apply And.intro))
 refine L_if hE h (fun h => ?_) (fun h => ?_) <;> cbv
 · exact And.left (hQ _ _ _ rfl rfl (by cases h; subst hR; rfl))
 refine L_for hE lay_ok 1 (fun g : Int × Nat => [(2, fB false)]) (fun g => [(0, .iter p0 g.1)]) (fun g => name_Word_l1 p0 g.2 g.1 = some r) (fun g => g.2) (_, N) h ?_ ?_
 · (cbv; (try simp only [e_rnil hR]); repeat' (first | exact trivial | exact rfl | exact Or.inr trivial | apply And.intro))
 rintro ⟨v1, m1⟩ h Q1 hN1 hT1 hX1
 have h : name_Word_l1 p0 m1 v1 = some r := h
 cases m1 with
 | zero => exact nomatch (show (none : Option _) = some _ from h)
 | succ m1 =>
 rw [name_Word_l1] at h
 rw [q_cm hE] at h
 cbv
 refine L_nx hE h (fun q2 c3 h => ?_) (fun h => ?_) <;> cbv
 · refine L_t hE ?_; cbv
   refine L_rgJ hE lay_ok h 1 (fun j6 : Bool => [(5, fB j6)]) (fun j6 => []) (fun j6 h => ?_) (fun j6 h => ?_) <;> cbv
   · refine L_if hE h (fun h => ?_) (fun h => ?_) <;> cbv
     · cases h; (cbv; (try simp only [e_rnil hR]); repeat' (first | exact trivial | exact rfl | exact Or.inr trivial | apply And.intro))
     cases h; (cbv; (try simp only [e_rnil hR]); repeat' (first | exact trivial | exact rfl | exact Or.inr trivial | apply And.intro))
   refine L_rgJ hE lay_ok h 1 (fun j7 : Bool => [(39, fB j7)]) (fun j7 => []) (fun j7 h => ?_) (fun j7 h => ?_) <;> cbv
   · refine L_if hE h (fun h => ?_) (fun h => ?_) <;> cbv
     · refine L_if hE h (fun h => ?_) (fun h => ?_) <;> cbv
       · cases h; (cbv; (try simp only [e_rnil hR]); repeat' (first | exact trivial | exact rfl | exact Or.inr trivial | apply And.intro))
       refine L_call hE hR h (fun _ e => name_digit_w e) rfl rfl fun a4 h => ?_; cbv
       refine L_if hE h (fun h => ?_) (fun h => ?_) <;> cbv
       · cases h; (cbv; (try simp only [e_rnil hR]); repeat' (first | exact trivial | exact rfl | exact Or.inr trivial | apply And.intro))
       cases h; (cbv; (try simp only [e_rnil hR]); repeat' (first | exact trivial | exact rfl | exact Or.inr trivial | apply And.intro))
     cases h; (cbv; (try simp only [e_rnil hR]); repeat' (first | exact trivial | exact rfl | exact Or.inr trivial | apply And.intro))
   refine L_if hE h (fun h => ?_) (fun h => ?_) <;> cbv
   · refine hT1 _ ?_
     exact And.left (hQ _ _ _ rfl rfl (by cases h; subst hR; rfl))
   refine hN1 _ (_, m1) [] h (Nat.lt_succ_self _) trivial ?_; (cbv; (try simp only [e_rnil hR]); repeat' (first | exact trivial | exact rfl | exact Or.inr trivial | apply And.intro))
 refine L_f hE ?_; cbv
 refine hX1 _ _ ?_; cbv
 exact And.left (hQ _ _ _ rfl rfl (by cases h; subst hR; rfl))
theorem caveat_once_w {N : Nat} {p0 : List ByteArray} {r : Bool} (h : caveat_once_g N p0 = some r) : FunS Tryz.prog 18 [.t (.slc (rw _ cS p0))] (caveat_once_s rw) r := by
 refine fun_w lay_ok Tryz.call18 Tryz.func18 rfl ?_
 intro A W E Q R hE hR hf hQ; rcases W with ⟨ar, cm, conj, cv, sl, sc, ct, sa, ss, ll, _, _, _, _, mi, mx, _, _, _⟩
 rw [← hR]
 unfold caveat_once_g at h
 skip
 cbv
 refine L_for hE lay_ok 0 (fun g : Int × Nat => [(2, fB false), (7, fI .i64 g.1)]) (fun g => []) (fun g => caveat_once_l1 N p0 g.2 g.1 = some r) (fun g => g.2) (_, N) h ?_ ?_
 · (cbv; (try simp only [e_rnil hR]); repeat' (first | exact trivial | exact rfl | exact Or.inr trivial | apply And.intro))
 rintro ⟨v1, m1⟩ h Q1 hN1 hT1 hX1
 have h : caveat_once_l1 N p0 m1 v1 = some r := h
 cases m1 with
 | zero => exact nomatch (show (none : Option _) = some _ from h)
 | succ m1 =>
 rw [caveat_once_l1] at h
 rw [q_ar hE, q_cm hE, q_ll hE, ← hR] at h
 cbv
 refine L_if hE h (fun h => ?_) (fun h => ?_) <;> cbv
 · refine L_row hE hR h fun r2 h => ?_; cbv
   refine L_rgJ hE lay_ok h 0 (fun j3 : Bool => [(21, fB j3)]) (fun j3 => []) (fun j3 h => ?_) (fun j3 h => ?_) <;> cbv
   · refine L_call hE hR h (fun _ e => name_Word_w e) rfl rfl fun a3 h => ?_; cbv
     refine L_if hE h (fun h => ?_) (fun h => ?_) <;> cbv
     · cases h; (cbv; (try simp only [e_rnil hR]); repeat' (first | exact trivial | exact rfl | exact Or.inr trivial | apply And.intro))
     refine L_sub hE hR h (fun _ => rfl) fun l4 e h => ?_; cbv at e; rw [e]; clear e
     refine L_call hE hR h (fun _ e => slices_Contains_S_w e) (by subst hR; rfl) rfl fun a5 h => ?_; cbv
     cases h; (cbv; (try simp only [e_rnil hR]); repeat' (first | exact trivial | exact rfl | exact Or.inr trivial | apply And.intro))
   refine L_if hE h (fun h => ?_) (fun h => ?_) <;> cbv
   · refine hT1 _ ?_
     exact And.left (hQ _ _ _ rfl rfl (by cases h; subst hR; rfl))
   refine hN1 _ (_, m1) [] h (Nat.lt_succ_self _) trivial ?_; (cbv; (try simp only [e_rnil hR]); repeat' (first | exact trivial | exact rfl | exact Or.inr trivial | apply And.intro))
 refine hX1 _ _ ?_; cbv
 refine L_rgJ hE lay_ok h 0 (fun j4 : Bool => [(2, fB j4)]) (fun j4 => []) (fun j4 h => ?_) (fun j4 h => ?_) <;> cbv
 · refine L_if hE h (fun h => ?_) (fun h => ?_) <;> cbv
   · cases h; (cbv; (try simp only [e_rnil hR]); repeat' (first | exact trivial | exact rfl | exact Or.inr trivial | apply And.intro))
   cases h; (cbv; (try simp only [e_rnil hR]); repeat' (first | exact trivial | exact rfl | exact Or.inr trivial | apply And.intro))
 exact And.left (hQ _ _ _ rfl rfl (by cases h; subst hR; rfl))
end Gn
end Go.Proofs.YtagppjldegblhaaGreatDoor
