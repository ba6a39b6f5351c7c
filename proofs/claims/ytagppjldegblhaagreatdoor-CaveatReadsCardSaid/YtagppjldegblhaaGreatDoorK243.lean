/- Texts that the proof leans on. -/
import Derived.Test.YtagppjldegblhaaGreatDoorK242
set_option linter.unusedVariables false
set_option linter.unusedSimpArgs false
set_option maxRecDepth 100000
set_option maxHeartbeats 4000000
namespace Go.Proofs.YtagppjldegblhaaGreatDoor
open Go Go.RowKit
open Ab Sh
namespace Gn
theorem r23_Text_w {N : Nat} {p0 : List GMatcher} {r : ByteArray} (h : r23_Text_g N p0 = some r) : FunS Tryz.prog 26 [.t (.slc (rw _ cMatcher p0))] (r23_Text_s rw) r := by
 refine fun_w lay_ok Tryz.call26 Tryz.func26 rfl ?_
 intro A W E Q R hE hR hf hQ; rcases W with ⟨ar, cm, conj, cv, sl, sc, ct, sa, ss, ll, _, _, _, _, mi, mx, _, _, _⟩
 rw [← hR]
 unfold r23_Text_g at h
 skip
 cbv
 refine L_for hE lay_ok 0 (fun g : ByteArray × Int × Nat => [(3, fS g.1), (4, fI .i64 g.2.1)]) (fun g => []) (fun g => r23_Text_l1 N p0 g.2.2 g.1 g.2.1 = some r) (fun g => g.2.2) (_, _, N) h ?_ ?_
 · (cbv; (try simp only [e_rnil hR]); repeat' (first | exact trivial | exact rfl | exact Or.inr trivial | apply And.intro))
 rintro ⟨v1, v2, m1⟩ h Q1 hN1 hT1 hX1
 have h : r23_Text_l1 N p0 m1 v1 v2 = some r := h
 cases m1 with
 | zero => exact nomatch (show (none : Option _) = some _ from h)
 | succ m1 =>
 rw [r23_Text_l1] at h
 rw [q_ar hE, q_cm hE, q_ct hE, q_ll hE, ← hR] at h
 cbv
 refine L_if hE h (fun h => ?_) (fun h => ?_) <;> cbv
 · refine L_cdJ hE lay_ok h 0 (fun j1 : ByteArray => [(3, fS j1)]) (fun j1 => []) (fun j1 h => ?_) (fun j1 h => ?_) <;> cbv
   · refine L_if hE h (fun h => ?_) (fun h => ?_) <;> cbv
     · refine L_ct hE h fun h => ?_
       cases h; (cbv; (try simp only [e_rnil hR]); repeat' (first | exact trivial | exact rfl | exact Or.inr trivial | apply And.intro))
     cases h; (cbv; (try simp only [e_rnil hR]); repeat' (first | exact trivial | exact rfl | exact Or.inr trivial | apply And.intro))
   refine L_row hE hR h fun r3 h => ?_; cbv
   refine L_call hE hR h (fun _ e => r22_Text_w e) rfl rfl fun a4 h => ?_; cbv
   refine L_ct hE h fun h => ?_
   refine hN1 _ (_, _, m1) [] h (Nat.lt_succ_self _) trivial ?_; (cbv; (try simp only [e_rnil hR]); repeat' (first | exact trivial | exact rfl | exact Or.inr trivial | apply And.intro))
 refine hX1 _ _ ?_; cbv
 refine L_ct hE h fun h => ?_
 exact And.left (hQ _ _ _ rfl rfl (by cases h; subst hR; rfl))
theorem r27_Right_w {N : Nat} {p0 : GCaveat} {r : Bool} (h : r27_Right_g N p0 = some r) : FunS Tryz.prog 9 [.agg [fI .i64 p0.Kind, fI .i64 p0.Num, .t (.slc (rw _ cS p0.Words)), .t (.slc (rw _ cMatcher p0.Sel))]] (r27_Right_s rw) r := by
 refine fun_w lay_ok Tryz.call9 Tryz.func9 rfl ?_
 intro A W E Q R hE hR hf hQ; rcases W with ⟨ar, cm, conj, cv, sl, sc, ct, sa, ss, ll, _, _, _, _, mi, mx, _, _, _⟩
 rw [← hR]
 unfold r27_Right_g at h
 rw [q_cm hE, q_sl hE, q_ll hE, ← hR] at h
 cbv
 refine L_rgJ hE lay_ok h 1 (fun j1 : Bool => [(38, fB j1)]) (fun j1 => []) (fun j1 h => ?_) (fun j1 h => ?_) <;> cbv
 · refine L_if hE h (fun h => ?_) (fun h => ?_) <;> cbv
   · refine L_if hE h (fun h => ?_) (fun h => ?_) <;> cbv
     · cases h; (cbv; (try simp only [e_rnil hR]); repeat' (first | exact trivial | exact rfl | exact Or.inr trivial | apply And.intro))
     refine L_if hE h (fun h => ?_) (fun h => ?_) <;> cbv
     · refine L_if hE h (fun h => ?_) (fun h => ?_) <;> cbv
       · cases h; (cbv; (try simp only [e_rnil hR]); repeat' (first | exact trivial | exact rfl | exact Or.inr trivial | apply And.intro))
       refine L_if hE h (fun h => ?_) (fun h => ?_) <;> cbv
       · refine L_if hE h (fun h => ?_) (fun h => ?_) <;> cbv
         · cases h; (cbv; (try simp only [e_rnil hR]); repeat' (first | exact trivial | exact rfl | exact Or.inr trivial | apply And.intro))
         cases h; (cbv; (try simp only [e_rnil hR]); repeat' (first | exact trivial | exact rfl | exact Or.inr trivial | apply And.intro))
       cases h; (cbv; (try simp only [e_rnil hR]); repeat' (first | exact trivial | exact rfl | exact Or.inr trivial | apply And.intro))
     refine L_if hE h (fun h => ?_) (fun h => ?_) <;> cbv
     · refine L_if hE h (fun h => ?_) (fun h => ?_) <;> cbv
       · cases h; (cbv; (try simp only [e_rnil hR]); repeat' (first | exact trivial | exact rfl | exact Or.inr trivial | apply And.intro))
       cases h; (cbv; (try simp only [e_rnil hR]); repeat' (first | exact trivial | exact rfl | exact Or.inr trivial | apply And.intro))
     cases h; (cbv; (try simp only [e_rnil hR]); repeat' (first | exact trivial | exact rfl | exact Or.inr trivial | apply And.intro))
   refine L_if hE h (fun h => ?_) (fun h => ?_) <;> cbv
   · refine L_if hE h (fun h => ?_) (fun h => ?_) <;> cbv
     · cases h; (cbv; (try simp only [e_rnil hR]); repeat' (first | exact trivial | exact rfl | exact Or.inr trivial | apply And.intro))
     refine L_if hE h (fun h => ?_) (fun h => ?_) <;> cbv
     · refine L_if hE h (fun h => ?_) (fun h => ?_) <;> cbv
       · cases h; (cbv; (try simp only [e_rnil hR]); repeat' (first | exact trivial | exact rfl | exact Or.inr trivial | apply And.intro))
       cases h; (cbv; (try simp only [e_rnil hR]); repeat' (first | exact trivial | exact rfl | exact Or.inr trivial | apply And.intro))
     cases h; (cbv; (try simp only [e_rnil hR]); repeat' (first | exact trivial | exact rfl | exact Or.inr trivial | apply And.intro))
   refine L_if hE h (fun h => ?_) (fun h => ?_) <;> cbv
   · refine L_if hE h (fun h => ?_) (fun h => ?_) <;> cbv
     · cases h; (cbv; (try simp only [e_rnil hR]); repeat' (first | exact trivial | exact rfl | exact Or.inr trivial | apply And.intro))
     cases h; (cbv; (try simp only [e_rnil hR]); repeat' (first | exact trivial | exact rfl | exact Or.inr trivial | apply And.intro))
   cases h; (cbv; (try simp only [e_rnil hR]); repeat' (first | exact trivial | exact rfl | exact Or.inr trivial | apply And.intro))
 refine L_if hE h (fun h => ?_) (fun h => ?_) <;> cbv
 · exact And.left (hQ _ _ _ rfl rfl (by cases h; subst hR; rfl))
 refine L_if hE h (fun h => ?_) (fun h => ?_) <;> cbv
 · refine L_call hE hR h (fun _ e => r27_once_w e) (by subst hR; rfl) rfl fun a1 h => ?_; cbv
   exact And.left (hQ _ _ _ rfl rfl (by cases h; subst hR; rfl))
 refine L_rgJ hE lay_ok h 1 (fun j2 : Bool => [(52, fB j2)]) (fun j2 => []) (fun j2 h => ?_) (fun j2 h => ?_) <;> cbv
 · refine L_if hE h (fun h => ?_) (fun h => ?_) <;> cbv
   · cases h; (cbv; (try simp only [e_rnil hR]); repeat' (first | exact trivial | exact rfl | exact Or.inr trivial | apply And.intro))
   cases h; (cbv; (try simp only [e_rnil hR]); repeat' (first | exact trivial | exact rfl | exact Or.inr trivial | apply And.intro))
 refine L_if hE h (fun h => ?_) (fun h => ?_) <;> cbv
 · refine L_call hE hR h (fun _ e => r27_once_w e) (by subst hR; rfl) rfl fun a2 h => ?_; cbv
   exact And.left (hQ _ _ _ rfl rfl (by cases h; subst hR; rfl))
 refine L_if hE h (fun h => ?_) (fun h => ?_) <;> cbv
 · refine L_for hE lay_ok 1 (fun g : Int × Nat => [(2, fB false), (3, fI .i64 g.1)]) (fun g => []) (fun g => r27_Right_l1 N p0 g.2 g.1 = some r) (fun g => g.2) (_, N) h ?_ ?_
   · (cbv; (try simp only [e_rnil hR]); repeat' (first | exact trivial | exact rfl | exact Or.inr trivial | apply And.intro))
   rintro ⟨v3, m1⟩ h Q1 hN1 hT1 hX1
   have h : r27_Right_l1 N p0 m1 v3 = some r := h
   cases m1 with
   | zero => exact nomatch (show (none : Option _) = some _ from h)
   | succ m1 =>
   rw [r27_Right_l1] at h
   rw [q_ar hE, q_cm hE, q_sc hE, q_ll hE, ← hR] at h
   cbv
   refine L_if hE h (fun h => ?_) (fun h => ?_) <;> cbv
   · refine L_rgJ hE lay_ok h 1 (fun j4 : Bool => [(79, fB j4)]) (fun j4 => []) (fun j4 h => ?_) (fun j4 h => ?_) <;> cbv
     · refine L_row hE hR h fun r4 h => ?_; cbv
       refine L_if hE h (fun h => ?_) (fun h => ?_) <;> cbv
       · refine L_row hE hR h fun r5 h => ?_; cbv
         cases h; (cbv; (try simp only [e_rnil hR]); repeat' (first | exact trivial | exact rfl | exact Or.inr trivial | apply And.intro))
       cases h; (cbv; (try simp only [e_rnil hR]); repeat' (first | exact trivial | exact rfl | exact Or.inr trivial | apply And.intro))
     refine L_if hE h (fun h => ?_) (fun h => ?_) <;> cbv
     · refine hT1 _ ?_
       exact And.left (hQ _ _ _ rfl rfl (by cases h; subst hR; rfl))
     refine hN1 _ (_, m1) [] h (Nat.lt_succ_self _) trivial ?_; (cbv; (try simp only [e_rnil hR]); repeat' (first | exact trivial | exact rfl | exact Or.inr trivial | apply And.intro))
   refine hX1 _ _ ?_; cbv
   refine L_call hE hR h (fun _ e => r27_once_w e) (by subst hR; rfl) rfl fun a6 h => ?_; cbv
   exact And.left (hQ _ _ _ rfl rfl (by cases h; subst hR; rfl))
 refine L_rgJ hE lay_ok h 1 (fun j5 : Bool => [(90, fB j5)]) (fun j5 => []) (fun j5 h => ?_) (fun j5 h => ?_) <;> cbv
 · refine L_if hE h (fun h => ?_) (fun h => ?_) <;> cbv
   · cases h; (cbv; (try simp only [e_rnil hR]); repeat' (first | exact trivial | exact rfl | exact Or.inr trivial | apply And.intro))
   cases h; (cbv; (try simp only [e_rnil hR]); repeat' (first | exact trivial | exact rfl | exact Or.inr trivial | apply And.intro))
 refine L_if hE h (fun h => ?_) (fun h => ?_) <;> cbv
 · refine L_rgJ hE lay_ok h 1 (fun j6 : Bool => [(2, fB j6)]) (fun j6 => []) (fun j6 h => ?_) (fun j6 h => ?_) <;> cbv
   · refine L_if hE h (fun h => ?_) (fun h => ?_) <;> cbv
     · cases h; (cbv; (try simp only [e_rnil hR]); repeat' (first | exact trivial | exact rfl | exact Or.inr trivial | apply And.intro))
     cases h; (cbv; (try simp only [e_rnil hR]); repeat' (first | exact trivial | exact rfl | exact Or.inr trivial | apply And.intro))
   exact And.left (hQ _ _ _ rfl rfl (by cases h; subst hR; rfl))
 refine L_rgJ hE lay_ok h 1 (fun j7 : Bool => [(2, fB j7)]) (fun j7 => []) (fun j7 h => ?_) (fun j7 h => ?_) <;> cbv
 · refine L_if hE h (fun h => ?_) (fun h => ?_) <;> cbv
   · refine L_call hE hR h (fun _ e => r23_Right_w e) (by subst hR; rfl) rfl fun a7 h => ?_; cbv
     refine L_if hE h (fun h => ?_) (fun h => ?_) <;> cbv
     · refine L_call hE hR h (fun _ e => r23_Text_w e) (by subst hR; rfl) rfl fun a8 h => ?_; cbv
       cases h; (cbv; (try simp only [e_rnil hR]); repeat' (first | exact trivial | exact rfl | exact Or.inr trivial | apply And.intro))
     cases h; (cbv; (try simp only [e_rnil hR]); repeat' (first | exact trivial | exact rfl | exact Or.inr trivial | apply And.intro))
   cases h; (cbv; (try simp only [e_rnil hR]); repeat' (first | exact trivial | exact rfl | exact Or.inr trivial | apply And.intro))
 exact And.left (hQ _ _ _ rfl rfl (by cases h; subst hR; rfl))
theorem r27_First_w {p0 : Int} {r : ByteArray} (h : r27_First_g p0 = some r) : FunS Tryz.prog 29 [fI .i64 p0] (r27_First_s rw) r := by
 refine fun_w lay_ok Tryz.call29 Tryz.func29 rfl ?_
 intro A W E Q R hE hR hf hQ; rcases W with ⟨ar, cm, conj, cv, sl, sc, ct, sa, ss, ll, _, _, _, _, mi, mx, _, _, _⟩
 unfold r27_First_g at h
 rw [q_cm hE] at h
 cbv
 refine L_rgJ hE lay_ok h 1 (fun j1 : Bool => [(10, fB j1)]) (fun j1 => []) (fun j1 h => ?_) (fun j1 h => ?_) <;> cbv
 · refine L_if hE h (fun h => ?_) (fun h => ?_) <;> cbv
   · cases h; (cbv; (try simp only [e_rnil hR]); repeat' (first | exact trivial | exact rfl | exact Or.inr trivial | apply And.intro))
   cases h; (cbv; (try simp only [e_rnil hR]); repeat' (first | exact trivial | exact rfl | exact Or.inr trivial | apply And.intro))
 refine L_if hE h (fun h => ?_) (fun h => ?_) <;> cbv
 · exact And.left (hQ _ _ _ rfl rfl (by cases h; subst hR; rfl))
 refine L_lit hR (e := cS) h rfl fun l1 e h => ?_; cbv at e; rw [e]; clear e
 refine L_row hE hR h fun r2 h => ?_; cbv
 refine L_row hE hR h fun r3 h => ?_; cbv
 exact And.left (hQ _ _ _ rfl rfl (by cases h; subst hR; rfl))
theorem r27_Number_w : ∀ {N : Nat} {p0 : Int} {r : ByteArray}, r27_Number_g N p0 = some r → FunS Tryz.prog 30 [fI .i64 p0] (r27_Number_s rw) r := by
 intro N
 induction N with
 | zero => intros; rename_i h; exact nomatch (show (none : Option _) = some _ from h)
 | succ N ih =>
 intro p0 r h
 refine fun_w lay_ok Tryz.call30 Tryz.func30 rfl ?_
 intro A W E Q R hE hR hf hQ; rcases W with ⟨ar, cm, conj, cv, sl, sc, ct, sa, ss, ll, _, _, _, _, mi, mx, _, _, _⟩
 rw [r27_Number_g] at h
 rw [q_ar hE, q_cm hE, q_ct hE, q_ss hE] at h
 cbv
 refine L_if hE h (fun h => ?_) (fun h => ?_) <;> cbv
 · refine L_ssin hE h fun h => ?_
   exact And.left (hQ _ _ _ rfl rfl (by cases h; subst hR; rfl))
 refine L_whole hE lay_ok (by kernel_rfl) (by kernel_rfl) ?_; cbv
 refine L_ne0 hE h fun h => ?_
 refine L_pcall hE hR h (fun _ e => ih e) rfl rfl fun a1 h => ?_; cbv
 refine L_ne0 hE h fun h => ?_
 refine L_ne0 hE h fun h => ?_
 refine L_ssin hE h fun h => ?_
 refine L_ct hE h fun h => ?_
 exact And.left (hQ _ _ _ rfl rfl (by cases h; subst hR; rfl))
theorem r09_Join_w {N : Nat} {p0 : List ByteArray} {r : ByteArray} (h : r09_Join_g N p0 = some r) : FunS Tryz.prog 31 [.t (.slc (rw _ cS p0))] (r09_Join_s rw) r := by
 refine fun_w lay_ok Tryz.call31 Tryz.func31 rfl ?_
 intro A W E Q R hE hR hf hQ; rcases W with ⟨ar, cm, conj, cv, sl, sc, ct, sa, ss, ll, _, _, _, _, mi, mx, _, _, _⟩
 rw [← hR]
 unfold r09_Join_g at h
 skip
 cbv
 refine L_for hE lay_ok 0 (fun g : ByteArray × Int × Nat => [(3, fS g.1), (4, fI .i64 g.2.1)]) (fun g => []) (fun g => r09_Join_l1 p0 g.2.2 g.1 g.2.1 = some r) (fun g => g.2.2) (_, _, N) h ?_ ?_
 · (cbv; (try simp only [e_rnil hR]); repeat' (first | exact trivial | exact rfl | exact Or.inr trivial | apply And.intro))
 rintro ⟨v1, v2, m1⟩ h Q1 hN1 hT1 hX1
 have h : r09_Join_l1 p0 m1 v1 v2 = some r := h
 cases m1 with
 | zero => exact nomatch (show (none : Option _) = some _ from h)
 | succ m1 =>
 rw [r09_Join_l1] at h
 rw [q_ar hE, q_cm hE, q_ct hE, q_ll hE, ← hR] at h
 cbv
 refine L_if hE h (fun h => ?_) (fun h => ?_) <;> cbv
 · refine L_cdJ hE lay_ok h 0 (fun j1 : ByteArray => [(3, fS j1)]) (fun j1 => []) (fun j1 h => ?_) (fun j1 h => ?_) <;> cbv
   · refine L_if hE h (fun h => ?_) (fun h => ?_) <;> cbv
     · refine L_ct hE h fun h => ?_
       cases h; (cbv; (try simp only [e_rnil hR]); repeat' (first | exact trivial | exact rfl | exact Or.inr trivial | apply And.intro))
     cases h; (cbv; (try simp only [e_rnil hR]); repeat' (first | exact trivial | exact rfl | exact Or.inr trivial | apply And.intro))
   refine L_row hE hR h fun r3 h => ?_; cbv
   refine L_ct hE h fun h => ?_
   refine hN1 _ (_, _, m1) [] h (Nat.lt_succ_self _) trivial ?_; (cbv; (try simp only [e_rnil hR]); repeat' (first | exact trivial | exact rfl | exact Or.inr trivial | apply And.intro))
 refine hX1 _ _ ?_; cbv
 exact And.left (hQ _ _ _ rfl rfl (by cases h; subst hR; rfl))
end Gn
end Go.Proofs.YtagppjldegblhaaGreatDoor
namespace Go.Proofs.YtagppjldegblhaaGreatDoor
open Go Go.RowKit
open Ab Sh
namespace Gn
theorem r27_Text_w {N : Nat} {p0 : GCaveat} {r : ByteArray} (h : r27_Text_g N p0 = some r) : FunS Tryz.prog 11 [.agg [fI .i64 p0.Kind, fI .i64 p0.Num, .t (.slc (rw _ cS p0.Words)), .t (.slc (rw _ cMatcher p0.Sel))]] (r27_Text_s rw) r := by
 refine fun_w lay_ok Tryz.call11 Tryz.func11 rfl ?_
 intro A W E Q R hE hR hf hQ; rcases W with ⟨ar, cm, conj, cv, sl, sc, ct, sa, ss, ll, _, _, _, _, mi, mx, _, _, _⟩
 rw [← hR]
 unfold r27_Text_g at h
 rw [q_cm hE, q_ct hE] at h
 cbv
 refine L_call hE hR h (fun _ e => r27_Right_w e) (by subst hR; rfl) rfl fun a1 h => ?_; cbv
 refine L_if hE h (fun h => ?_) (fun h => ?_) <;> cbv
 · exact And.left (hQ _ _ _ rfl rfl (by cases h; subst hR; rfl))
 refine L_rgJ hE lay_ok h 1 (fun j1 : Bool => [(13, fB j1)]) (fun j1 => []) (fun j1 h => ?_) (fun j1 h => ?_) <;> cbv
 · refine L_if hE h (fun h => ?_) (fun h => ?_) <;> cbv
   · cases h; (cbv; (try simp only [e_rnil hR]); repeat' (first | exact trivial | exact rfl | exact Or.inr trivial | apply And.intro))
   cases h; (cbv; (try simp only [e_rnil hR]); repeat' (first | exact trivial | exact rfl | exact Or.inr trivial | apply And.intro))
 refine L_if hE h (fun h => ?_) (fun h => ?_) <;> cbv
 · refine L_whole hE lay_ok (by kernel_rfl) (by kernel_rfl) ?_; cbv
   refine L_pcall hE hR h (fun _ e => r27_First_w e) rfl rfl fun a2 h => ?_; cbv
   refine L_ct hE h fun h => ?_
   refine L_pcall hE hR h (fun _ e => r27_Number_w e) rfl rfl fun a3 h => ?_; cbv
   refine L_ct hE h fun h => ?_
   exact And.left (hQ _ _ _ rfl rfl (by cases h; subst hR; rfl))
 refine L_if hE h (fun h => ?_) (fun h => ?_) <;> cbv
 · refine L_whole hE lay_ok (by kernel_rfl) (by kernel_rfl) ?_; cbv
   refine L_pcall hE hR h (fun _ e => r27_First_w e) rfl rfl fun a4 h => ?_; cbv
   refine L_ct hE h fun h => ?_
   refine L_pcall hE hR h (fun _ e => r23_Text_w e) (by subst hR; rfl) rfl fun a5 h => ?_; cbv
   refine L_ct hE h fun h => ?_
   exact And.left (hQ _ _ _ rfl rfl (by cases h; subst hR; rfl))
 refine L_whole hE lay_ok (by kernel_rfl) (by kernel_rfl) ?_; cbv
 refine L_pcall hE hR h (fun _ e => r27_First_w e) rfl rfl fun a6 h => ?_; cbv
 refine L_ct hE h fun h => ?_
 refine L_pcall hE hR h (fun _ e => r09_Join_w e) (by subst hR; rfl) rfl fun a7 h => ?_; cbv
 refine L_ct hE h fun h => ?_
 exact And.left (hQ _ _ _ rfl rfl (by cases h; subst hR; rfl))
end Gn
end Go.Proofs.YtagppjldegblhaaGreatDoor
