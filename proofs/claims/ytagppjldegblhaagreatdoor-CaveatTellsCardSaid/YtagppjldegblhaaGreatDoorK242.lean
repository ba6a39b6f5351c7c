/- Texts that the proof leans on. -/
import Derived.Test.YtagppjldegblhaaGreatDoorK235
set_option linter.unusedVariables false
set_option linter.unusedSimpArgs false
set_option maxRecDepth 100000
set_option maxHeartbeats 4000000
namespace Go.Proofs.YtagppjldegblhaaGreatDoor
open Go Go.RowKit
open Ab
namespace Sh
section
variable {P : Program} {A : Run} {W : Wd} {E : Env} {L : TypeId → Option Lt}
variable (hE : dom P A = mkE W E)
include hE
section
variable {β : Type} {v : β} {c : Prop} {s t : ByteArray} {i j : Int}
theorem L_ne0 {X : Option β} (h : cond (ne0B i) X none = some v) (k : X = some v → c) : E.ne0 i ∧ c := by
 obtain ⟨h1, h2⟩ := cond_true h
 refine ⟨?_, k h2⟩
 show (mkE W E).ne0 i
 rw [← hE]; exact (show ¬ i = 0 by simpa [ne0B] using h1)
end
end
end Sh
end Go.Proofs.YtagppjldegblhaaGreatDoor
namespace Go.Proofs.YtagppjldegblhaaGreatDoor
open Go Go.RowKit
open Ab Sh
namespace Gn
def r09_sign_s (R : RF) (r : Bool) : V := fB r
def r09_Label_s (R : RF) (r : Bool) : V := fB r
def r22_Right_s (R : RF) (r : Int) : V := fI .i64 r
def r22_Sign_s (R : RF) (r : ByteArray) : V := fS r
def r10_trail_s (R : RF) (r : Bool) : V := fB r
def r10_Rune_s (R : RF) (r : Int) : V := fI .i64 r
def r10_safe_s (R : RF) (r : Bool) : V := fB r
def r10_Unit_s (R : RF) (r : Int) : V := fI .i64 r
def r02_Hex_s (R : RF) (r : ByteArray) : V := fS r
def r10_Text_s (R : RF) (r : ByteArray) : V := fS r
def r22_Text_s (R : RF) (r : ByteArray) : V := fS r
end Gn
end Go.Proofs.YtagppjldegblhaaGreatDoor
namespace Go.Proofs.YtagppjldegblhaaGreatDoor
open Go Go.RowKit
open Ab Sh
namespace Gn
def r23_Right_s (R : RF) (r : GFault) : V := .agg [fI .i64 r.E, fI .i64 r.At]
def r23_Text_s (R : RF) (r : ByteArray) : V := fS r
end Gn
end Go.Proofs.YtagppjldegblhaaGreatDoor
namespace Go.Proofs.YtagppjldegblhaaGreatDoor
open Go Go.RowKit
open Ab Sh
namespace Gn
def r09_Word_s (R : RF) (r : Bool) : V := fB r
def r27_once_s (R : RF) (r : Bool) : V := fB r
def r27_Right_s (R : RF) (r : Bool) : V := fB r
def r27_First_s (R : RF) (r : ByteArray) : V := fS r
def r27_Number_s (R : RF) (r : ByteArray) : V := fS r
def r09_Join_s (R : RF) (r : ByteArray) : V := fS r
def r27_Text_s (R : RF) (r : ByteArray) : V := fS r
end Gn
end Go.Proofs.YtagppjldegblhaaGreatDoor
namespace Go.Proofs.YtagppjldegblhaaGreatDoor
open Go Go.RowKit
open Ab Sh
namespace Gn
theorem r09_Word_w {N : Nat} {p0 : ByteArray} {r : Bool} (h : r09_Word_g N p0 = some r) : FunS Tryz.prog 52 [fS p0] (r09_Word_s rw) r := by
 refine fun_w lay_ok Tryz.call52 Tryz.func52 rfl ?_
 intro A W E Q R hE hR hf hQ; rcases W with ⟨ar, cm, conj, cv, sl, sc, ct, sa, ss, ll, _, _, _, _, mi, mx, _, _, _⟩
 unfold r09_Word_g at h
 rw [q_cm hE, q_sl hE] at h
 cbv
 refine L_rgJ hE lay_ok h 0 (fun j1 : Bool => [(13, fB j1)]) (fun j1 => []) (fun j1 h => ?_) (fun j1 h => ?_) <;> cbv
 · refine L_if hE h (fun h => ?_) (fun h => ?_) <;> cbv
   · cases h; (cbv; (try simp only [e_rnil hR]); repeat' (first | exact trivial | exact rfl | exact Or.inr trivial | apply And.intro))
   cases h; (cbv; (try simp only [e_rnil hR]); repeat' (first | exact trivial | exact rfl | exact Or.inr trivial | apply And.intro))
 refine L_if hE h (fun h => ?_) (fun h => ?_) <;> cbv
 · exact And.left (hQ _ _ _ rfl rfl (by cases h; subst hR; rfl))
 refine L_for hE lay_ok 0 (fun g : Int × Nat => [(2, fB false), (3, fI .i64 g.1)]) (fun g => []) (fun g => r09_Word_l1 p0 g.2 g.1 = some r) (fun g => g.2) (_, N) h ?_ ?_
 · (cbv; (try simp only [e_rnil hR]); repeat' (first | exact trivial | exact rfl | exact Or.inr trivial | apply And.intro))
 rintro ⟨v1, m1⟩ h Q1 hN1 hT1 hX1
 have h : r09_Word_l1 p0 m1 v1 = some r := h
 cases m1 with
 | zero => exact nomatch (show (none : Option _) = some _ from h)
 | succ m1 =>
 rw [r09_Word_l1] at h
 rw [q_ar hE, q_cm hE, q_sl hE, q_sa hE] at h
 cbv
 refine L_if hE h (fun h => ?_) (fun h => ?_) <;> cbv
 · refine L_rgJ hE lay_ok h 0 (fun j5 : Bool => [(4, fB j5)]) (fun j5 => []) (fun j5 h => ?_) (fun j5 h => ?_) <;> cbv
   · refine L_sin hE h fun h => ?_
     refine L_if hE h (fun h => ?_) (fun h => ?_) <;> cbv
     · refine L_sin hE h fun h => ?_
       cases h; (cbv; (try simp only [e_rnil hR]); repeat' (first | exact trivial | exact rfl | exact Or.inr trivial | apply And.intro))
     cases h; (cbv; (try simp only [e_rnil hR]); repeat' (first | exact trivial | exact rfl | exact Or.inr trivial | apply And.intro))
   refine L_rgJ hE lay_ok h 0 (fun j6 : Bool => [(5, fB j6)]) (fun j6 => []) (fun j6 h => ?_) (fun j6 h => ?_) <;> cbv
   · refine L_sin hE h fun h => ?_
     refine L_if hE h (fun h => ?_) (fun h => ?_) <;> cbv
     · cases h; (cbv; (try simp only [e_rnil hR]); repeat' (first | exact trivial | exact rfl | exact Or.inr trivial | apply And.intro))
     refine L_sin hE h fun h => ?_
     refine L_if hE h (fun h => ?_) (fun h => ?_) <;> cbv
     · refine L_sin hE h fun h => ?_
       cases h; (cbv; (try simp only [e_rnil hR]); repeat' (first | exact trivial | exact rfl | exact Or.inr trivial | apply And.intro))
     cases h; (cbv; (try simp only [e_rnil hR]); repeat' (first | exact trivial | exact rfl | exact Or.inr trivial | apply And.intro))
   refine L_rgJ hE lay_ok h 0 (fun j7 : Bool => [(55, fB j7)]) (fun j7 => []) (fun j7 h => ?_) (fun j7 h => ?_) <;> cbv
   · refine L_if hE h (fun h => ?_) (fun h => ?_) <;> cbv
     · refine L_if hE h (fun h => ?_) (fun h => ?_) <;> cbv
       · cases h; (cbv; (try simp only [e_rnil hR]); repeat' (first | exact trivial | exact rfl | exact Or.inr trivial | apply And.intro))
       cases h; (cbv; (try simp only [e_rnil hR]); repeat' (first | exact trivial | exact rfl | exact Or.inr trivial | apply And.intro))
     cases h; (cbv; (try simp only [e_rnil hR]); repeat' (first | exact trivial | exact rfl | exact Or.inr trivial | apply And.intro))
   refine L_if hE h (fun h => ?_) (fun h => ?_) <;> cbv
   · refine hT1 _ ?_
     exact And.left (hQ _ _ _ rfl rfl (by cases h; subst hR; rfl))
   refine hN1 _ (_, m1) [] h (Nat.lt_succ_self _) trivial ?_; (cbv; (try simp only [e_rnil hR]); repeat' (first | exact trivial | exact rfl | exact Or.inr trivial | apply And.intro))
 refine hX1 _ _ ?_; cbv
 exact And.left (hQ _ _ _ rfl rfl (by cases h; subst hR; rfl))
theorem r27_once_w {N : Nat} {p0 : List ByteArray} {p1 : Int} {r : Bool} (h : r27_once_g N p0 p1 = some r) : FunS Tryz.prog 24 [.t (.slc (rw _ cS p0)), fI .i64 p1] (r27_once_s rw) r := by
 refine fun_w lay_ok Tryz.call24 Tryz.func24 rfl ?_
 intro A W E Q R hE hR hf hQ; rcases W with ⟨ar, cm, conj, cv, sl, sc, ct, sa, ss, ll, _, _, _, _, mi, mx, _, _, _⟩
 rw [← hR]
 unfold r27_once_g at h
 rw [q_cm hE, q_ll hE, ← hR] at h
 cbv
 refine L_rgJ hE lay_ok h 0 (fun j1 : Bool => [(15, fB j1)]) (fun j1 => []) (fun j1 h => ?_) (fun j1 h => ?_) <;> cbv
 · refine L_if hE h (fun h => ?_) (fun h => ?_) <;> cbv
   · cases h; (cbv; (try simp only [e_rnil hR]); repeat' (first | exact trivial | exact rfl | exact Or.inr trivial | apply And.intro))
   cases h; (cbv; (try simp only [e_rnil hR]); repeat' (first | exact trivial | exact rfl | exact Or.inr trivial | apply And.intro))
 refine L_if hE h (fun h => ?_) (fun h => ?_) <;> cbv
 · exact And.left (hQ _ _ _ rfl rfl (by cases h; subst hR; rfl))
 refine L_for hE lay_ok 0 (fun g : Int × Nat => [(5, fI .i64 g.1)]) (fun g => []) (fun g => r27_once_l1 N p0 g.2 g.1 = some r) (fun g => g.2) (_, N) h ?_ ?_
 · (cbv; (try simp only [e_rnil hR]); repeat' (first | exact trivial | exact rfl | exact Or.inr trivial | apply And.intro))
 rintro ⟨v1, m1⟩ h Q1 hN1 hT1 hX1
 have h : r27_once_l1 N p0 m1 v1 = some r := h
 cases m1 with
 | zero => exact nomatch (show (none : Option _) = some _ from h)
 | succ m1 =>
 rw [r27_once_l1] at h
 rw [q_cm hE, q_ll hE, ← hR] at h
 cbv
 refine L_if hE h (fun h => ?_) (fun h => ?_) <;> cbv
 · refine L_row hE hR h fun r2 h => ?_; cbv
   refine L_call hE hR h (fun _ e => r09_Word_w e) rfl rfl fun a3 h => ?_; cbv
   refine L_if hE h (fun h => ?_) (fun h => ?_) <;> cbv
   · refine hT1 _ ?_
     exact And.left (hQ _ _ _ rfl rfl (by cases h; subst hR; rfl))
   refine L_for hE lay_ok 0 (fun g : Int × Nat => [(6, fI .i64 g.1)]) (fun g => []) (fun g => r27_once_l2 (r27_once_l1 N p0 m1) p0 v1 g.2 g.1 = some r) (fun g => g.2) (_, N) h ?_ ?_
   · (cbv; (try simp only [e_rnil hR]); repeat' (first | exact trivial | exact rfl | exact Or.inr trivial | apply And.intro))
   rintro ⟨v4, m2⟩ h Q2 hN2 hT2 hX2
   have h : r27_once_l2 (r27_once_l1 N p0 m1) p0 v1 m2 v4 = some r := h
   cases m2 with
   | zero => exact nomatch (show (none : Option _) = some _ from h)
   | succ m2 =>
   rw [r27_once_l2] at h
   rw [q_ar hE, q_cm hE, q_sc hE] at h
   cbv
   refine L_if hE h (fun h => ?_) (fun h => ?_) <;> cbv
   · refine L_whole hE lay_ok (by kernel_rfl) (by kernel_rfl) ?_; cbv
     refine L_row hE hR h fun r5 h => ?_; cbv
     refine L_row hE hR h fun r6 h => ?_; cbv
     refine L_if hE h (fun h => ?_) (fun h => ?_) <;> cbv
     · refine hT2 _ ?_
       refine hT1 _ ?_
       exact And.left (hQ _ _ _ rfl rfl (by cases h; subst hR; rfl))
     refine hN2 _ (_, m2) [] h (Nat.lt_succ_self _) trivial ?_; (cbv; (try simp only [e_rnil hR]); repeat' (first | exact trivial | exact rfl | exact Or.inr trivial | apply And.intro))
   refine hX2 _ _ ?_; cbv
   refine hN1 _ (_, m1) [] h (Nat.lt_succ_self _) trivial ?_; (cbv; (try simp only [e_rnil hR]); repeat' (first | exact trivial | exact rfl | exact Or.inr trivial | apply And.intro))
 refine hX1 _ _ ?_; cbv
 exact And.left (hQ _ _ _ rfl rfl (by cases h; subst hR; rfl))
theorem r09_sign_w {p0 : Int} {p1 : Bool} {r : Bool} (h : r09_sign_g p0 p1 = some r) : FunS Tryz.prog 98 [fI .u8 p0, fB p1] (r09_sign_s rw) r := by
 refine fun_w lay_ok Tryz.call98 Tryz.func98 rfl ?_
 intro A W E Q R hE hR hf hQ; rcases W with ⟨ar, cm, conj, cv, sl, sc, ct, sa, ss, ll, _, _, _, _, mi, mx, _, _, _⟩
 unfold r09_sign_g at h
 rw [q_cm hE] at h
 cbv
 refine L_rgJ hE lay_ok h 0 (fun j1 : Bool => [(22, fB j1)]) (fun j1 => []) (fun j1 h => ?_) (fun j1 h => ?_) <;> cbv
 · refine L_if hE h (fun h => ?_) (fun h => ?_) <;> cbv
   · cases h; (cbv; (try simp only [e_rnil hR]); repeat' (first | exact trivial | exact rfl | exact Or.inr trivial | apply And.intro))
   refine L_if hE h (fun h => ?_) (fun h => ?_) <;> cbv
   · refine L_if hE h (fun h => ?_) (fun h => ?_) <;> cbv
     · cases h; (cbv; (try simp only [e_rnil hR]); repeat' (first | exact trivial | exact rfl | exact Or.inr trivial | apply And.intro))
     refine L_if hE h (fun h => ?_) (fun h => ?_) <;> cbv
     · cases h; (cbv; (try simp only [e_rnil hR]); repeat' (first | exact trivial | exact rfl | exact Or.inr trivial | apply And.intro))
     cases h; (cbv; (try simp only [e_rnil hR]); repeat' (first | exact trivial | exact rfl | exact Or.inr trivial | apply And.intro))
   refine L_if hE h (fun h => ?_) (fun h => ?_) <;> cbv
   · cases h; (cbv; (try simp only [e_rnil hR]); repeat' (first | exact trivial | exact rfl | exact Or.inr trivial | apply And.intro))
   cases h; (cbv; (try simp only [e_rnil hR]); repeat' (first | exact trivial | exact rfl | exact Or.inr trivial | apply And.intro))
 refine L_if hE h (fun h => ?_) (fun h => ?_) <;> cbv
 · exact And.left (hQ _ _ _ rfl rfl (by cases h; subst hR; rfl))
 refine L_rgJ hE lay_ok h 0 (fun j2 : Bool => [(4, fB j2)]) (fun j2 => []) (fun j2 h => ?_) (fun j2 h => ?_) <;> cbv
 · refine L_if hE h (fun h => ?_) (fun h => ?_) <;> cbv
   · refine L_if hE h (fun h => ?_) (fun h => ?_) <;> cbv
     · cases h; (cbv; (try simp only [e_rnil hR]); repeat' (first | exact trivial | exact rfl | exact Or.inr trivial | apply And.intro))
     cases h; (cbv; (try simp only [e_rnil hR]); repeat' (first | exact trivial | exact rfl | exact Or.inr trivial | apply And.intro))
   cases h; (cbv; (try simp only [e_rnil hR]); repeat' (first | exact trivial | exact rfl | exact Or.inr trivial | apply And.intro))
 exact And.left (hQ _ _ _ rfl rfl (by cases h; subst hR; rfl))
theorem r09_Label_w {N : Nat} {p0 : ByteArray} {r : Bool} (h : r09_Label_g N p0 = some r) : FunS Tryz.prog 71 [fS p0] (r09_Label_s rw) r := by
 refine fun_w lay_ok Tryz.call71 Tryz.func71 rfl ?_
 intro A W E Q R hE hR hf hQ; rcases W with ⟨ar, cm, conj, cv, sl, sc, ct, sa, ss, ll, _, _, _, _, mi, mx, _, _, _⟩
 unfold r09_Label_g at h
 rw [q_cm hE, q_sl hE] at h
 cbv
 refine L_rgJ hE lay_ok h 0 (fun j1 : Bool => [(11, fB j1)]) (fun j1 => []) (fun j1 h => ?_) (fun j1 h => ?_) <;> cbv
 · refine L_if hE h (fun h => ?_) (fun h => ?_) <;> cbv
   · cases h; (cbv; (try simp only [e_rnil hR]); repeat' (first | exact trivial | exact rfl | exact Or.inr trivial | apply And.intro))
   cases h; (cbv; (try simp only [e_rnil hR]); repeat' (first | exact trivial | exact rfl | exact Or.inr trivial | apply And.intro))
 refine L_if hE h (fun h => ?_) (fun h => ?_) <;> cbv
 · exact And.left (hQ _ _ _ rfl rfl (by cases h; subst hR; rfl))
 refine L_for hE lay_ok 0 (fun g : Int × Nat => [(2, fB false), (3, fI .i64 g.1)]) (fun g => []) (fun g => r09_Label_l1 p0 g.2 g.1 = some r) (fun g => g.2) (_, N) h ?_ ?_
 · (cbv; (try simp only [e_rnil hR]); repeat' (first | exact trivial | exact rfl | exact Or.inr trivial | apply And.intro))
 rintro ⟨v1, m1⟩ h Q1 hN1 hT1 hX1
 have h : r09_Label_l1 p0 m1 v1 = some r := h
 cases m1 with
 | zero => exact nomatch (show (none : Option _) = some _ from h)
 | succ m1 =>
 rw [r09_Label_l1] at h
 rw [q_ar hE, q_cm hE, q_sl hE, q_sa hE] at h
 cbv
 refine L_if hE h (fun h => ?_) (fun h => ?_) <;> cbv
 · refine L_sin hE h fun h => ?_
   refine L_call hE hR h (fun _ e => r09_sign_w e) rfl rfl fun a2 h => ?_; cbv
   refine L_if hE h (fun h => ?_) (fun h => ?_) <;> cbv
   · refine hT1 _ ?_
     exact And.left (hQ _ _ _ rfl rfl (by cases h; subst hR; rfl))
   refine hN1 _ (_, m1) [] h (Nat.lt_succ_self _) trivial ?_; (cbv; (try simp only [e_rnil hR]); repeat' (first | exact trivial | exact rfl | exact Or.inr trivial | apply And.intro))
 refine hX1 _ _ ?_; cbv
 exact And.left (hQ _ _ _ rfl rfl (by cases h; subst hR; rfl))
end Gn
end Go.Proofs.YtagppjldegblhaaGreatDoor
namespace Go.Proofs.YtagppjldegblhaaGreatDoor
open Go Go.RowKit
open Ab Sh
namespace Gn
theorem r22_Right_w {N : Nat} {p0 : GMatcher} {r : Int} (h : r22_Right_g N p0 = some r) : FunS Tryz.prog 53 [.agg [fS p0.Name, fI .i64 p0.Op, fS p0.Value]] (r22_Right_s rw) r := by
 refine fun_w lay_ok Tryz.call53 Tryz.func53 rfl ?_
 intro A W E Q R hE hR hf hQ; rcases W with ⟨ar, cm, conj, cv, sl, sc, ct, sa, ss, ll, _, _, _, _, mi, mx, _, _, _⟩
 unfold r22_Right_g at h
 rw [q_cm hE, q_sl hE] at h
 cbv
 refine L_call hE hR h (fun _ e => r09_Label_w e) rfl rfl fun a1 h => ?_; cbv
 refine L_if hE h (fun h => ?_) (fun h => ?_) <;> cbv
 · exact And.left (hQ _ _ _ rfl rfl (by cases h; subst hR; rfl))
 refine L_rgJ hE lay_ok h 1 (fun j1 : Bool => [(16, fB j1)]) (fun j1 => []) (fun j1 h => ?_) (fun j1 h => ?_) <;> cbv
 · refine L_if hE h (fun h => ?_) (fun h => ?_) <;> cbv
   · cases h; (cbv; (try simp only [e_rnil hR]); repeat' (first | exact trivial | exact rfl | exact Or.inr trivial | apply And.intro))
   cases h; (cbv; (try simp only [e_rnil hR]); repeat' (first | exact trivial | exact rfl | exact Or.inr trivial | apply And.intro))
 refine L_if hE h (fun h => ?_) (fun h => ?_) <;> cbv
 · exact And.left (hQ _ _ _ rfl rfl (by cases h; subst hR; rfl))
 refine L_rgJ hE lay_ok h 1 (fun j2 : Bool => [(25, fB j2)]) (fun j2 => []) (fun j2 h => ?_) (fun j2 h => ?_) <;> cbv
 · refine L_if hE h (fun h => ?_) (fun h => ?_) <;> cbv
   · cases h; (cbv; (try simp only [e_rnil hR]); repeat' (first | exact trivial | exact rfl | exact Or.inr trivial | apply And.intro))
   cases h; (cbv; (try simp only [e_rnil hR]); repeat' (first | exact trivial | exact rfl | exact Or.inr trivial | apply And.intro))
 refine L_if hE h (fun h => ?_) (fun h => ?_) <;> cbv
 · exact And.left (hQ _ _ _ rfl rfl (by cases h; subst hR; rfl))
 refine L_if hE h (fun h => ?_) (fun h => ?_) <;> cbv
 · refine L_call hE hR h (fun _ e => r13_Parse_w e) rfl rfl fun a2 h => ?_; cbv
   exact And.left (hQ _ _ _ rfl rfl (by cases h; subst hR; rfl))
 exact And.left (hQ _ _ _ rfl rfl (by cases h; subst hR; rfl))
theorem r23_Right_w {N : Nat} {p0 : List GMatcher} {r : GFault} (h : r23_Right_g N p0 = some r) : FunS Tryz.prog 25 [.t (.slc (rw _ cMatcher p0))] (r23_Right_s rw) r := by
 refine fun_w lay_ok Tryz.call25 Tryz.func25 rfl ?_
 intro A W E Q R hE hR hf hQ; rcases W with ⟨ar, cm, conj, cv, sl, sc, ct, sa, ss, ll, _, _, _, _, mi, mx, _, _, _⟩
 rw [← hR]
 unfold r23_Right_g at h
 rw [q_cm hE, q_ll hE, ← hR] at h
 cbv
 refine L_if hE h (fun h => ?_) (fun h => ?_) <;> cbv
 · exact And.left (hQ _ _ _ rfl rfl (by cases h; subst hR; rfl))
 refine L_for hE lay_ok 1 (fun g : Int × Nat => [(3, fI .i64 g.1)]) (fun g => []) (fun g => r23_Right_l1 N p0 g.2 g.1 = some r) (fun g => g.2) (_, N) h ?_ ?_
 · (cbv; (try simp only [e_rnil hR]); repeat' (first | exact trivial | exact rfl | exact Or.inr trivial | apply And.intro))
 rintro ⟨v1, m1⟩ h Q1 hN1 hT1 hX1
 have h : r23_Right_l1 N p0 m1 v1 = some r := h
 cases m1 with
 | zero => exact nomatch (show (none : Option _) = some _ from h)
 | succ m1 =>
 rw [r23_Right_l1] at h
 rw [q_ar hE, q_cm hE, q_ll hE, ← hR] at h
 cbv
 refine L_if hE h (fun h => ?_) (fun h => ?_) <;> cbv
 · refine L_row hE hR h fun r2 h => ?_; cbv
   refine L_call hE hR h (fun _ e => r22_Right_w e) rfl rfl fun a3 h => ?_; cbv
   refine L_if hE h (fun h => ?_) (fun h => ?_) <;> cbv
   · refine hT1 _ ?_
     exact And.left (hQ _ _ _ rfl rfl (by cases h; subst hR; rfl))
   refine hN1 _ (_, m1) [] h (Nat.lt_succ_self _) trivial ?_; (cbv; (try simp only [e_rnil hR]); repeat' (first | exact trivial | exact rfl | exact Or.inr trivial | apply And.intro))
 refine hX1 _ _ ?_; cbv
 exact And.left (hQ _ _ _ rfl rfl (by cases h; subst hR; rfl))
theorem r22_Sign_w {p0 : Int} {r : ByteArray} (h : r22_Sign_g p0 = some r) : FunS Tryz.prog 72 [fI .i64 p0] (r22_Sign_s rw) r := by
 refine fun_w lay_ok Tryz.call72 Tryz.func72 rfl ?_
 intro A W E Q R hE hR hf hQ; rcases W with ⟨ar, cm, conj, cv, sl, sc, ct, sa, ss, ll, _, _, _, _, mi, mx, _, _, _⟩
 unfold r22_Sign_g at h
 rw [q_cm hE] at h
 cbv
 refine L_if hE h (fun h => ?_) (fun h => ?_) <;> cbv
 · exact And.left (hQ _ _ _ rfl rfl (by cases h; subst hR; rfl))
 refine L_if hE h (fun h => ?_) (fun h => ?_) <;> cbv
 · exact And.left (hQ _ _ _ rfl rfl (by cases h; subst hR; rfl))
 refine L_if hE h (fun h => ?_) (fun h => ?_) <;> cbv
 · exact And.left (hQ _ _ _ rfl rfl (by cases h; subst hR; rfl))
 refine L_if hE h (fun h => ?_) (fun h => ?_) <;> cbv
 · exact And.left (hQ _ _ _ rfl rfl (by cases h; subst hR; rfl))
 exact And.left (hQ _ _ _ rfl rfl (by cases h; subst hR; rfl))
theorem r10_trail_w {N : Nat} {p0 : ByteArray} {p1 : Int} {p2 : Int} {r : Bool} (h : r10_trail_g N p0 p1 p2 = some r) : FunS Tryz.prog 158 [fS p0, fI .i64 p1, fI .i64 p2] (r10_trail_s rw) r := by
 refine fun_w lay_ok Tryz.call158 Tryz.func158 rfl ?_
 intro A W E Q R hE hR hf hQ; rcases W with ⟨ar, cm, conj, cv, sl, sc, ct, sa, ss, ll, _, _, _, _, mi, mx, _, _, _⟩
 unfold r10_trail_g at h
 rw [q_ar hE, q_cm hE, q_sl hE] at h
 cbv
 refine L_if hE h (fun h => ?_) (fun h => ?_) <;> cbv
 · exact And.left (hQ _ _ _ rfl rfl (by cases h; subst hR; rfl))
 refine L_for hE lay_ok 0 (fun g : Int × Nat => [(6, fB false), (7, fI .i64 g.1)]) (fun g => []) (fun g => r10_trail_l1 p0 p1 p2 g.2 g.1 = some r) (fun g => g.2) (_, N) h ?_ ?_
 · (cbv; (try simp only [e_rnil hR]); repeat' (first | exact trivial | exact rfl | exact Or.inr trivial | apply And.intro))
 rintro ⟨v1, m1⟩ h Q1 hN1 hT1 hX1
 have h : r10_trail_l1 p0 p1 p2 m1 v1 = some r := h
 cases m1 with
 | zero => exact nomatch (show (none : Option _) = some _ from h)
 | succ m1 =>
 rw [r10_trail_l1] at h
 rw [q_ar hE, q_cm hE, q_sa hE] at h
 cbv
 refine L_if hE h (fun h => ?_) (fun h => ?_) <;> cbv
 · refine L_rgJ hE lay_ok h 0 (fun j2 : Bool => [(31, fB j2)]) (fun j2 => []) (fun j2 h => ?_) (fun j2 h => ?_) <;> cbv
   · refine L_sin hE h fun h => ?_
     refine L_if hE h (fun h => ?_) (fun h => ?_) <;> cbv
     · cases h; (cbv; (try simp only [e_rnil hR]); repeat' (first | exact trivial | exact rfl | exact Or.inr trivial | apply And.intro))
     refine L_sin hE h fun h => ?_
     cases h; (cbv; (try simp only [e_rnil hR]); repeat' (first | exact trivial | exact rfl | exact Or.inr trivial | apply And.intro))
   refine L_if hE h (fun h => ?_) (fun h => ?_) <;> cbv
   · refine hT1 _ ?_
     exact And.left (hQ _ _ _ rfl rfl (by cases h; subst hR; rfl))
   refine hN1 _ (_, m1) [] h (Nat.lt_succ_self _) trivial ?_; (cbv; (try simp only [e_rnil hR]); repeat' (first | exact trivial | exact rfl | exact Or.inr trivial | apply And.intro))
 refine hX1 _ _ ?_; cbv
 exact And.left (hQ _ _ _ rfl rfl (by cases h; subst hR; rfl))
theorem r10_Rune_w {N : Nat} {p0 : ByteArray} {p1 : Int} {r : Int} (h : r10_Rune_g N p0 p1 = some r) : FunS Tryz.prog 136 [fS p0, fI .i64 p1] (r10_Rune_s rw) r := by
 refine fun_w lay_ok Tryz.call136 Tryz.func136 rfl ?_
 intro A W E Q R hE hR hf hQ; rcases W with ⟨ar, cm, conj, cv, sl, sc, ct, sa, ss, ll, _, _, _, _, mi, mx, _, _, _⟩
 unfold r10_Rune_g at h
 rw [q_ar hE, q_cm hE, q_cv hE, q_sl hE, q_sa hE] at h
 cbv
 refine L_sin hE h fun h => ?_
 refine L_if hE h (fun h => ?_) (fun h => ?_) <;> cbv
 · exact And.left (hQ _ _ _ rfl rfl (by cases h; subst hR; rfl))
 refine L_cdJ hE lay_ok h 0 (fun j1 : Int => [(6, fI .i64 j1)]) (fun j1 => []) (fun j1 h => ?_) (fun j1 h => ?_) <;> cbv
 · refine L_if hE h (fun h => ?_) (fun h => ?_) <;> cbv
   · refine L_sin hE h fun h => ?_
     cases h; (cbv; (try simp only [e_rnil hR]); repeat' (first | exact trivial | exact rfl | exact Or.inr trivial | apply And.intro))
   cases h; (cbv; (try simp only [e_rnil hR]); repeat' (first | exact trivial | exact rfl | exact Or.inr trivial | apply And.intro))
 refine L_rgJ hE lay_ok h 0 (fun j2 : Bool => [(34, fB j2)]) (fun j2 => []) (fun j2 h => ?_) (fun j2 h => ?_) <;> cbv
 · refine L_if hE h (fun h => ?_) (fun h => ?_) <;> cbv
   · refine L_if hE h (fun h => ?_) (fun h => ?_) <;> cbv
     · refine L_call hE hR h (fun _ e => r10_trail_w e) rfl rfl fun a1 h => ?_; cbv
       cases h; (cbv; (try simp only [e_rnil hR]); repeat' (first | exact trivial | exact rfl | exact Or.inr trivial | apply And.intro))
     cases h; (cbv; (try simp only [e_rnil hR]); repeat' (first | exact trivial | exact rfl | exact Or.inr trivial | apply And.intro))
   cases h; (cbv; (try simp only [e_rnil hR]); repeat' (first | exact trivial | exact rfl | exact Or.inr trivial | apply And.intro))
 refine L_if hE h (fun h => ?_) (fun h => ?_) <;> cbv
 · exact And.left (hQ _ _ _ rfl rfl (by cases h; subst hR; rfl))
 refine L_rgJ hE lay_ok h 0 (fun j3 : Bool => [(62, fB j3)]) (fun j3 => []) (fun j3 h => ?_) (fun j3 h => ?_) <;> cbv
 · refine L_if hE h (fun h => ?_) (fun h => ?_) <;> cbv
   · refine L_if hE h (fun h => ?_) (fun h => ?_) <;> cbv
     · refine L_call hE hR h (fun _ e => r10_trail_w e) rfl rfl fun a2 h => ?_; cbv
       refine L_if hE h (fun h => ?_) (fun h => ?_) <;> cbv
       · refine L_if hE h (fun h => ?_) (fun h => ?_) <;> cbv
         · refine L_if hE h (fun h => ?_) (fun h => ?_) <;> cbv
           · cases h; (cbv; (try simp only [e_rnil hR]); repeat' (first | exact trivial | exact rfl | exact Or.inr trivial | apply And.intro))
           cases h; (cbv; (try simp only [e_rnil hR]); repeat' (first | exact trivial | exact rfl | exact Or.inr trivial | apply And.intro))
         refine L_if hE h (fun h => ?_) (fun h => ?_) <;> cbv
         · refine L_if hE h (fun h => ?_) (fun h => ?_) <;> cbv
           · cases h; (cbv; (try simp only [e_rnil hR]); repeat' (first | exact trivial | exact rfl | exact Or.inr trivial | apply And.intro))
           cases h; (cbv; (try simp only [e_rnil hR]); repeat' (first | exact trivial | exact rfl | exact Or.inr trivial | apply And.intro))
         cases h; (cbv; (try simp only [e_rnil hR]); repeat' (first | exact trivial | exact rfl | exact Or.inr trivial | apply And.intro))
       cases h; (cbv; (try simp only [e_rnil hR]); repeat' (first | exact trivial | exact rfl | exact Or.inr trivial | apply And.intro))
     cases h; (cbv; (try simp only [e_rnil hR]); repeat' (first | exact trivial | exact rfl | exact Or.inr trivial | apply And.intro))
   cases h; (cbv; (try simp only [e_rnil hR]); repeat' (first | exact trivial | exact rfl | exact Or.inr trivial | apply And.intro))
 refine L_if hE h (fun h => ?_) (fun h => ?_) <;> cbv
 · exact And.left (hQ _ _ _ rfl rfl (by cases h; subst hR; rfl))
 refine L_rgJ hE lay_ok h 0 (fun j4 : Bool => [(90, fB j4)]) (fun j4 => []) (fun j4 h => ?_) (fun j4 h => ?_) <;> cbv
 · refine L_if hE h (fun h => ?_) (fun h => ?_) <;> cbv
   · refine L_if hE h (fun h => ?_) (fun h => ?_) <;> cbv
     · refine L_call hE hR h (fun _ e => r10_trail_w e) rfl rfl fun a3 h => ?_; cbv
       refine L_if hE h (fun h => ?_) (fun h => ?_) <;> cbv
       · refine L_if hE h (fun h => ?_) (fun h => ?_) <;> cbv
         · refine L_if hE h (fun h => ?_) (fun h => ?_) <;> cbv
           · cases h; (cbv; (try simp only [e_rnil hR]); repeat' (first | exact trivial | exact rfl | exact Or.inr trivial | apply And.intro))
           cases h; (cbv; (try simp only [e_rnil hR]); repeat' (first | exact trivial | exact rfl | exact Or.inr trivial | apply And.intro))
         refine L_if hE h (fun h => ?_) (fun h => ?_) <;> cbv
         · refine L_if hE h (fun h => ?_) (fun h => ?_) <;> cbv
           · cases h; (cbv; (try simp only [e_rnil hR]); repeat' (first | exact trivial | exact rfl | exact Or.inr trivial | apply And.intro))
           cases h; (cbv; (try simp only [e_rnil hR]); repeat' (first | exact trivial | exact rfl | exact Or.inr trivial | apply And.intro))
         cases h; (cbv; (try simp only [e_rnil hR]); repeat' (first | exact trivial | exact rfl | exact Or.inr trivial | apply And.intro))
       cases h; (cbv; (try simp only [e_rnil hR]); repeat' (first | exact trivial | exact rfl | exact Or.inr trivial | apply And.intro))
     cases h; (cbv; (try simp only [e_rnil hR]); repeat' (first | exact trivial | exact rfl | exact Or.inr trivial | apply And.intro))
   cases h; (cbv; (try simp only [e_rnil hR]); repeat' (first | exact trivial | exact rfl | exact Or.inr trivial | apply And.intro))
 refine L_if hE h (fun h => ?_) (fun h => ?_) <;> cbv
 · exact And.left (hQ _ _ _ rfl rfl (by cases h; subst hR; rfl))
 exact And.left (hQ _ _ _ rfl rfl (by cases h; subst hR; rfl))
end Gn
end Go.Proofs.YtagppjldegblhaaGreatDoor
namespace Go.Proofs.YtagppjldegblhaaGreatDoor
open Go Go.RowKit
open Ab Sh
namespace Gn
theorem r10_Unit_w {N : Nat} {p0 : ByteArray} {p1 : Int} {r : Int} (h : r10_Unit_g N p0 p1 = some r) : FunS Tryz.prog 99 [fS p0, fI .i64 p1] (r10_Unit_s rw) r := by
 refine fun_w lay_ok Tryz.call99 Tryz.func99 rfl ?_
 intro A W E Q R hE hR hf hQ; rcases W with ⟨ar, cm, conj, cv, sl, sc, ct, sa, ss, ll, _, _, _, _, mi, mx, _, _, _⟩
 unfold r10_Unit_g at h
 rw [q_cm hE, q_sl hE] at h
 cbv
 refine L_rgJ hE lay_ok h 0 (fun j1 : Bool => [(13, fB j1)]) (fun j1 => []) (fun j1 h => ?_) (fun j1 h => ?_) <;> cbv
 · refine L_if hE h (fun h => ?_) (fun h => ?_) <;> cbv
   · cases h; (cbv; (try simp only [e_rnil hR]); repeat' (first | exact trivial | exact rfl | exact Or.inr trivial | apply And.intro))
   cases h; (cbv; (try simp only [e_rnil hR]); repeat' (first | exact trivial | exact rfl | exact Or.inr trivial | apply And.intro))
 refine L_if hE h (fun h => ?_) (fun h => ?_) <;> cbv
 · exact And.left (hQ _ _ _ rfl rfl (by cases h; subst hR; rfl))
 refine L_call hE hR h (fun _ e => r10_Rune_w e) rfl rfl fun a1 h => ?_; cbv
 refine L_if hE h (fun h => ?_) (fun h => ?_) <;> cbv
 · exact And.left (hQ _ _ _ rfl rfl (by cases h; subst hR; rfl))
 exact And.left (hQ _ _ _ rfl rfl (by cases h; subst hR; rfl))
theorem r10_safe_w {N : Nat} {p0 : ByteArray} {p1 : Int} {r : Bool} (h : r10_safe_g N p0 p1 = some r) : FunS Tryz.prog 100 [fS p0, fI .i64 p1] (r10_safe_s rw) r := by
 refine fun_w lay_ok Tryz.call100 Tryz.func100 rfl ?_
 intro A W E Q R hE hR hf hQ; rcases W with ⟨ar, cm, conj, cv, sl, sc, ct, sa, ss, ll, _, _, _, _, mi, mx, _, _, _⟩
 unfold r10_safe_g at h
 rw [q_cm hE, q_sa hE] at h
 cbv
 refine L_rgJ hE lay_ok h 0 (fun j1 : Bool => [(4, fB j1)]) (fun j1 => []) (fun j1 h => ?_) (fun j1 h => ?_) <;> cbv
 · refine L_call hE hR h (fun _ e => r10_Rune_w e) rfl rfl fun a1 h => ?_; cbv
   refine L_if hE h (fun h => ?_) (fun h => ?_) <;> cbv
   · refine L_sin hE h fun h => ?_
     refine L_if hE h (fun h => ?_) (fun h => ?_) <;> cbv
     · refine L_sin hE h fun h => ?_
       cases h; (cbv; (try simp only [e_rnil hR]); repeat' (first | exact trivial | exact rfl | exact Or.inr trivial | apply And.intro))
     cases h; (cbv; (try simp only [e_rnil hR]); repeat' (first | exact trivial | exact rfl | exact Or.inr trivial | apply And.intro))
   cases h; (cbv; (try simp only [e_rnil hR]); repeat' (first | exact trivial | exact rfl | exact Or.inr trivial | apply And.intro))
 exact And.left (hQ _ _ _ rfl rfl (by cases h; subst hR; rfl))
theorem r02_Hex_w {N : Nat} {p0 : ByteArray} {r : ByteArray} (h : r02_Hex_g N p0 = some r) : FunS Tryz.prog 101 [fS p0] (r02_Hex_s rw) r := by
 refine fun_w lay_ok Tryz.call101 Tryz.func101 rfl ?_
 intro A W E Q R hE hR hf hQ; rcases W with ⟨ar, cm, conj, cv, sl, sc, ct, sa, ss, ll, _, _, _, _, mi, mx, _, _, _⟩
 unfold r02_Hex_g at h
 skip
 cbv
 refine L_for hE lay_ok 0 (fun g : ByteArray × Int × Nat => [(4, fS g.1), (5, fI .i64 g.2.1)]) (fun g => []) (fun g => r02_Hex_l1 p0 g.2.2 g.1 g.2.1 = some r) (fun g => g.2.2) (_, _, N) h ?_ ?_
 · (cbv; (try simp only [e_rnil hR]); repeat' (first | exact trivial | exact rfl | exact Or.inr trivial | apply And.intro))
 rintro ⟨v1, v2, m1⟩ h Q1 hN1 hT1 hX1
 have h : r02_Hex_l1 p0 m1 v1 v2 = some r := h
 cases m1 with
 | zero => exact nomatch (show (none : Option _) = some _ from h)
 | succ m1 =>
 rw [r02_Hex_l1] at h
 rw [q_ar hE, q_cm hE, q_cv hE, q_sl hE, q_ct hE, q_sa hE, q_ss hE] at h
 cbv
 refine L_if hE h (fun h => ?_) (fun h => ?_) <;> cbv
 · refine L_whole hE lay_ok (by kernel_rfl) (by kernel_rfl) ?_; cbv
   refine L_sin hE h fun h => ?_
   refine L_ne0 hE h fun h => ?_
   refine L_sin hE h fun h => ?_
   refine L_ne0 hE h fun h => ?_
   refine L_whole hE lay_ok (by kernel_rfl) (by kernel_rfl) ?_; cbv
   refine L_ssin hE h fun h => ?_
   refine L_ct hE h fun h => ?_
   refine L_ssin hE h fun h => ?_
   refine L_ct hE h fun h => ?_
   refine hN1 _ (_, _, m1) [] h (Nat.lt_succ_self _) trivial ?_; (cbv; (try simp only [e_rnil hR]); repeat' (first | exact trivial | exact rfl | exact Or.inr trivial | apply And.intro))
 refine hX1 _ _ ?_; cbv
 exact And.left (hQ _ _ _ rfl rfl (by cases h; subst hR; rfl))
theorem r10_Text_w {N : Nat} {p0 : ByteArray} {r : ByteArray} (h : r10_Text_g N p0 = some r) : FunS Tryz.prog 73 [fS p0] (r10_Text_s rw) r := by
 refine fun_w lay_ok Tryz.call73 Tryz.func73 rfl ?_
 intro A W E Q R hE hR hf hQ; rcases W with ⟨ar, cm, conj, cv, sl, sc, ct, sa, ss, ll, _, _, _, _, mi, mx, _, _, _⟩
 unfold r10_Text_g at h
 skip
 cbv
 refine L_for hE lay_ok 0 (fun g : ByteArray × Int × Nat => [(3, fS g.1), (4, fI .i64 g.2.1)]) (fun g => []) (fun g => r10_Text_l1 N p0 g.2.2 g.1 g.2.1 = some r) (fun g => g.2.2) (_, _, N) h ?_ ?_
 · (cbv; (try simp only [e_rnil hR]); repeat' (first | exact trivial | exact rfl | exact Or.inr trivial | apply And.intro))
 rintro ⟨v1, v2, m1⟩ h Q1 hN1 hT1 hX1
 have h : r10_Text_l1 N p0 m1 v1 v2 = some r := h
 cases m1 with
 | zero => exact nomatch (show (none : Option _) = some _ from h)
 | succ m1 =>
 rw [r10_Text_l1] at h
 rw [q_ar hE, q_cm hE, q_sl hE, q_ct hE, q_sa hE, q_ss hE] at h
 cbv
 refine L_if hE h (fun h => ?_) (fun h => ?_) <;> cbv
 · refine L_call hE hR h (fun _ e => r10_Unit_w e) rfl rfl fun a3 h => ?_; cbv
   refine L_rgJ hE lay_ok h 0 (fun j1 : Bool => [(22, fB j1)]) (fun j1 => []) (fun j1 h => ?_) (fun j1 h => ?_) <;> cbv
   · refine L_sin hE h fun h => ?_
     refine L_if hE h (fun h => ?_) (fun h => ?_) <;> cbv
     · cases h; (cbv; (try simp only [e_rnil hR]); repeat' (first | exact trivial | exact rfl | exact Or.inr trivial | apply And.intro))
     refine L_sin hE h fun h => ?_
     cases h; (cbv; (try simp only [e_rnil hR]); repeat' (first | exact trivial | exact rfl | exact Or.inr trivial | apply And.intro))
   refine L_cdJ hE lay_ok h 0 (fun j3 : ByteArray => [(3, fS j3)]) (fun j3 => []) (fun j3 h => ?_) (fun j3 h => ?_) <;> cbv
   · refine L_if hE h (fun h => ?_) (fun h => ?_) <;> cbv
     · refine L_ct hE h fun h => ?_
       refine L_ssin hE h fun h => ?_
       refine L_ct hE h fun h => ?_
       cases h; (cbv; (try simp only [e_rnil hR]); repeat' (first | exact trivial | exact rfl | exact Or.inr trivial | apply And.intro))
     refine L_call hE hR h (fun _ e => r10_safe_w e) rfl rfl fun a4 h => ?_; cbv
     refine L_cdJ hE lay_ok h 0 (fun j2 : ByteArray => [(3, fS j2)]) (fun j2 => []) (fun j2 h => ?_) (fun j2 h => ?_) <;> cbv
     · refine L_if hE h (fun h => ?_) (fun h => ?_) <;> cbv
       · refine L_ssin hE h fun h => ?_
         refine L_ct hE h fun h => ?_
         cases h; (cbv; (try simp only [e_rnil hR]); repeat' (first | exact trivial | exact rfl | exact Or.inr trivial | apply And.intro))
       refine L_ct hE h fun h => ?_
       refine L_ssin hE h fun h => ?_
       refine L_call hE hR h (fun _ e => r02_Hex_w e) rfl rfl fun a5 h => ?_; cbv
       refine L_ct hE h fun h => ?_
       cases h; (cbv; (try simp only [e_rnil hR]); repeat' (first | exact trivial | exact rfl | exact Or.inr trivial | apply And.intro))
     cases h; (cbv; (try simp only [e_rnil hR]); repeat' (first | exact trivial | exact rfl | exact Or.inr trivial | apply And.intro))
   refine hN1 _ (_, _, m1) [] h (Nat.lt_succ_self _) trivial ?_; (cbv; (try simp only [e_rnil hR]); repeat' (first | exact trivial | exact rfl | exact Or.inr trivial | apply And.intro))
 refine hX1 _ _ ?_; cbv
 refine L_ct hE h fun h => ?_
 exact And.left (hQ _ _ _ rfl rfl (by cases h; subst hR; rfl))
theorem r22_Text_w {N : Nat} {p0 : GMatcher} {r : ByteArray} (h : r22_Text_g N p0 = some r) : FunS Tryz.prog 54 [.agg [fS p0.Name, fI .i64 p0.Op, fS p0.Value]] (r22_Text_s rw) r := by
 refine fun_w lay_ok Tryz.call54 Tryz.func54 rfl ?_
 intro A W E Q R hE hR hf hQ; rcases W with ⟨ar, cm, conj, cv, sl, sc, ct, sa, ss, ll, _, _, _, _, mi, mx, _, _, _⟩
 unfold r22_Text_g at h
 rw [q_ct hE] at h
 cbv
 refine L_whole hE lay_ok (by kernel_rfl) (by kernel_rfl) ?_; cbv
 refine L_pcall hE hR h (fun _ e => r22_Sign_w e) rfl rfl fun a1 h => ?_; cbv
 refine L_ct hE h fun h => ?_
 refine L_pcall hE hR h (fun _ e => r10_Text_w e) rfl rfl fun a2 h => ?_; cbv
 refine L_ct hE h fun h => ?_
 exact And.left (hQ _ _ _ rfl rfl (by cases h; subst hR; rfl))
end Gn
end Go.Proofs.YtagppjldegblhaaGreatDoor
