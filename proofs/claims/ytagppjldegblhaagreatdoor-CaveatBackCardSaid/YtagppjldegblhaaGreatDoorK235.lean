/- Texts that the proof leans on. -/
import Derived.Test.YtagppjldegblhaaGreatDoorK234
import Derived.ChangeArms
import Derived.OpenShut
import Derived.DataReads
import Derived.WideShapes
import Derived.Deep.Slices
import Derived.Laws.OwnMore
import Derived.Laws.AppendOwn
set_option linter.unusedVariables false
set_option linter.unusedSimpArgs false
set_option maxRecDepth 100000
set_option maxHeartbeats 4000000
namespace Go.Proofs.YtagppjldegblhaaGreatDoor
open Go Go.RowKit
open Ab Sh
namespace Gn
theorem name_Join_w {p0 : List ByteArray} {r : ByteArray} (h : name_Join_g p0 = some r) : FunS Tryz.prog 28 [.t (.slc (rw _ cS p0))] (name_Join_s rw) r := by
 refine fun_w lay_ok Tryz.call28 Tryz.func28 rfl ?_
 intro A W E Q R hE hR hf hQ; rcases W with ⟨ar, cm, conj, cv, sl, sc, ct, sa, ss, ll, _, _, _, _, mi, mx, _, _, _⟩
 rw [← hR]
 unfold name_Join_g at h
 skip
 cbv
 refine L_call hE hR h (fun _ e => strings_Join_w e) (by subst hR; rfl) rfl fun a1 h => ?_; cbv
 exact And.left (hQ _ _ _ rfl rfl (by cases h; subst hR; rfl))
theorem caveat_Text_w {N : Nat} {p0 : GCaveat} {r : ByteArray} (h : caveat_Text_g N p0 = some r) : FunS Tryz.prog 10 [.agg [fI .i64 p0.Kind, fI .i64 p0.Num, .t (.slc (rw _ cS p0.Words)), .t (.slc (rw _ cMatcher p0.Sel))]] (caveat_Text_s rw) r := by
 refine fun_w lay_ok Tryz.call10 Tryz.func10 rfl ?_
 intro A W E Q R hE hR hf hQ; rcases W with ⟨ar, cm, conj, cv, sl, sc, ct, sa, ss, ll, _, _, _, _, mi, mx, _, _, _⟩
 rw [← hR]
 unfold caveat_Text_g at h
 rw [q_cm hE, q_ct hE] at h
 cbv
 refine L_call hE hR h (fun _ e => caveat_Right_w e) (by subst hR; rfl) rfl fun a1 h => ?_; cbv
 refine L_if hE h (fun h => ?_) (fun h => ?_) <;> cbv
 · exact And.left (hQ _ _ _ rfl rfl (by cases h; subst hR; rfl))
 refine L_glb hE hR T_kinds_in T_kinds_len T_kinds_one T_kinds_rows ?_; cbv
 refine L_row hE hR h fun r2 h => ?_; cbv
 refine L_ct hE h fun h => ?_
 refine L_cdJ hE lay_ok h 1 (fun j1 : Bool => [(14, fB j1)]) (fun j1 => []) (fun j1 h => ?_) (fun j1 h => ?_) <;> cbv
 · refine L_if hE h (fun h => ?_) (fun h => ?_) <;> cbv
   · cases h; (cbv; (try simp only [e_rnil hR]); repeat' (first | exact trivial | exact rfl | exact Or.inr trivial | apply And.intro))
   cases h; (cbv; (try simp only [e_rnil hR]); repeat' (first | exact trivial | exact rfl | exact Or.inr trivial | apply And.intro))
 refine L_if hE h (fun h => ?_) (fun h => ?_) <;> cbv
 · refine L_call hE hR h (fun _ e => strconv_Itoa_w e) rfl rfl fun a3 h => ?_; cbv
   refine L_ct hE h fun h => ?_
   exact And.left (hQ _ _ _ rfl rfl (by cases h; subst hR; rfl))
 refine L_if hE h (fun h => ?_) (fun h => ?_) <;> cbv
 · refine L_call hE hR h (fun _ e => selector_Text_w e) (by subst hR; rfl) rfl fun a4 h => ?_; cbv
   refine L_ct hE h fun h => ?_
   exact And.left (hQ _ _ _ rfl rfl (by cases h; subst hR; rfl))
 refine L_call hE hR h (fun _ e => name_Join_w e) (by subst hR; rfl) rfl fun a5 h => ?_; cbv
 refine L_ct hE h fun h => ?_
 exact And.left (hQ _ _ _ rfl rfl (by cases h; subst hR; rfl))
theorem caveat_Allows_w {N : Nat} {p0 : GCaveat} {p1 : GFacts} {r : Bool} (h : caveat_Allows_g N p0 p1 = some r) : FunS Tryz.prog 12 [.agg [fI .i64 p0.Kind, fI .i64 p0.Num, .t (.slc (rw _ cS p0.Words)), .t (.slc (rw _ cMatcher p0.Sel))], .agg [fS p1.Tenant, fS p1.Endpoint, fS p1.Class, fI .i64 p1.Do, fI .i64 p1.Now]] (caveat_Allows_s rw) r := by
 refine fun_w lay_ok Tryz.call12 Tryz.func12 rfl ?_
 intro A W E Q R hE hR hf hQ; rcases W with ⟨ar, cm, conj, cv, sl, sc, ct, sa, ss, ll, _, _, _, _, mi, mx, _, _, _⟩
 rw [← hR]
 unfold caveat_Allows_g at h
 rw [q_cm hE, q_sc hE] at h
 cbv
 refine L_call hE hR h (fun _ e => caveat_Right_w e) (by subst hR; rfl) rfl fun a1 h => ?_; cbv
 refine L_if hE h (fun h => ?_) (fun h => ?_) <;> cbv
 · exact And.left (hQ _ _ _ rfl rfl (by cases h; subst hR; rfl))
 refine L_if hE h (fun h => ?_) (fun h => ?_) <;> cbv
 · refine L_whole hE lay_ok (by kernel_rfl) (by kernel_rfl) ?_; cbv
   refine L_row hE hR h fun r2 h => ?_; cbv
   exact And.left (hQ _ _ _ rfl rfl (by cases h; subst hR; rfl))
 refine L_if hE h (fun h => ?_) (fun h => ?_) <;> cbv
 · refine L_call hE hR h (fun _ e => slices_Contains_S_w e) (by subst hR; rfl) rfl fun a3 h => ?_; cbv
   exact And.left (hQ _ _ _ rfl rfl (by cases h; subst hR; rfl))
 refine L_if hE h (fun h => ?_) (fun h => ?_) <;> cbv
 · refine L_call hE hR h (fun _ e => slices_Contains_S_w e) (by subst hR; rfl) rfl fun a4 h => ?_; cbv
   exact And.left (hQ _ _ _ rfl rfl (by cases h; subst hR; rfl))
 refine L_if hE h (fun h => ?_) (fun h => ?_) <;> cbv
 · refine L_keep hE lay_ok Tryz.call19 Tryz.func19 rfl ?_
   intro A1 E1 Q1 hE1 hf1 hQ1; cbv
   refine L_keep hE1 lay_ok Tryz.call47 Tryz.func47 rfl ?_
   intro A2 E2 Q2 hE2 hf2 hQ2; cbv
   refine L_for hE2 lay_ok 2 (fun g : Int × Nat => [(4, fI .i64 0), (8, fI .i64 g.1)]) (fun g => []) (fun g => caveat_Allows_l3 p0 p1 g.2 g.1 = some r) (fun g => g.2) (_, N) h ?_ ?_
   · (cbv; (try simp only [e_rnil hR]); repeat' (first | exact trivial | exact rfl | exact Or.inr trivial | apply And.intro))
   rintro ⟨v5, m3⟩ h Q3 hN3 hT3 hX3
   have h : caveat_Allows_l3 p0 p1 m3 v5 = some r := h
   cases m3 with
   | zero => exact nomatch (show (none : Option _) = some _ from h)
   | succ m3 =>
   rw [caveat_Allows_l3] at h
   rw [q_ar hE, q_cm hE, q_ll hE, ← hR] at h
   cbv
   refine L_if hE2 h (fun h => ?_) (fun h => ?_) <;> cbv
   · refine L_row hE2 hR h fun r6 h => ?_; cbv
     refine L_keep hE2 lay_ok Tryz.call33 Tryz.func33 rfl ?_
     intro A4 E4 Q4 hE4 hf4 hQ4; cbv
     refine L_whole hE4 lay_ok (by kernel_rfl) (by kernel_rfl) ?_; cbv
     refine L_pcall hE4 hR h (fun _ e => caveat_do_w e) rfl rfl fun a7 h => ?_; cbv
     refine And.left (hQ4 _ _ rfl ?_); cbv
     refine L_if hE2 h (fun h => ?_) (fun h => ?_) <;> cbv
     · refine hT3 _ ?_
       refine And.left (hQ2 _ _ rfl ?_); cbv
       refine And.left (hQ1 _ _ rfl ?_); cbv
       exact And.left (hQ _ _ _ rfl rfl (by cases h; subst hR; rfl))
     refine hN3 _ (_, m3) [] h (Nat.lt_succ_self _) trivial ?_; (cbv; (try simp only [e_rnil hR]); repeat' (first | exact trivial | exact rfl | exact Or.inr trivial | apply And.intro))
   refine hX3 _ _ ?_; cbv
   refine And.left (hQ2 _ _ rfl ?_); cbv
   refine And.left (hQ1 _ _ rfl ?_); cbv
   exact And.left (hQ _ _ _ rfl rfl (by cases h; subst hR; rfl))
 refine L_if hE h (fun h => ?_) (fun h => ?_) <;> cbv
 · exact And.left (hQ _ _ _ rfl rfl (by cases h; subst hR; rfl))
 refine L_if hE h (fun h => ?_) (fun h => ?_) <;> cbv
 · exact And.left (hQ _ _ _ rfl rfl (by cases h; subst hR; rfl))
 exact And.left (hQ _ _ _ rfl rfl (by cases h; subst hR; rfl))
theorem selector_wrong_w {p0 : ByteArray} {p1 : Int} {r : GFault} (h : selector_wrong_g p0 p1 = some r) : FunS Tryz.prog 61 [fS p0, fI .i64 p1] (selector_wrong_s rw) r := by
 refine fun_w lay_ok Tryz.call61 Tryz.func61 rfl ?_
 intro A W E Q R hE hR hf hQ; rcases W with ⟨ar, cm, conj, cv, sl, sc, ct, sa, ss, ll, _, _, _, _, mi, mx, _, _, _⟩
 unfold selector_wrong_g at h
 rw [q_cm hE, q_sl hE] at h
 cbv
 refine L_if hE h (fun h => ?_) (fun h => ?_) <;> cbv
 · exact And.left (hQ _ _ _ rfl rfl (by cases h; subst hR; rfl))
 exact And.left (hQ _ _ _ rfl rfl (by cases h; subst hR; rfl))
theorem internal_stringslite_HasPrefix_w {p0 : ByteArray} {p1 : ByteArray} {r : Bool} (h : internal_stringslite_HasPrefix_g p0 p1 = some r) : FunS Tryz.prog 114 [fS p0, fS p1] (internal_stringslite_HasPrefix_s rw) r := by
 refine fun_w lay_ok Tryz.call114 Tryz.func114 rfl ?_
 intro A W E Q R hE hR hf hQ; rcases W with ⟨ar, cm, conj, cv, sl, sc, ct, sa, ss, ll, _, _, _, _, mi, mx, _, _, _⟩
 unfold internal_stringslite_HasPrefix_g at h
 rw [q_cm hE, q_sl hE, q_sc hE, q_ss hE] at h
 cbv
 refine L_rgJ hE lay_ok h 0 (fun j1 : Bool => [(4, fB j1)]) (fun j1 => []) (fun j1 h => ?_) (fun j1 h => ?_) <;> cbv
 · refine L_if hE h (fun h => ?_) (fun h => ?_) <;> cbv
   · refine L_ssin hE h fun h => ?_
     cases h; (cbv; (try simp only [e_rnil hR]); repeat' (first | exact trivial | exact rfl | exact Or.inr trivial | apply And.intro))
   cases h; (cbv; (try simp only [e_rnil hR]); repeat' (first | exact trivial | exact rfl | exact Or.inr trivial | apply And.intro))
 exact And.left (hQ _ _ _ rfl rfl (by cases h; subst hR; rfl))
end Gn
end Go.Proofs.YtagppjldegblhaaGreatDoor
namespace Go.Proofs.YtagppjldegblhaaGreatDoor
open Go Go.RowKit
open Ab Sh
namespace Gn
theorem strings_HasPrefix_w {p0 : ByteArray} {p1 : ByteArray} {r : Bool} (h : strings_HasPrefix_g p0 p1 = some r) : FunS Tryz.prog 82 [fS p0, fS p1] (strings_HasPrefix_s rw) r := by
 refine fun_w lay_ok Tryz.call82 Tryz.func82 rfl ?_
 intro A W E Q R hE hR hf hQ; rcases W with ⟨ar, cm, conj, cv, sl, sc, ct, sa, ss, ll, _, _, _, _, mi, mx, _, _, _⟩
 unfold strings_HasPrefix_g at h
 skip
 cbv
 refine L_call hE hR h (fun _ e => internal_stringslite_HasPrefix_w e) rfl rfl fun a1 h => ?_; cbv
 exact And.left (hQ _ _ _ rfl rfl (by cases h; subst hR; rfl))
theorem name_Cut_w {N : Nat} {p0 : ByteArray} {p1 : Int} {r : ByteArray × Int} (h : name_Cut_g N p0 p1 = some r) : FunS Tryz.prog 115 [fS p0, fI .i64 p1] (name_Cut_s rw) r := by
 refine fun_w lay_ok Tryz.call115 Tryz.func115 rfl ?_
 intro A W E Q R hE hR hf hQ; rcases W with ⟨ar, cm, conj, cv, sl, sc, ct, sa, ss, ll, _, _, _, _, mi, mx, _, _, _⟩
 unfold name_Cut_g at h
 rw [q_cm hE, q_sl hE] at h
 cbv
 refine L_rgJ hE lay_ok h 0 (fun j1 : Bool => [(16, fB j1)]) (fun j1 => []) (fun j1 h => ?_) (fun j1 h => ?_) <;> cbv
 · refine L_if hE h (fun h => ?_) (fun h => ?_) <;> cbv
   · cases h; (cbv; (try simp only [e_rnil hR]); repeat' (first | exact trivial | exact rfl | exact Or.inr trivial | apply And.intro))
   cases h; (cbv; (try simp only [e_rnil hR]); repeat' (first | exact trivial | exact rfl | exact Or.inr trivial | apply And.intro))
 refine L_if hE h (fun h => ?_) (fun h => ?_) <;> cbv
 · exact And.left (hQ _ _ _ rfl rfl (by cases h; subst hR; rfl))
 refine L_ssin hE h fun h => ?_
 refine L_for hE lay_ok 1 (fun g : Int × Nat => [(4, fS ByteArray.empty), (5, fI .i64 0)]) (fun g => [(0, .iter (ss p0 p1 (sl p0)) g.1)]) (fun g => name_Cut_l1 p0 p1 g.2 g.1 = some r) (fun g => g.2) (_, N) h ?_ ?_
 · (cbv; (try simp only [e_rnil hR]); repeat' (first | exact trivial | exact rfl | exact Or.inr trivial | apply And.intro))
 rintro ⟨v1, m1⟩ h Q1 hN1 hT1 hX1
 have h : name_Cut_l1 p0 p1 m1 v1 = some r := h
 cases m1 with
 | zero => exact nomatch (show (none : Option _) = some _ from h)
 | succ m1 =>
 rw [name_Cut_l1] at h
 rw [q_ar hE, q_cm hE, q_sl hE, q_ss hE] at h
 cbv
 refine L_nx hE h (fun q2 c3 h => ?_) (fun h => ?_) <;> cbv
 · refine L_t hE ?_; cbv
   refine L_rgJ hE lay_ok h 1 (fun j4 : Bool => [(37, fB j4)]) (fun j4 => []) (fun j4 h => ?_) (fun j4 h => ?_) <;> cbv
   · refine L_call hE hR h (fun _ e => name_letter_w e) rfl rfl fun a4 h => ?_; cbv
     refine L_if hE h (fun h => ?_) (fun h => ?_) <;> cbv
     · refine L_if hE h (fun h => ?_) (fun h => ?_) <;> cbv
       · cases h; (cbv; (try simp only [e_rnil hR]); repeat' (first | exact trivial | exact rfl | exact Or.inr trivial | apply And.intro))
       refine L_call hE hR h (fun _ e => name_digit_w e) rfl rfl fun a5 h => ?_; cbv
       cases h; (cbv; (try simp only [e_rnil hR]); repeat' (first | exact trivial | exact rfl | exact Or.inr trivial | apply And.intro))
     cases h; (cbv; (try simp only [e_rnil hR]); repeat' (first | exact trivial | exact rfl | exact Or.inr trivial | apply And.intro))
   refine L_if hE h (fun h => ?_) (fun h => ?_) <;> cbv
   · refine L_ssin hE h fun h => ?_
     refine hT1 _ ?_
     exact And.left (hQ _ _ _ rfl rfl (by cases h; subst hR; rfl))
   refine hN1 _ (_, m1) [] h (Nat.lt_succ_self _) trivial ?_; (cbv; (try simp only [e_rnil hR]); repeat' (first | exact trivial | exact rfl | exact Or.inr trivial | apply And.intro))
 refine L_f hE ?_; cbv
 refine hX1 _ _ ?_; cbv
 exact And.left (hQ _ _ _ rfl rfl (by cases h; subst hR; rfl))
theorem matcher_op_w {N : Nat} {p0 : ByteArray} {p1 : Int} {r : Int × GFault} (h : matcher_op_g N p0 p1 = some r) : FunS Tryz.prog 116 [fS p0, fI .i64 p1] (matcher_op_s rw) r := by
 refine fun_w lay_ok Tryz.call116 Tryz.func116 rfl ?_
 intro A W E Q R hE hR hf hQ; rcases W with ⟨ar, cm, conj, cv, sl, sc, ct, sa, ss, ll, _, _, _, _, mi, mx, _, _, _⟩
 unfold matcher_op_g at h
 rw [q_sl hE] at h
 cbv
 refine L_ssin hE h fun h => ?_
 refine L_for hE lay_ok 1 (fun g : Int × Nat => [(4, fI .i64 0), (13, fI .i64 g.1)]) (fun g => []) (fun g => matcher_op_l1 p0 p1 g.2 g.1 = some r) (fun g => g.2) (_, N) h ?_ ?_
 · (cbv; (try simp only [e_rnil hR]); repeat' (first | exact trivial | exact rfl | exact Or.inr trivial | apply And.intro))
 rintro ⟨v1, m1⟩ h Q1 hN1 hT1 hX1
 have h : matcher_op_l1 p0 p1 m1 v1 = some r := h
 cases m1 with
 | zero => exact nomatch (show (none : Option _) = some _ from h)
 | succ m1 =>
 rw [matcher_op_l1] at h
 rw [q_ar hE, q_cm hE, q_sl hE, q_sc hE, q_ss hE] at h
 cbv
 refine L_if hE h (fun h => ?_) (fun h => ?_) <;> cbv
 · refine L_cell hE (m := (fI .i64)) h rfl fun r2 h => ?_; cbv
   refine L_call hE hR h (fun _ e => matcher_sign_w e) rfl rfl fun a3 h => ?_; cbv
   refine L_call hE hR h (fun _ e => strings_HasPrefix_w e) rfl rfl fun a4 h => ?_; cbv
   refine L_if hE h (fun h => ?_) (fun h => ?_) <;> cbv
   · refine hT1 _ ?_
     exact And.left (hQ _ _ _ rfl rfl (by cases h; subst hR; rfl))
   refine hN1 _ (_, m1) [] h (Nat.lt_succ_self _) trivial ?_; (cbv; (try simp only [e_rnil hR]); repeat' (first | exact trivial | exact rfl | exact Or.inr trivial | apply And.intro))
 refine hX1 _ _ ?_; cbv
 refine L_if hE h (fun h => ?_) (fun h => ?_) <;> cbv
 · exact And.left (hQ _ _ _ rfl rfl (by cases h; subst hR; rfl))
 refine L_if hE h (fun h => ?_) (fun h => ?_) <;> cbv
 · exact And.left (hQ _ _ _ rfl rfl (by cases h; subst hR; rfl))
 exact And.left (hQ _ _ _ rfl rfl (by cases h; subst hR; rfl))
theorem quote_escape_w {N : Nat} {p0 : ByteArray} {r : Int × Int × Int} (h : quote_escape_g N p0 = some r) : FunS Tryz.prog 147 [fS p0] (quote_escape_s rw) r := by
 refine fun_w lay_ok Tryz.call147 Tryz.func147 rfl ?_
 intro A W E Q R hE hR hf hQ; rcases W with ⟨ar, cm, conj, cv, sl, sc, ct, sa, ss, ll, _, _, _, _, mi, mx, _, _, _⟩
 unfold quote_escape_g at h
 rw [q_cm hE, q_sl hE, q_sa hE] at h
 cbv
 refine L_if hE h (fun h => ?_) (fun h => ?_) <;> cbv
 · exact And.left (hQ _ _ _ rfl rfl (by cases h; subst hR; rfl))
 refine L_rgJ hE lay_ok h 0 (fun j1 : Bool => [(12, fB j1)]) (fun j1 => []) (fun j1 h => ?_) (fun j1 h => ?_) <;> cbv
 · refine L_sin hE h fun h => ?_
   refine L_if hE h (fun h => ?_) (fun h => ?_) <;> cbv
   · cases h; (cbv; (try simp only [e_rnil hR]); repeat' (first | exact trivial | exact rfl | exact Or.inr trivial | apply And.intro))
   refine L_sin hE h fun h => ?_
   cases h; (cbv; (try simp only [e_rnil hR]); repeat' (first | exact trivial | exact rfl | exact Or.inr trivial | apply And.intro))
 refine L_if hE h (fun h => ?_) (fun h => ?_) <;> cbv
 · refine L_sin hE h fun h => ?_
   exact And.left (hQ _ _ _ rfl rfl (by cases h; subst hR; rfl))
 refine L_sin hE h fun h => ?_
 refine L_if hE h (fun h => ?_) (fun h => ?_) <;> cbv
 · exact And.left (hQ _ _ _ rfl rfl (by cases h; subst hR; rfl))
 refine L_for hE lay_ok 0 (fun g : Int × Int × Nat => [(2, fI .u8 0), (3, fI .i64 0), (4, fI .i64 0), (5, fI .i64 g.1), (6, fI .i64 g.2.1)]) (fun g => []) (fun g => quote_escape_l1 p0 g.2.2 g.1 g.2.1 = some r) (fun g => g.2.2) (_, _, N) h ?_ ?_
 · (cbv; (try simp only [e_rnil hR]); repeat' (first | exact trivial | exact rfl | exact Or.inr trivial | apply And.intro))
 rintro ⟨v1, v2, m1⟩ h Q1 hN1 hT1 hX1
 have h : quote_escape_l1 p0 m1 v1 v2 = some r := h
 cases m1 with
 | zero => exact nomatch (show (none : Option _) = some _ from h)
 | succ m1 =>
 rw [quote_escape_l1] at h
 rw [q_ar hE, q_cm hE, q_cv hE, q_sl hE, q_sa hE] at h
 cbv
 refine L_if hE h (fun h => ?_) (fun h => ?_) <;> cbv
 · refine L_if hE h (fun h => ?_) (fun h => ?_) <;> cbv
   · refine hT1 _ ?_
     exact And.left (hQ _ _ _ rfl rfl (by cases h; subst hR; rfl))
   refine L_sin hE h fun h => ?_
   refine L_call hE hR h (fun _ e => strings_IndexByte_w e) rfl rfl fun a3 h => ?_; cbv
   refine L_if hE h (fun h => ?_) (fun h => ?_) <;> cbv
   · refine hT1 _ ?_
     exact And.left (hQ _ _ _ rfl rfl (by cases h; subst hR; rfl))
   refine hN1 _ (_, _, m1) [] h (Nat.lt_succ_self _) trivial ?_; (cbv; (try simp only [e_rnil hR]); repeat' (first | exact trivial | exact rfl | exact Or.inr trivial | apply And.intro))
 refine hX1 _ _ ?_; cbv
 exact And.left (hQ _ _ _ rfl rfl (by cases h; subst hR; rfl))
theorem quote_Read_w {N : Nat} {p0 : ByteArray} {p1 : Int} {r : ByteArray × Int × GFault} (h : quote_Read_g N p0 p1 = some r) : FunS Tryz.prog 117 [fS p0, fI .i64 p1] (quote_Read_s rw) r := by
 refine fun_w lay_ok Tryz.call117 Tryz.func117 rfl ?_
 intro A W E Q R hE hR hf hQ; rcases W with ⟨ar, cm, conj, cv, sl, sc, ct, sa, ss, ll, _, _, _, _, mi, mx, _, _, _⟩
 unfold quote_Read_g at h
 rw [q_ar hE, q_cm hE, q_sl hE, q_sa hE] at h
 cbv
 refine L_rgJ hE lay_ok h 1 (fun j1 : Bool => [(14, fB j1)]) (fun j1 => []) (fun j1 h => ?_) (fun j1 h => ?_) <;> cbv
 · refine L_if hE h (fun h => ?_) (fun h => ?_) <;> cbv
   · cases h; (cbv; (try simp only [e_rnil hR]); repeat' (first | exact trivial | exact rfl | exact Or.inr trivial | apply And.intro))
   cases h; (cbv; (try simp only [e_rnil hR]); repeat' (first | exact trivial | exact rfl | exact Or.inr trivial | apply And.intro))
 refine L_if hE h (fun h => ?_) (fun h => ?_) <;> cbv
 · exact And.left (hQ _ _ _ rfl rfl (by cases h; subst hR; rfl))
 refine L_if hE h (fun h => ?_) (fun h => ?_) <;> cbv
 · exact And.left (hQ _ _ _ rfl rfl (by cases h; subst hR; rfl))
 refine L_sin hE h fun h => ?_
 refine L_if hE h (fun h => ?_) (fun h => ?_) <;> cbv
 · exact And.left (hQ _ _ _ rfl rfl (by cases h; subst hR; rfl))
 refine L_for hE lay_ok 1 (fun g : Int × (List Int) × Nat => [(4, fS ByteArray.empty), (5, fI .i64 0), (7, .lst 1), (8, fI .i64 g.1)]) (fun g => [(1, .list 5 1 (R _ (cI .u8) g.2.1))]) (fun g => quote_Read_l1 N p0 g.2.2 g.1 g.2.1 = some r) (fun g => g.2.2) (_, _, N) h ?_ ?_
 · (cbv; (try simp only [e_rnil hR]); repeat' (first | exact trivial | exact rfl | exact Or.inr trivial | apply And.intro))
 rintro ⟨v1, v2, m1⟩ h Q1 hN1 hT1 hX1
 have h : quote_Read_l1 N p0 m1 v1 v2 = some r := h
 cases m1 with
 | zero => exact nomatch (show (none : Option _) = some _ from h)
 | succ m1 =>
 rw [quote_Read_l1] at h
 rw [q_ar hE, q_cm hE, q_sl hE, q_ss hE] at h
 cbv
 refine L_if hE h (fun h => ?_) (fun h => ?_) <;> cbv
 · refine L_ssin hE h fun h => ?_
   refine L_call hE hR h (fun _ e => utf8_Decode_w e) rfl rfl fun a3 h => ?_; cbv
   refine L_if hE h (fun h => ?_) (fun h => ?_) <;> cbv
   · refine L_bok hE hR h fun s4 e h => ?_; cbv at e; rw [e]; clear e
     refine hT1 _ ?_
     exact And.left (hQ _ _ _ rfl rfl (by cases h; subst hR; rfl))
   refine L_cd hE lay_ok ?_; cbv
   refine L_if hE h (fun h => ?_) (fun h => ?_) <;> cbv
   · refine L_ssin hE h fun h => ?_
     refine L_call hE hR h (fun _ e => quote_escape_w e) rfl rfl fun a5 h => ?_; cbv
     refine L_if hE h (fun h => ?_) (fun h => ?_) <;> cbv
     · refine hT1 _ ?_
       exact And.left (hQ _ _ _ rfl rfl (by cases h; subst hR; rfl))
     refine L_if hE h (fun h => ?_) (fun h => ?_) <;> cbv
     · refine hT1 _ ?_
       exact And.left (hQ _ _ _ rfl rfl (by cases h; subst hR; rfl))
     refine L_appL hE hR h rfl (hf _) (fun _ => rfl) (by decide) fun l6 e h => ?_; cbv at e; rw [e]; clear e
     refine hN1 _ (_, _, m1) [] h (Nat.lt_succ_self _) trivial ?_; (cbv; (try simp only [e_rnil hR]); repeat' (first | exact trivial | exact rfl | exact Or.inr trivial | apply And.intro))
   refine L_call hE hR h (fun _ e => quote_plain_w e) rfl rfl fun a7 h => ?_; cbv
   refine L_if hE h (fun h => ?_) (fun h => ?_) <;> cbv
   · refine hT1 _ ?_
     exact And.left (hQ _ _ _ rfl rfl (by cases h; subst hR; rfl))
   refine L_ssin hE h fun h => ?_
   refine L_appS hE hR h (hf _) (by decide) fun l8 e h => ?_; cbv at e; rw [e]; clear e
   refine hN1 _ (_, _, m1) [] h (Nat.lt_succ_self _) trivial ?_; (cbv; (try simp only [e_rnil hR]); repeat' (first | exact trivial | exact rfl | exact Or.inr trivial | apply And.intro))
 refine hX1 _ _ ?_; cbv
 exact And.left (hQ _ _ _ rfl rfl (by cases h; subst hR; rfl))
end Gn
end Go.Proofs.YtagppjldegblhaaGreatDoor
namespace Go.Proofs.YtagppjldegblhaaGreatDoor
open Go Go.RowKit
open Ab Sh
namespace Gn
theorem matcher_Take_w {N : Nat} {p0 : ByteArray} {p1 : Int} {r : GMatcher × Int × GFault} (h : matcher_Take_g N p0 p1 = some r) : FunS Tryz.prog 83 [fS p0, fI .i64 p1] (matcher_Take_s rw) r := by
 refine fun_w lay_ok Tryz.call83 Tryz.func83 rfl ?_
 intro A W E Q R hE hR hf hQ; rcases W with ⟨ar, cm, conj, cv, sl, sc, ct, sa, ss, ll, _, _, _, _, mi, mx, _, _, _⟩
 unfold matcher_Take_g at h
 rw [q_ar hE, q_cm hE, q_sl hE] at h
 cbv
 refine L_rgJ hE lay_ok h 3 (fun j1 : Bool => [(23, fB j1)]) (fun j1 => []) (fun j1 h => ?_) (fun j1 h => ?_) <;> cbv
 · refine L_if hE h (fun h => ?_) (fun h => ?_) <;> cbv
   · cases h; (cbv; (try simp only [e_rnil hR]); repeat' (first | exact trivial | exact rfl | exact Or.inr trivial | apply And.intro))
   cases h; (cbv; (try simp only [e_rnil hR]); repeat' (first | exact trivial | exact rfl | exact Or.inr trivial | apply And.intro))
 refine L_if hE h (fun h => ?_) (fun h => ?_) <;> cbv
 · exact And.left (hQ _ _ _ rfl rfl (by cases h; subst hR; rfl))
 refine L_if hE h (fun h => ?_) (fun h => ?_) <;> cbv
 · exact And.left (hQ _ _ _ rfl rfl (by cases h; subst hR; rfl))
 refine L_call hE hR h (fun _ e => name_Cut_w e) rfl rfl fun a1 h => ?_; cbv
 refine L_call hE hR h (fun _ e => name_Label_w e) rfl rfl fun a2 h => ?_; cbv
 refine L_if hE h (fun h => ?_) (fun h => ?_) <;> cbv
 · exact And.left (hQ _ _ _ rfl rfl (by cases h; subst hR; rfl))
 refine L_call hE hR h (fun _ e => matcher_op_w e) rfl rfl fun a3 h => ?_; cbv
 refine L_if hE h (fun h => ?_) (fun h => ?_) <;> cbv
 · refine L_ord hE lay_ok (by kernel_rfl) (.two 0 1 (.two 1 2 (.one 2 (.one 3 (.one 4 .done))) (.two 1 3 (.one 3 (.one 4 .done)) (.one 1 (.one 4 .done)))) (.one 0 (.one 2 (.one 3 (.one 4 .done))))) (by kernel_rfl) (by decide) ?_; cbv; repeat' apply And.intro
   all_goals (exact And.left (hQ _ _ _ rfl rfl (by cases h; subst hR; rfl)))
 refine L_call hE hR h (fun _ e => matcher_sign_w e) rfl rfl fun a4 h => ?_; cbv
 refine L_call hE hR h (fun _ e => quote_Read_w e) rfl rfl fun a5 h => ?_; cbv
 refine L_if hE h (fun h => ?_) (fun h => ?_) <;> cbv
 · refine L_ord hE lay_ok (by kernel_rfl) (.two 0 1 (.two 1 2 (.one 2 (.one 3 (.one 4 .done))) (.two 1 3 (.one 3 (.one 4 .done)) (.one 1 (.one 4 .done)))) (.one 0 (.one 2 (.one 3 (.one 4 .done))))) (by kernel_rfl) (by decide) ?_; cbv; repeat' apply And.intro
   all_goals (exact And.left (hQ _ _ _ rfl rfl (by cases h; subst hR; rfl)))
 refine L_call hE hR h (fun _ e => matcher_Right_w e) rfl rfl fun a6 h => ?_; cbv
 refine L_if hE h (fun h => ?_) (fun h => ?_) <;> cbv
 · exact And.left (hQ _ _ _ rfl rfl (by cases h; subst hR; rfl))
 exact And.left (hQ _ _ _ rfl rfl (by cases h; subst hR; rfl))
theorem selector_Take_w {N : Nat} {p0 : ByteArray} {p1 : Int} {r : (List GMatcher) × Int × GFault} (h : selector_Take_g N p0 p1 = some r) : FunS Tryz.prog 60 [fS p0, fI .i64 p1] (selector_Take_s rw) r := by
 refine fun_w lay_ok Tryz.call60 Tryz.func60 rfl ?_
 intro A W E Q R hE hR hf hQ; rcases W with ⟨ar, cm, conj, cv, sl, sc, ct, sa, ss, ll, _, _, _, _, mi, mx, _, _, _⟩
 unfold selector_Take_g at h
 rw [q_ar hE, q_cm hE, q_sl hE, q_ss hE] at h
 cbv
 refine L_rgJ hE lay_ok h 1 (fun j1 : Bool => [(12, fB j1)]) (fun j1 => []) (fun j1 h => ?_) (fun j1 h => ?_) <;> cbv
 · refine L_if hE h (fun h => ?_) (fun h => ?_) <;> cbv
   · cases h; (cbv; (try simp only [e_rnil hR]); repeat' (first | exact trivial | exact rfl | exact Or.inr trivial | apply And.intro))
   cases h; (cbv; (try simp only [e_rnil hR]); repeat' (first | exact trivial | exact rfl | exact Or.inr trivial | apply And.intro))
 refine L_if hE h (fun h => ?_) (fun h => ?_) <;> cbv
 · exact And.left (hQ _ _ _ rfl rfl (by cases h; subst hR; rfl))
 refine L_ssin hE h fun h => ?_
 refine L_call hE hR h (fun _ e => strings_HasPrefix_w e) rfl rfl fun a1 h => ?_; cbv
 refine L_if hE h (fun h => ?_) (fun h => ?_) <;> cbv
 · refine L_call hE hR h (fun _ e => selector_wrong_w e) rfl rfl fun a2 h => ?_; cbv
   exact And.left (hQ _ _ _ rfl rfl (by cases h; subst hR; rfl))
 refine L_ssin hE h fun h => ?_
 refine L_call hE hR h (fun _ e => strings_HasPrefix_w e) rfl rfl fun a3 h => ?_; cbv
 refine L_if hE h (fun h => ?_) (fun h => ?_) <;> cbv
 · exact And.left (hQ _ _ _ rfl rfl (by cases h; subst hR; rfl))
 refine L_for hE lay_ok 1 (fun g : Int × (List GMatcher) × Nat => [(4, vNil), (5, fI .i64 0), (7, .lst 1), (8, fI .i64 g.1)]) (fun g => [(1, .list 68 3 (R _ cMatcher g.2.1))]) (fun g => selector_Take_l1 N p0 g.2.2 g.1 g.2.1 = some r) (fun g => g.2.2) (_, _, N) h ?_ ?_
 · (cbv; (try simp only [e_rnil hR]); repeat' (first | exact trivial | exact rfl | exact Or.inr trivial | apply And.intro))
 rintro ⟨v4, v5, m1⟩ h Q1 hN1 hT1 hX1
 have h : selector_Take_l1 N p0 m1 v4 v5 = some r := h
 cases m1 with
 | zero => exact nomatch (show (none : Option _) = some _ from h)
 | succ m1 =>
 rw [selector_Take_l1] at h
 rw [q_ar hE, q_cm hE, q_sl hE, q_ss hE, q_ll hE, ← hR] at h
 cbv
 refine L_rgJ hE lay_ok h 2 (fun j3 : Bool => [(49, fB j3)]) (fun j3 => []) (fun j3 h => ?_) (fun j3 h => ?_) <;> cbv
 · refine L_if hE h (fun h => ?_) (fun h => ?_) <;> cbv
   · cases h; (cbv; (try simp only [e_rnil hR]); repeat' (first | exact trivial | exact rfl | exact Or.inr trivial | apply And.intro))
   cases h; (cbv; (try simp only [e_rnil hR]); repeat' (first | exact trivial | exact rfl | exact Or.inr trivial | apply And.intro))
 refine L_if hE h (fun h => ?_) (fun h => ?_) <;> cbv
 · refine hT1 _ ?_
   exact And.left (hQ _ _ _ rfl rfl (by cases h; subst hR; rfl))
 refine L_call hE hR h (fun _ e => matcher_Take_w e) rfl rfl fun a6 h => ?_; cbv
 refine L_if hE h (fun h => ?_) (fun h => ?_) <;> cbv
 · refine L_tail hE lay_ok (by kernel_rfl) 3 (by kernel_rfl) ?_; cbv
   refine hT1 _ ?_
   exact And.left (hQ _ _ _ rfl rfl (by cases h; subst hR; rfl))
 refine L_appL hE hR h rfl (hf _) (fun _ => rfl) (by decide) fun l7 e h => ?_; cbv at e; rw [e]; clear e
 refine L_ssin hE h fun h => ?_
 refine L_call hE hR h (fun _ e => strings_HasPrefix_w e) rfl rfl fun a8 h => ?_; cbv
 refine L_if hE h (fun h => ?_) (fun h => ?_) <;> cbv
 · refine hT1 _ ?_
   exact And.left (hQ _ _ _ rfl rfl (by cases h; subst hR; rfl))
 refine L_ssin hE h fun h => ?_
 refine L_call hE hR h (fun _ e => strings_HasPrefix_w e) rfl rfl fun a9 h => ?_; cbv
 refine L_if hE h (fun h => ?_) (fun h => ?_) <;> cbv
 · refine L_call hE hR h (fun _ e => selector_wrong_w e) rfl rfl fun a10 h => ?_; cbv
   refine hT1 _ ?_
   exact And.left (hQ _ _ _ rfl rfl (by cases h; subst hR; rfl))
 refine L_ssin hE h fun h => ?_
 refine L_call hE hR h (fun _ e => strings_HasPrefix_w e) rfl rfl fun a11 h => ?_; cbv
 refine L_if hE h (fun h => ?_) (fun h => ?_) <;> cbv
 · refine L_call hE hR h (fun _ e => selector_wrong_w e) rfl rfl fun a12 h => ?_; cbv
   refine hT1 _ ?_
   exact And.left (hQ _ _ _ rfl rfl (by cases h; subst hR; rfl))
 refine hN1 _ (_, _, m1) [] h (Nat.lt_succ_self _) trivial ?_; (cbv; (try simp only [e_rnil hR]); repeat' (first | exact trivial | exact rfl | exact Or.inr trivial | apply And.intro))
theorem selector_Parse_w {N : Nat} {p0 : ByteArray} {r : (List GMatcher) × GFault} (h : selector_Parse_g N p0 = some r) : FunS Tryz.prog 38 [fS p0] (selector_Parse_s rw) r := by
 refine fun_w lay_ok Tryz.call38 Tryz.func38 rfl ?_
 intro A W E Q R hE hR hf hQ; rcases W with ⟨ar, cm, conj, cv, sl, sc, ct, sa, ss, ll, _, _, _, _, mi, mx, _, _, _⟩
 unfold selector_Parse_g at h
 rw [q_cm hE, q_sl hE] at h
 cbv
 refine L_call hE hR h (fun _ e => selector_Take_w e) rfl rfl fun a1 h => ?_; cbv
 refine L_if hE h (fun h => ?_) (fun h => ?_) <;> cbv
 · refine L_tail hE lay_ok (by kernel_rfl) 2 (by kernel_rfl) ?_; cbv
   exact And.left (hQ _ _ _ rfl rfl (by cases h; subst hR; rfl))
 refine L_if hE h (fun h => ?_) (fun h => ?_) <;> cbv
 · refine L_call hE hR h (fun _ e => selector_wrong_w e) rfl rfl fun a2 h => ?_; cbv
   exact And.left (hQ _ _ _ rfl rfl (by cases h; subst hR; rfl))
 exact And.left (hQ _ _ _ rfl rfl (by cases h; subst hR; rfl))
theorem name_Words_w {N : Nat} {p0 : ByteArray} {r : (List ByteArray) × Bool} (h : name_Words_g N p0 = some r) : FunS Tryz.prog 39 [fS p0] (name_Words_s rw) r := by
 refine fun_w lay_ok Tryz.call39 Tryz.func39 rfl ?_
 intro A W E Q R hE hR hf hQ; rcases W with ⟨ar, cm, conj, cv, sl, sc, ct, sa, ss, ll, _, _, _, _, mi, mx, _, _, _⟩
 unfold name_Words_g at h
 skip
 cbv
 refine L_call hE hR h (fun _ e => strings_Split_w e) rfl rfl fun a1 h => ?_; cbv
 refine L_for hE lay_ok 0 (fun g : Int × Nat => [(2, vNil), (3, fB false), (11, fI .i64 g.1)]) (fun g => []) (fun g => name_Words_l1 N a1 g.2 g.1 = some r) (fun g => g.2) (_, N) h ?_ ?_
 · (cbv; (try simp only [e_rnil hR]); repeat' (first | exact trivial | exact rfl | exact Or.inr trivial | apply And.intro))
 rintro ⟨v2, m1⟩ h Q1 hN1 hT1 hX1
 have h : name_Words_l1 N a1 m1 v2 = some r := h
 cases m1 with
 | zero => exact nomatch (show (none : Option _) = some _ from h)
 | succ m1 =>
 rw [name_Words_l1] at h
 rw [q_ar hE, q_cm hE, q_ll hE, ← hR] at h
 cbv
 refine L_if hE h (fun h => ?_) (fun h => ?_) <;> cbv
 · refine L_row hE hR h fun r3 h => ?_; cbv
   refine L_call hE hR h (fun _ e => name_Word_w e) rfl rfl fun a4 h => ?_; cbv
   refine L_if hE h (fun h => ?_) (fun h => ?_) <;> cbv
   · refine hT1 _ ?_
     exact And.left (hQ _ _ _ rfl rfl (by cases h; subst hR; rfl))
   refine hN1 _ (_, m1) [] h (Nat.lt_succ_self _) trivial ?_; (cbv; (try simp only [e_rnil hR]); repeat' (first | exact trivial | exact rfl | exact Or.inr trivial | apply And.intro))
 refine hX1 _ _ ?_; cbv
 exact And.left (hQ _ _ _ rfl rfl (by cases h; subst hR; rfl))
theorem caveat_Parse_w {N : Nat} {p0 : ByteArray} {r : GCaveat × Bool} (h : caveat_Parse_g N p0 = some r) : FunS Tryz.prog 14 [fS p0] (caveat_Parse_s rw) r := by
 refine fun_w lay_ok Tryz.call14 Tryz.func14 rfl ?_
 intro A W E Q R hE hR hf hQ; rcases W with ⟨ar, cm, conj, cv, sl, sc, ct, sa, ss, ll, _, _, _, _, mi, mx, _, _, _⟩
 unfold caveat_Parse_g at h
 rw [q_cm hE, q_sl hE, q_sc hE, q_mx hE] at h
 cbv
 refine L_if hE h (fun h => ?_) (fun h => ?_) <;> cbv
 · exact And.left (hQ _ _ _ rfl rfl (by cases h; subst hR; rfl))
 refine L_call hE hR h (fun _ e => strings_Cut_w e) rfl rfl fun a1 h => ?_; cbv
 refine L_glb hE hR T_kinds_in T_kinds_len T_kinds_one T_kinds_rows ?_; cbv
 refine L_call hE hR h (fun _ e => slices_Index_S_w e) (by subst hR; rfl) rfl fun a2 h => ?_; cbv
 refine L_cdJ hE lay_ok h 2 (fun j1 : Bool => [(31, fB j1)]) (fun j1 => []) (fun j1 h => ?_) (fun j1 h => ?_) <;> cbv
 · refine L_if hE h (fun h => ?_) (fun h => ?_) <;> cbv
   · cases h; (cbv; (try simp only [e_rnil hR]); repeat' (first | exact trivial | exact rfl | exact Or.inr trivial | apply And.intro))
   cases h; (cbv; (try simp only [e_rnil hR]); repeat' (first | exact trivial | exact rfl | exact Or.inr trivial | apply And.intro))
 refine L_cd hE lay_ok ?_; cbv
 refine L_if hE h (fun h => ?_) (fun h => ?_) <;> cbv
 · refine L_call hE hR h (fun _ e => strconv_Atoi_w e) rfl rfl fun a3 h => ?_; cbv
   refine L_rgJ hE lay_ok h 2 (fun j2 : Bool => [(56, fB j2)]) (fun j2 => []) (fun j2 h => ?_) (fun j2 h => ?_) <;> cbv
   · refine L_call hE hR h (fun _ e => caveat_Right_w e) (by subst hR; rfl) rfl fun a4 h => ?_; cbv
     refine L_if hE h (fun h => ?_) (fun h => ?_) <;> cbv
     · cases h; (cbv; (try simp only [e_rnil hR]); repeat' (first | exact trivial | exact rfl | exact Or.inr trivial | apply And.intro))
     refine L_call hE hR h (fun _ e => caveat_Text_w e) (by subst hR; rfl) rfl fun a5 h => ?_; cbv
     cases h; (cbv; (try simp only [e_rnil hR]); repeat' (first | exact trivial | exact rfl | exact Or.inr trivial | apply And.intro))
   refine L_if hE h (fun h => ?_) (fun h => ?_) <;> cbv
   · exact And.left (hQ _ _ _ rfl rfl (by cases h; subst hR; rfl))
   exact And.left (hQ _ _ _ rfl rfl (by cases h; subst hR; rfl))
 refine L_cd hE lay_ok ?_; cbv
 refine L_if hE h (fun h => ?_) (fun h => ?_) <;> cbv
 · refine L_call hE hR h (fun _ e => selector_Parse_w e) rfl rfl fun a6 h => ?_; cbv
   refine L_rgJ hE lay_ok h 2 (fun j3 : Bool => [(56, fB j3)]) (fun j3 => []) (fun j3 h => ?_) (fun j3 h => ?_) <;> cbv
   · refine L_call hE hR h (fun _ e => caveat_Right_w e) (by subst hR; rfl) rfl fun a7 h => ?_; cbv
     refine L_if hE h (fun h => ?_) (fun h => ?_) <;> cbv
     · cases h; (cbv; (try simp only [e_rnil hR]); repeat' (first | exact trivial | exact rfl | exact Or.inr trivial | apply And.intro))
     refine L_call hE hR h (fun _ e => caveat_Text_w e) (by subst hR; rfl) rfl fun a8 h => ?_; cbv
     cases h; (cbv; (try simp only [e_rnil hR]); repeat' (first | exact trivial | exact rfl | exact Or.inr trivial | apply And.intro))
   refine L_if hE h (fun h => ?_) (fun h => ?_) <;> cbv
   · exact And.left (hQ _ _ _ rfl rfl (by cases h; subst hR; rfl))
   exact And.left (hQ _ _ _ rfl rfl (by cases h; subst hR; rfl))
 refine L_call hE hR h (fun _ e => name_Words_w e) rfl rfl fun a9 h => ?_; cbv
 refine L_rgJ hE lay_ok h 2 (fun j4 : Bool => [(56, fB j4)]) (fun j4 => []) (fun j4 h => ?_) (fun j4 h => ?_) <;> cbv
 · refine L_call hE hR h (fun _ e => caveat_Right_w e) (by subst hR; rfl) rfl fun a10 h => ?_; cbv
   refine L_if hE h (fun h => ?_) (fun h => ?_) <;> cbv
   · cases h; (cbv; (try simp only [e_rnil hR]); repeat' (first | exact trivial | exact rfl | exact Or.inr trivial | apply And.intro))
   refine L_call hE hR h (fun _ e => caveat_Text_w e) (by subst hR; rfl) rfl fun a11 h => ?_; cbv
   cases h; (cbv; (try simp only [e_rnil hR]); repeat' (first | exact trivial | exact rfl | exact Or.inr trivial | apply And.intro))
 refine L_if hE h (fun h => ?_) (fun h => ?_) <;> cbv
 · exact And.left (hQ _ _ _ rfl rfl (by cases h; subst hR; rfl))
 exact And.left (hQ _ _ _ rfl rfl (by cases h; subst hR; rfl))
end Gn
end Go.Proofs.YtagppjldegblhaaGreatDoor
namespace Go.Proofs.YtagppjldegblhaaGreatDoor
open Go Go.RowKit
open Ab Sh
namespace Gn
theorem l27_works_w {N : Nat} {r : Bool} (h : l27_works_g N = some r) : FunS Tryz.prog 7 [] (l27_works_s rw) r := by
 refine fun_w lay_ok Tryz.call7 Tryz.func7 rfl ?_
 intro A W E Q R hE hR hf hQ; rcases W with ⟨ar, cm, conj, cv, sl, sc, ct, sa, ss, ll, _, _, _, _, mi, mx, _, _, _⟩
 unfold l27_works_g at h
 rw [q_cm hE, q_sc hE, q_ll hE, ← hR] at h
 cbv
 refine L_call hE hR h (fun _ e => caveat_Parse_w e) rfl rfl fun a1 h => ?_; cbv
 refine L_call hE hR h (fun _ e => caveat_Parse_w e) rfl rfl fun a2 h => ?_; cbv
 refine L_call hE hR h (fun _ e => caveat_Parse_w e) rfl rfl fun a3 h => ?_; cbv
 refine L_call hE hR h (fun _ e => caveat_Parse_w e) rfl rfl fun a4 h => ?_; cbv
 refine L_rgJ hE lay_ok h 4 (fun j1 : Bool => [(0, fB j1)]) (fun j1 => []) (fun j1 h => ?_) (fun j1 h => ?_) <;> cbv
 · refine L_if hE h (fun h => ?_) (fun h => ?_) <;> cbv
   · refine L_call hE hR h (fun _ e => caveat_Allows_w e) (by subst hR; rfl) rfl fun a5 h => ?_; cbv
     refine L_if hE h (fun h => ?_) (fun h => ?_) <;> cbv
     · refine L_call hE hR h (fun _ e => caveat_Allows_w e) (by subst hR; rfl) rfl fun a6 h => ?_; cbv
       refine L_if hE h (fun h => ?_) (fun h => ?_) <;> cbv
       · refine L_if hE h (fun h => ?_) (fun h => ?_) <;> cbv
         · refine L_call hE hR h (fun _ e => caveat_Allows_w e) (by subst hR; rfl) rfl fun a7 h => ?_; cbv
           refine L_if hE h (fun h => ?_) (fun h => ?_) <;> cbv
           · refine L_call hE hR h (fun _ e => caveat_Allows_w e) (by subst hR; rfl) rfl fun a8 h => ?_; cbv
             refine L_if hE h (fun h => ?_) (fun h => ?_) <;> cbv
             · refine L_if hE h (fun h => ?_) (fun h => ?_) <;> cbv
               · refine L_if hE h (fun h => ?_) (fun h => ?_) <;> cbv
                 · refine L_if hE h (fun h => ?_) (fun h => ?_) <;> cbv
                   · refine L_call hE hR h (fun _ e => caveat_Text_w e) (by subst hR; rfl) rfl fun a9 h => ?_; cbv
                     cases h; (cbv; (try simp only [e_rnil hR]); repeat' (first | exact trivial | exact rfl | exact Or.inr trivial | apply And.intro))
                   cases h; (cbv; (try simp only [e_rnil hR]); repeat' (first | exact trivial | exact rfl | exact Or.inr trivial | apply And.intro))
                 cases h; (cbv; (try simp only [e_rnil hR]); repeat' (first | exact trivial | exact rfl | exact Or.inr trivial | apply And.intro))
               cases h; (cbv; (try simp only [e_rnil hR]); repeat' (first | exact trivial | exact rfl | exact Or.inr trivial | apply And.intro))
             cases h; (cbv; (try simp only [e_rnil hR]); repeat' (first | exact trivial | exact rfl | exact Or.inr trivial | apply And.intro))
           cases h; (cbv; (try simp only [e_rnil hR]); repeat' (first | exact trivial | exact rfl | exact Or.inr trivial | apply And.intro))
         cases h; (cbv; (try simp only [e_rnil hR]); repeat' (first | exact trivial | exact rfl | exact Or.inr trivial | apply And.intro))
       cases h; (cbv; (try simp only [e_rnil hR]); repeat' (first | exact trivial | exact rfl | exact Or.inr trivial | apply And.intro))
     cases h; (cbv; (try simp only [e_rnil hR]); repeat' (first | exact trivial | exact rfl | exact Or.inr trivial | apply And.intro))
   cases h; (cbv; (try simp only [e_rnil hR]); repeat' (first | exact trivial | exact rfl | exact Or.inr trivial | apply And.intro))
 exact And.left (hQ _ _ _ rfl rfl (by cases h; subst hR; rfl))
end Gn
end Go.Proofs.YtagppjldegblhaaGreatDoor
namespace Go.Proofs.YtagppjldegblhaaGreatDoor
open Go Go.RowKit Go.ChangeShapes Go.WideShapes
def Fits (A : Option Addr) (n cap : Nat) : Prop := n ≤ cap ∧ (A = none → cap = 0)
theorem Fits.none_ : Fits none 0 0 := ⟨Nat.le_refl _, fun _ => rfl⟩
end Go.Proofs.YtagppjldegblhaaGreatDoor
namespace Go.Proofs.YtagppjldegblhaaGreatDoor
open Go Go.RowKit Go.ChangeShapes Go.WideShapes
open Ab
namespace Op2
def CRep (G : Nat → Prop) (w : World) (ts : List T) (cs : List Value) : Prop := cs.length = ts.length ∧ ∀ (j : Nat) t u, ts[j]? = some t → cs[j]? = some u → TRep G w t u
theorem crep_cons {G : Nat → Prop} {w : World} {t : T} {u : Value} {ts : List T} {cs : List Value} (h : TRep G w t u) (hr : CRep G w ts cs) : CRep G w (t :: ts) (u :: cs) := by
 refine ⟨by simp [hr.1], fun j a b h1 h2 => ?_⟩
 cases j with
 | zero => simp at h1 h2; subst h1; subst h2; exact h
 | succ j => exact hr.2 j a b (by simpa using h1) (by simpa using h2)
theorem crep_app {G : Nat → Prop} {w : World} : ∀ {ts us : List T} {cs ds : List Value}, CRep G w ts cs → CRep G w us ds → CRep G w (ts ++ us) (cs ++ ds)
 | [], us, [], ds, _, h => h
 | [], us, c :: cs, ds, h, _ => by have := h.1; simp at this
 | t :: ts, us, [], ds, h, _ => by have := h.1; simp at this
 | t :: ts, us, c :: cs, ds, h, g => crep_cons (h.2 0 t c rfl rfl) (crep_app ⟨by have := h.1; simpa using this, fun j a b h1 h2 => h.2 (j + 1) a b (by simpa using h1) (by simpa using h2)⟩ g)
section
variable {H : Type} {enc : TypeId × Value → H} {P : Program} {W : World} {sp : Nat → Bool} {held : Bool} {fuel : Nat} {x : DataW H × List MemPlace}
theorem fld {fs : Array Field} {n : Nat} {cs : List Value} {xs : List (DataW H × List MemPlace)} (hl : xs.length = fs.size)
 (hf : ∀ (i : Nat) (f : Field), fs[i]? = some f → DataW.trod enc P W 0 sp held n f.type ((cs.drop f.offset).take (P.cellsOf f.type)) = xs[i]?) (i : Nat) (f : Field) (h : fs[i]? = some f) :
 ∃ y, DataW.trod enc P W 0 sp held n f.type ((cs.drop f.offset).take (P.cellsOf f.type)) = some y := by
 have := hf i f h
 obtain ⟨hi, -⟩ := Array.getElem?_eq_some_iff.1 h
 rw [List.getElem?_eq_getElem (by omega)] at this
 exact ⟨_, this⟩
theorem part {G : Nat → Prop} {cs : List Value} {o s : Nat} {ts us : List T} (h : CRep G W ts ((cs.drop o).take s)) (hr : CRep G W us (cs.drop (o + s))) : CRep G W (ts ++ us) (cs.drop o) := by
 have e : cs.drop o = (cs.drop o).take s ++ cs.drop (o + s) := by rw [← List.drop_drop, List.take_append_drop]
 rw [e]
 exact crep_app h hr
end
theorem vr_nil {cx : Cx} {w : World} : VReps cx w [] ⟨[]⟩ := ⟨rfl, fun i c u h => by simp at h⟩
theorem vr_cons {cx : Cx} {w : World} {a : V} {av : List V} {y : Value} {ys : List Value} (h : VRep cx w a y) (hr : VReps cx w av ⟨ys⟩) : VReps cx w (a :: av) ⟨y :: ys⟩ :=
 ⟨by have := hr.1; simp at this ⊢; exact this, fun i c u h1 h2 => by
  cases i with
  | zero => simp at h1 h2; subst h1; subst h2; exact h
  | succ i => exact hr.2 i c u (by simpa using h1) (by simpa using h2)⟩
end Op2
end Go.Proofs.YtagppjldegblhaaGreatDoor
