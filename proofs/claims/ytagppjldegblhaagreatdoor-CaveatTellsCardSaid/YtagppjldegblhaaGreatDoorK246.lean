/- Texts that the proof leans on. -/
import Derived.Test.YtagppjldegblhaaGreatDoorK241
import Derived.Test.YtagppjldegblhaaGreatDoorK243
set_option linter.unusedVariables false
set_option linter.unusedSimpArgs false
set_option maxRecDepth 100000
set_option maxHeartbeats 4000000
namespace Go.Proofs.YtagppjldegblhaaGreatDoor
open Go Go.RowKit
open Ab Sh
namespace Gn
def cFacts (x : GFacts) : List Ab.T := [.flat (.string x.Tenant), .flat (.string x.Endpoint), .flat (.string x.Class), .flat (.int .i64 x.Do), .flat (.int .i64 x.Now)]
end Gn
end Go.Proofs.YtagppjldegblhaaGreatDoor
namespace Go.Proofs.YtagppjldegblhaaGreatDoor
open Go Go.RowKit
open Ab Sh
namespace Gn
def r27_in_s (R : RF) (r : Bool) : V := fB r
def r27_in_l1 (p0 : List ByteArray) (p1 : ByteArray) : Nat → Int → Option Bool
| 0, _ => none
| m + 1, v1 =>
 cond (cm .lss v1 (ll (rw _ cS p0)))
 ((at_ p0 v1).bind fun r2 =>
 cond (sc .eql r2 p1)
 (some true)
 ((r27_in_l1 p0 p1 m) (ar .add .i64 v1 1)))
 (some false)
def r27_in_g (N : Nat) (p0 : List ByteArray) (p1 : ByteArray) : Option Bool :=
 r27_in_l1 p0 p1 N 0
def r27_Allows_s (R : RF) (r : Bool) : V := fB r
def r27_Allows_g (N : Nat) (p0 : GCaveat) (p1 : GFacts) : Option Bool :=
 (r27_Right_g N p0).bind fun a1 =>
 cond (!a1)
 (some false)
 (cond (cm .eql p0.Kind 1)
 ((at_ p0.Words 0).bind fun r2 =>
 some (sc .eql r2 p1.Tenant))
 (cond (cm .eql p0.Kind 2)
 ((r27_in_g N p0.Words p1.Endpoint).bind fun a3 =>
 some a3)
 (cond (cm .eql p0.Kind 3)
 ((r27_in_g N p0.Words p1.Class).bind fun a4 =>
 some a4)
 (cond (cm .eql p0.Kind 4)
 ((cond (cm .eql p1.Do 1)
 ((r27_in_g N p0.Words (ByteArray.mk #[113, 117, 101, 114, 121])).bind fun a5 =>
 cond (a5)
 (some true)
 (cond (cm .eql p1.Do 2)
 ((r27_in_g N p0.Words (ByteArray.mk #[119, 114, 105, 116, 101])).bind fun a6 =>
 some a6)
 (some false)))
 (cond (cm .eql p1.Do 2)
 ((r27_in_g N p0.Words (ByteArray.mk #[119, 114, 105, 116, 101])).bind fun a7 =>
 some a7)
 (some false)) : Option Bool).bind fun j1 =>
 some j1)
 (cond (cm .eql p0.Kind 5)
 (some (cm .lss p1.Now p0.Num))
 (cond (cm .eql p0.Kind 6)
 (some (cm .geq p1.Now p0.Num))
 (some true)))))))
def l27_CaveatTells_s (R : RF) (r : Bool) : V := fB r
def l27_CaveatTells_g (N : Nat) (p0 : GCaveat) (p1 : GFacts) : Option Bool :=
 (r27_Great_g N p0).bind fun a1 =>
 cond (a1)
 ((l27_works_g N).bind fun a2 =>
 some a2)
 ((caveat_Right_g N p0).bind fun a3 =>
 (r27_Right_g N p0).bind fun a4 =>
 cond (conj [a3 == a4])
 (cond (conj [a3 == a4])
 ((caveat_Text_g N p0).bind fun a5 =>
 cond (conj [a3 == a4])
 (cond (conj [a3 == a4])
 ((r27_Text_g N p0).bind fun a6 =>
 cond (conj [a3 == a4])
 (cond (conj [a3 == a4])
 (cond (sc .eql a5 a6)
 (cond (sc .eql a5 a6)
 (cond (sc .eql a5 a6)
 ((caveat_Allows_g N p0 p1).bind fun a7 =>
 cond (sc .eql a5 a6)
 (cond (sc .eql a5 a6)
 (cond (sc .eql a5 a6)
 ((r27_Allows_g N p0 p1).bind fun a8 =>
 cond (sc .eql a5 a6)
 (cond (sc .eql a5 a6)
 (cond (conj [a7 == a8])
 ((l27_works_g N).bind fun a9 =>
 cond (conj [a7 == a8])
 (some a9)
 (none))
 (cond (conj [a7 == a8])
 (none)
 (some false)))
 (none))
 (none))
 (none))
 (none))
 (none))
 (none))
 (none))
 (cond (sc .eql a5 a6)
 (none)
 (cond (sc .eql a5 a6)
 (none)
 (cond (sc .eql a5 a6)
 (none)
 (cond (sc .eql a5 a6)
 (none)
 (cond (sc .eql a5 a6)
 (none)
 (cond (sc .eql a5 a6)
 (none)
 (cond (sc .eql a5 a6)
 (none)
 (some false)))))))))
 (none))
 (none))
 (none))
 (none))
 (none))
 (cond (conj [a3 == a4])
 (none)
 (cond (conj [a3 == a4])
 (none)
 (cond (conj [a3 == a4])
 (none)
 (cond (conj [a3 == a4])
 (none)
 (cond (conj [a3 == a4])
 (none)
 (some false)))))))
end Gn
end Go.Proofs.YtagppjldegblhaaGreatDoor
namespace Go.Proofs.YtagppjldegblhaaGreatDoor
open Go Go.RowKit
open Sh Gn
namespace Pl
theorem rin_from (l : List ByteArray) (w : ByteArray) (hl : l.length ≤ 100000) : ∀ (m k : Nat), k ≤ l.length → l.length < k + m → r27_in_l1 l w m k = some (decide (w ∈ l.drop k)) := by
 intro m
 induction m with
 | zero => intro k h1 h2; omega
 | succ m ih =>
   intro k h1 h2
   rw [r27_in_l1, cm_lss, cond_dec, ll_eq]
   by_cases c : k < l.length
   · rw [if_pos (by omega), at_get c, Option.bind_some, sc_eql, cond_dec, inc1 (by omega), List.drop_eq_getElem_cons c]
     by_cases g : l[k] = w
     · rw [if_pos g, decide_eq_true (by rw [g]; exact List.mem_cons_self)]
     · rw [if_neg g, ih (k + 1) (by omega) (by omega)]
       congr 1
       exact decide_eq_decide.2 (by rw [List.mem_cons]; exact ⟨.inr, fun h => h.resolve_left (Ne.symm g)⟩)
   · rw [if_neg (by omega), List.drop_of_length_le (by omega)]
     simp
theorem rin_p {N : Nat} (hN : 100000 < N) (l : List ByteArray) (hl : l.length ≤ 100000) (w : ByteArray) : r27_in_g N l w = some (decide (w ∈ l)) := by
 have := rin_from l w hl N 0 (by omega) (by omega)
 exact this
end Pl
end Go.Proofs.YtagppjldegblhaaGreatDoor
namespace Go.Proofs.YtagppjldegblhaaGreatDoor
open Go Go.RowKit
open Sh Gn
namespace Pl
section
variable {N : Nat} {c : GCaveat}
theorem right4 (hk : c.Kind = 4) (h : Cv.right c = true) : ∀ w ∈ c.Words, good w = true := by
 unfold Cv.right at h
 rw [if_neg (by omega), if_neg (by omega), if_pos hk] at h
 simp only [Bool.and_eq_true] at h
 exact List.all_eq_true.1 h.2.2
theorem alw_from (f : GFacts) (hl : c.Words.length ≤ 100000) : ∀ (m k : Nat), k ≤ c.Words.length → c.Words.length < k + m → caveat_Allows_l3 c f m k = some ((c.Words.drop k).any fun w => decide (Cv.doW w = f.Do)) := by
 intro m
 induction m with
 | zero => intro k h1 h2; omega
 | succ m ih =>
   intro k h1 h2
   rw [caveat_Allows_l3]
   simp only [cm_lss, cm_eql, cm_geq, cond_dec, ll_eq]
   by_cases d : k < c.Words.length
   · rw [if_pos (by omega), at_get d, Option.bind_some, do_p, Option.bind_some, inc1 (by omega), List.drop_eq_getElem_cons d, List.any_cons]
     by_cases g : Cv.doW c.Words[k] = f.Do
     · rw [if_pos g, decide_eq_true g, decide_eq_true (by omega : (0 : Int) ≤ (k : Int))]; rfl
     · rw [if_neg g, ih (k + 1) (by omega) (by omega), decide_eq_false g, Bool.false_or]
   · rw [if_neg (by omega), List.drop_of_length_le (by omega)]; rfl
theorem allows_p (hN : 100000 < N) (h : Mid N c) (f : GFacts) : ∃ b, caveat_Allows_g N c f = some b ∧ r27_Allows_g N c f = some b := by
 have hw := h.words
 have hr := cright_p hN h
 have hr2 := rcright_p hN h
 unfold caveat_Allows_g r27_Allows_g
 rw [hr, hr2, Option.bind_some, Option.bind_some]
 cases r : Cv.right c with
 | false => exact ⟨false, rfl, rfl⟩
 | true =>
   rw [Bool.not_true, cond_false, cond_false]
   have ha := alw_from (c := c) f (by omega) N 0 (by omega) (by omega)
   have ha : caveat_Allows_l3 c f N 0 = some (c.Words.any fun w => decide (Cv.doW w = f.Do)) := by rw [List.drop_zero] at ha; exact ha
   have hg := right4 (c := c)
   simp only [contains_p hN c.Words (by omega), rin_p hN c.Words (by omega), ha, Option.bind_some]
   obtain ⟨K, Num, Ws, Sel⟩ := c
   dsimp only at *
   rcases Cv.right_cases r with ⟨hk, h1, h2, h3, h4, h5, h6⟩ | ⟨hk, h1, h2, h3, h4⟩ | ⟨hk, h1, h2, h3, h4⟩
   · dsimp only at *
     rcases hk with rfl | rfl | rfl | rfl
     · match Ws, h3 with
       | w :: ws, _ => exact ⟨_, rfl, rfl⟩
     · exact ⟨_, rfl, rfl⟩
     · exact ⟨_, rfl, rfl⟩
     · refine ⟨_, rfl, ?_⟩
       have hg := hg rfl r
       simp only [cm_eql, cond_dec, Int.reduceEq, if_false, if_true]
       have key : (Ws.any fun w => decide (Cv.doW w = f.Do)) = (decide (f.Do = 1 ∧ ByteArray.mk #[113, 117, 101, 114, 121] ∈ Ws) || decide (f.Do = 2 ∧ ByteArray.mk #[119, 114, 105, 116, 101] ∈ Ws)) := by
        rw [Bool.eq_iff_iff]
        simp only [List.any_eq_true, Bool.or_eq_true, decide_eq_true_eq]
        constructor
        · rintro ⟨w, hw, e⟩
          rcases (good_iff w).1 (hg w hw) with rfl | rfl
          · exact .inl ⟨e.symm, hw⟩
          · exact .inr ⟨e.symm, hw⟩
        · rintro (⟨e, hw⟩ | ⟨e, hw⟩)
          · exact ⟨_, hw, by rw [e]; rfl⟩
          · exact ⟨_, hw, by rw [e]; rfl⟩
       rw [key]
       by_cases d1 : f.Do = 1
       · by_cases m1 : ByteArray.mk #[113, 117, 101, 114, 121] ∈ Ws <;> simp [d1, m1]
       · by_cases d2 : f.Do = 2
         · by_cases m2 : ByteArray.mk #[119, 114, 105, 116, 101] ∈ Ws <;> simp [d1, d2, m2]
         · simp [d1, d2]
   · dsimp only at *
     rcases hk with rfl | rfl
     · exact ⟨_, rfl, rfl⟩
     · exact ⟨_, rfl, rfl⟩
   · dsimp only at *
     subst hk
     exact ⟨_, rfl, rfl⟩
end
end Pl
end Go.Proofs.YtagppjldegblhaaGreatDoor
namespace Go.Proofs.YtagppjldegblhaaGreatDoor
open Go Go.RowKit
open Sh Gn
namespace Pl
section
variable {N : Nat} (hN : 200000 ≤ N) (hT : ∀ g : GMatcher, g.Value.size ≤ 1200 → g.Name.size ≤ 100 → matcher_Text_g N g = some (Mt.ofL (Mt.text (toM g))) ∧ r22_Text_g N g = some (Mt.ofL (Mt.text (toM g))) ∧ (Mt.text (toM g)).length ≤ 6000)
include hN hT
theorem tells_g (hW : l27_works_g N = some true) (c : GCaveat) (f : GFacts) : l27_CaveatTells_g N c f = some true := by
 unfold l27_CaveatTells_g
 obtain ⟨b, h1, h2⟩ := cgreat_p hN hT c
 rw [h1, hW, Option.bind_some]
 cases b with
 | true => rfl
 | false =>
   have h := h2 rfl
   obtain ⟨v, a1, a2⟩ := allows_p (by omega) h f
   have b2 : ∀ b : Bool, conj [b == b] = true := fun b => by cases b <;> rfl
   rw [cright_p (by omega) h, rcright_p (by omega) h, ctext_p (by omega) h, rctext_p (by omega) h, a1, a2]
   simp only [Option.bind_some, cond_false, b2, seql_self, _root_.cond_true]
end
theorem tells_p (c : GCaveat) (f : GFacts) : l27_CaveatTells_g 200000 c f = some true := tells_g (Nat.le_refl _) (fun g h1 h2 => mtext_p g h1 h2) cworks_p c f
end Pl
end Go.Proofs.YtagppjldegblhaaGreatDoor
namespace Go.Proofs.YtagppjldegblhaaGreatDoor
open Go Go.RowKit
open Ab Sh
namespace Gn
theorem r27_in_w {N : Nat} {p0 : List ByteArray} {p1 : ByteArray} {r : Bool} (h : r27_in_g N p0 p1 = some r) : FunS Tryz.prog 34 [.t (.slc (rw _ cS p0)), fS p1] (r27_in_s rw) r := by
 refine fun_w lay_ok Tryz.call34 Tryz.func34 rfl ?_
 intro A W E Q R hE hR hf hQ; rcases W with ⟨ar, cm, conj, cv, sl, sc, ct, sa, ss, ll, _, _, _, _, mi, mx, _, _, _⟩
 rw [← hR]
 unfold r27_in_g at h
 skip
 cbv
 refine L_for hE lay_ok 0 (fun g : Int × Nat => [(4, fB false), (5, fI .i64 g.1)]) (fun g => []) (fun g => r27_in_l1 p0 p1 g.2 g.1 = some r) (fun g => g.2) (_, N) h ?_ ?_
 · (cbv; (try simp only [e_rnil hR]); repeat' (first | exact trivial | exact rfl | exact Or.inr trivial | apply And.intro))
 rintro ⟨v1, m1⟩ h Q1 hN1 hT1 hX1
 have h : r27_in_l1 p0 p1 m1 v1 = some r := h
 cases m1 with
 | zero => exact nomatch (show (none : Option _) = some _ from h)
 | succ m1 =>
 rw [r27_in_l1] at h
 rw [q_ar hE, q_cm hE, q_sc hE, q_ll hE, ← hR] at h
 cbv
 refine L_if hE h (fun h => ?_) (fun h => ?_) <;> cbv
 · refine L_row hE hR h fun r2 h => ?_; cbv
   refine L_if hE h (fun h => ?_) (fun h => ?_) <;> cbv
   · refine hT1 _ ?_
     exact And.left (hQ _ _ _ rfl rfl (by cases h; subst hR; rfl))
   refine hN1 _ (_, m1) [] h (Nat.lt_succ_self _) trivial ?_; (cbv; (try simp only [e_rnil hR]); repeat' (first | exact trivial | exact rfl | exact Or.inr trivial | apply And.intro))
 refine hX1 _ _ ?_; cbv
 exact And.left (hQ _ _ _ rfl rfl (by cases h; subst hR; rfl))
theorem r27_Allows_w {N : Nat} {p0 : GCaveat} {p1 : GFacts} {r : Bool} (h : r27_Allows_g N p0 p1 = some r) : FunS Tryz.prog 13 [.agg [fI .i64 p0.Kind, fI .i64 p0.Num, .t (.slc (rw _ cS p0.Words)), .t (.slc (rw _ cMatcher p0.Sel))], .agg [fS p1.Tenant, fS p1.Endpoint, fS p1.Class, fI .i64 p1.Do, fI .i64 p1.Now]] (r27_Allows_s rw) r := by
 refine fun_w lay_ok Tryz.call13 Tryz.func13 rfl ?_
 intro A W E Q R hE hR hf hQ; rcases W with ⟨ar, cm, conj, cv, sl, sc, ct, sa, ss, ll, _, _, _, _, mi, mx, _, _, _⟩
 rw [← hR]
 unfold r27_Allows_g at h
 rw [q_cm hE, q_sc hE] at h
 cbv
 refine L_call hE hR h (fun _ e => r27_Right_w e) (by subst hR; rfl) rfl fun a1 h => ?_; cbv
 refine L_if hE h (fun h => ?_) (fun h => ?_) <;> cbv
 · exact And.left (hQ _ _ _ rfl rfl (by cases h; subst hR; rfl))
 refine L_if hE h (fun h => ?_) (fun h => ?_) <;> cbv
 · refine L_whole hE lay_ok (by kernel_rfl) (by kernel_rfl) ?_; cbv
   refine L_row hE hR h fun r2 h => ?_; cbv
   exact And.left (hQ _ _ _ rfl rfl (by cases h; subst hR; rfl))
 refine L_if hE h (fun h => ?_) (fun h => ?_) <;> cbv
 · refine L_call hE hR h (fun _ e => r27_in_w e) (by subst hR; rfl) rfl fun a3 h => ?_; cbv
   exact And.left (hQ _ _ _ rfl rfl (by cases h; subst hR; rfl))
 refine L_if hE h (fun h => ?_) (fun h => ?_) <;> cbv
 · refine L_call hE hR h (fun _ e => r27_in_w e) (by subst hR; rfl) rfl fun a4 h => ?_; cbv
   exact And.left (hQ _ _ _ rfl rfl (by cases h; subst hR; rfl))
 refine L_if hE h (fun h => ?_) (fun h => ?_) <;> cbv
 · refine L_rgJ hE lay_ok h 2 (fun j1 : Bool => [(4, fB j1)]) (fun j1 => []) (fun j1 h => ?_) (fun j1 h => ?_) <;> cbv
   · refine L_if hE h (fun h => ?_) (fun h => ?_) <;> cbv
     · refine L_call hE hR h (fun _ e => r27_in_w e) (by subst hR; rfl) rfl fun a5 h => ?_; cbv
       refine L_if hE h (fun h => ?_) (fun h => ?_) <;> cbv
       · cases h; (cbv; (try simp only [e_rnil hR]); repeat' (first | exact trivial | exact rfl | exact Or.inr trivial | apply And.intro))
       refine L_if hE h (fun h => ?_) (fun h => ?_) <;> cbv
       · refine L_call hE hR h (fun _ e => r27_in_w e) (by subst hR; rfl) rfl fun a6 h => ?_; cbv
         cases h; (cbv; (try simp only [e_rnil hR]); repeat' (first | exact trivial | exact rfl | exact Or.inr trivial | apply And.intro))
       cases h; (cbv; (try simp only [e_rnil hR]); repeat' (first | exact trivial | exact rfl | exact Or.inr trivial | apply And.intro))
     refine L_if hE h (fun h => ?_) (fun h => ?_) <;> cbv
     · refine L_call hE hR h (fun _ e => r27_in_w e) (by subst hR; rfl) rfl fun a7 h => ?_; cbv
       cases h; (cbv; (try simp only [e_rnil hR]); repeat' (first | exact trivial | exact rfl | exact Or.inr trivial | apply And.intro))
     cases h; (cbv; (try simp only [e_rnil hR]); repeat' (first | exact trivial | exact rfl | exact Or.inr trivial | apply And.intro))
   exact And.left (hQ _ _ _ rfl rfl (by cases h; subst hR; rfl))
 refine L_if hE h (fun h => ?_) (fun h => ?_) <;> cbv
 · exact And.left (hQ _ _ _ rfl rfl (by cases h; subst hR; rfl))
 refine L_if hE h (fun h => ?_) (fun h => ?_) <;> cbv
 · exact And.left (hQ _ _ _ rfl rfl (by cases h; subst hR; rfl))
 exact And.left (hQ _ _ _ rfl rfl (by cases h; subst hR; rfl))
theorem l27_CaveatTells_w {N : Nat} {p0 : GCaveat} {p1 : GFacts} {r : Bool} (h : l27_CaveatTells_g N p0 p1 = some r) : FunS Tryz.prog 3 [.agg [fI .i64 p0.Kind, fI .i64 p0.Num, .t (.slc (rw _ cS p0.Words)), .t (.slc (rw _ cMatcher p0.Sel))], .agg [fS p1.Tenant, fS p1.Endpoint, fS p1.Class, fI .i64 p1.Do, fI .i64 p1.Now]] (l27_CaveatTells_s rw) r := by
 refine fun_w lay_ok Tryz.call3 Tryz.func3 rfl ?_
 intro A W E Q R hE hR hf hQ; rcases W with ⟨ar, cm, conj, cv, sl, sc, ct, sa, ss, ll, _, _, _, _, mi, mx, _, _, _⟩
 rw [← hR]
 unfold l27_CaveatTells_g at h
 rw [q_conj hE, q_sc hE] at h
 cbv
 refine L_call hE hR h (fun _ e => r27_Great_w e) (by subst hR; rfl) rfl fun a1 h => ?_; cbv
 refine L_if hE h (fun h => ?_) (fun h => ?_) <;> cbv
 · refine L_call hE hR h (fun _ e => l27_works_w e) rfl rfl fun a2 h => ?_; cbv
   exact And.left (hQ _ _ _ rfl rfl (by cases h; subst hR; rfl))
 refine L_whole hE lay_ok (by kernel_rfl) (by kernel_rfl) ?_; cbv
 refine L_pcall hE hR h (fun _ e => caveat_Right_w e) (by subst hR; rfl) rfl fun a3 h => ?_; cbv
 refine L_pcall hE hR h (fun _ e => r27_Right_w e) (by subst hR; rfl) rfl fun a4 h => ?_; cbv
 refine L_if hE h (fun h => ?_) (fun h => ?_) <;> cbv
 · refine L_if hE h (fun h => ?_) (fun h => ?_) <;> cbv
   · refine L_pcall hE hR h (fun _ e => caveat_Text_w e) (by subst hR; rfl) rfl fun a5 h => ?_; cbv
     refine L_if hE h (fun h => ?_) (fun h => ?_) <;> cbv
     · refine L_if hE h (fun h => ?_) (fun h => ?_) <;> cbv
       · refine L_pcall hE hR h (fun _ e => r27_Text_w e) (by subst hR; rfl) rfl fun a6 h => ?_; cbv
         refine L_if hE h (fun h => ?_) (fun h => ?_) <;> cbv
         · refine L_if hE h (fun h => ?_) (fun h => ?_) <;> cbv
           · refine L_if hE h (fun h => ?_) (fun h => ?_) <;> cbv
             · refine L_if hE h (fun h => ?_) (fun h => ?_) <;> cbv
               · refine L_if hE h (fun h => ?_) (fun h => ?_) <;> cbv
                 · refine L_pcall hE hR h (fun _ e => caveat_Allows_w e) (by subst hR; rfl) rfl fun a7 h => ?_; cbv
                   refine L_if hE h (fun h => ?_) (fun h => ?_) <;> cbv
                   · refine L_if hE h (fun h => ?_) (fun h => ?_) <;> cbv
                     · refine L_if hE h (fun h => ?_) (fun h => ?_) <;> cbv
                       · refine L_pcall hE hR h (fun _ e => r27_Allows_w e) (by subst hR; rfl) rfl fun a8 h => ?_; cbv
                         refine L_if hE h (fun h => ?_) (fun h => ?_) <;> cbv
                         · refine L_if hE h (fun h => ?_) (fun h => ?_) <;> cbv
                           · refine L_if hE h (fun h => ?_) (fun h => ?_) <;> cbv
                             · refine L_pcall hE hR h (fun _ e => l27_works_w e) rfl rfl fun a9 h => ?_; cbv
                               refine L_if hE h (fun h => ?_) (fun h => ?_) <;> cbv
                               · exact And.left (hQ _ _ _ rfl rfl (by cases h; subst hR; rfl))
                               exact nomatch h
                             refine L_if hE h (fun h => ?_) (fun h => ?_) <;> cbv
                             · exact nomatch h
                             exact And.left (hQ _ _ _ rfl rfl (by cases h; subst hR; rfl))
                           exact nomatch h
                         exact nomatch h
                       exact nomatch h
                     exact nomatch h
                   exact nomatch h
                 exact nomatch h
               exact nomatch h
             refine L_if hE h (fun h => ?_) (fun h => ?_) <;> cbv
             · exact nomatch h
             refine L_if hE h (fun h => ?_) (fun h => ?_) <;> cbv
             · exact nomatch h
             refine L_if hE h (fun h => ?_) (fun h => ?_) <;> cbv
             · exact nomatch h
             refine L_if hE h (fun h => ?_) (fun h => ?_) <;> cbv
             · exact nomatch h
             refine L_if hE h (fun h => ?_) (fun h => ?_) <;> cbv
             · exact nomatch h
             refine L_if hE h (fun h => ?_) (fun h => ?_) <;> cbv
             · exact nomatch h
             refine L_if hE h (fun h => ?_) (fun h => ?_) <;> cbv
             · exact nomatch h
             refine L_f hE ?_; cbv
             refine L_f hE ?_; cbv
             exact And.left (hQ _ _ _ rfl rfl (by cases h; subst hR; rfl))
           exact nomatch h
         exact nomatch h
       exact nomatch h
     exact nomatch h
   exact nomatch h
 refine L_if hE h (fun h => ?_) (fun h => ?_) <;> cbv
 · exact nomatch h
 refine L_if hE h (fun h => ?_) (fun h => ?_) <;> cbv
 · exact nomatch h
 refine L_if hE h (fun h => ?_) (fun h => ?_) <;> cbv
 · exact nomatch h
 refine L_if hE h (fun h => ?_) (fun h => ?_) <;> cbv
 · exact nomatch h
 refine L_if hE h (fun h => ?_) (fun h => ?_) <;> cbv
 · exact nomatch h
 refine L_f hE ?_; cbv
 refine L_f hE ?_; cbv
 refine L_f hE ?_; cbv
 refine L_f hE ?_; cbv
 refine L_f hE ?_; cbv
 refine L_f hE ?_; cbv
 refine L_f hE ?_; cbv
 refine L_f hE ?_; cbv
 refine L_f hE ?_; cbv
 refine L_f hE ?_; cbv
 exact And.left (hQ _ _ _ rfl rfl (by cases h; subst hR; rfl))
end Gn
end Go.Proofs.YtagppjldegblhaaGreatDoor
