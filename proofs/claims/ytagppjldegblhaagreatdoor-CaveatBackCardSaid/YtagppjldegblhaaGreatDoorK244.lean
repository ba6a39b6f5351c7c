/- Texts that the proof leans on. -/
import Derived.Test.YtagppjldegblhaaGreatDoorK241
import Derived.Test.YtagppjldegblhaaGreatDoorK240
set_option linter.unusedVariables false
set_option linter.unusedSimpArgs false
set_option maxRecDepth 100000
set_option maxHeartbeats 4000000
namespace Go.Proofs.YtagppjldegblhaaGreatDoor
open Go
open Sh Gn Pl
namespace Cv
theorem text_inj {c d : GCaveat} (hc : right c = true) (hd : right d = true) (h : text c = text d) : c = d := by rw [← cand_text hc, ← cand_text hd, h]
theorem text_ne {c : GCaveat} (h : right c = true) : text c ≠ [] := by unfold text; rw [if_pos h]; simp
end Cv
end Go.Proofs.YtagppjldegblhaaGreatDoor
namespace Go.Proofs.YtagppjldegblhaaGreatDoor
open Go Go.RowKit
open Ab Sh
namespace Gn
def l27_CaveatBack_s (R : RF) (r : Bool) : V := fB r
def l27_CaveatBack_g (N : Nat) (p0 : GCaveat) (p1 : GCaveat) (p2 : ByteArray) : Option Bool :=
 ((r27_Great_g N p0).bind fun a1 =>
 cond (a1)
 (some true)
 ((r27_Great_g N p1).bind fun a2 =>
 cond (a2)
 (some true)
 (some (cm .gtr (sl p2) 400))) : Option Bool).bind fun j1 =>
 cond (j1)
 ((l27_works_g N).bind fun a3 =>
 some a3)
 ((caveat_Text_g N p0).bind fun a4 =>
 (caveat_Parse_g N a4).bind fun a5 =>
 ((caveat_Right_g N p0).bind fun a6 =>
 cond (!(conj [a5.2 == a6]))
 (some true)
 (cond (a5.2)
 ((porterbase_SameCaveat_g N a5.1 p0).bind fun a7 =>
 cond (!a7)
 (some true)
 (cond (!a5.2)
 (some (sc .neq a4 ByteArray.empty))
 (some false)))
 (cond (!a5.2)
 (some (sc .neq a4 ByteArray.empty))
 (some false))) : Option Bool).bind fun j2 =>
 cond (j2)
 (some false)
 (cond (a5.2)
 (cond (a5.2)
 ((caveat_Right_g N p1).bind fun a8 =>
 cond (a5.2)
 (cond (a8)
 (cond (a8)
 ((caveat_Text_g N p1).bind fun a9 =>
 cond (a8)
 (cond (a8)
 (cond (a8)
 (cond (a8)
 (cond (a8)
 ((porterbase_SameCaveat_g N p0 p1).bind fun a10 =>
 cond (a8)
 (cond (a8)
 (cond (!(conj [(sc .eql a9 a4) == a10]))
 (some false)
 ((caveat_Parse_g N p2).bind fun a11 =>
 (cond (!a11.2)
 ((l27_works_g N).bind fun a12 =>
 some a12)
 ((caveat_Right_g N a11.1).bind fun a13 =>
 cond (a13)
 ((caveat_Text_g N a11.1).bind fun a14 =>
 cond (sc .eql a14 p2)
 ((l27_works_g N).bind fun a15 =>
 some a15)
 (some false))
 (some false)) : Option Bool).bind fun j3 =>
 some j3))
 (none))
 (none))
 (none))
 (none))
 (none))
 (none))
 (none))
 (none))
 (cond (a8)
 (none)
 (cond (a8)
 (none)
 (cond (a8)
 (none)
 (cond (a8)
 (none)
 (cond (a8)
 (none)
 (cond (a8)
 (none)
 (cond (a8)
 (none)
 (cond (a8)
 (none)
 ((caveat_Parse_g N p2).bind fun a16 =>
 (cond (!a16.2)
 ((l27_works_g N).bind fun a17 =>
 some a17)
 ((caveat_Right_g N a16.1).bind fun a18 =>
 cond (a18)
 ((caveat_Text_g N a16.1).bind fun a19 =>
 cond (sc .eql a19 p2)
 ((l27_works_g N).bind fun a20 =>
 some a20)
 (some false))
 (some false)) : Option Bool).bind fun j4 =>
 some j4))))))))))
 (none))
 (none))
 (cond (a5.2)
 (none)
 (cond (a5.2)
 (none)
 ((caveat_Parse_g N p2).bind fun a21 =>
 (cond (!a21.2)
 ((l27_works_g N).bind fun a22 =>
 some a22)
 ((caveat_Right_g N a21.1).bind fun a23 =>
 cond (a23)
 ((caveat_Text_g N a21.1).bind fun a24 =>
 cond (sc .eql a24 p2)
 ((l27_works_g N).bind fun a25 =>
 some a25)
 (some false))
 (some false)) : Option Bool).bind fun j5 =>
 some j5)))))
end Gn
end Go.Proofs.YtagppjldegblhaaGreatDoor
namespace Go.Proofs.YtagppjldegblhaaGreatDoor
open Go Go.RowKit
open Sh Gn
namespace Pl
theorem conj1 {b : Bool} : conj [b] = b := by show (b && true) = b; rw [Bool.and_true]
section
variable {N : Nat} (hN : 200000 ≤ N) (hT : ∀ g : GMatcher, g.Value.size ≤ 1200 → g.Name.size ≤ 100 → matcher_Text_g N g = some (Mt.ofL (Mt.text (toM g))) ∧ r22_Text_g N g = some (Mt.ofL (Mt.text (toM g))) ∧ (Mt.text (toM g)).length ≤ 6000) (hW : l27_works_g N = some true)
include hN hT
include hW
theorem last_p {s : ByteArray} (hs : s.size ≤ 400) :
 ((caveat_Parse_g N s).bind fun a11 => (cond (!a11.2) ((l27_works_g N).bind fun a12 => some a12) ((caveat_Right_g N a11.1).bind fun a13 => cond a13 ((caveat_Text_g N a11.1).bind fun a14 => cond (sc .eql a14 s) ((l27_works_g N).bind fun a15 => some a15) (some false)) (some false)) : Option Bool).bind fun j3 => some j3) = some true := by
 have hm := mid_cand hT (s := s.data.toList) (by rw [size_list]; omega)
 rw [cparse_p hN hT (by omega), hW, Option.bind_some]
 unfold Cv.parse
 by_cases g : Cv.right (Cv.cand s.data.toList) = true ∧ Cv.text (Cv.cand s.data.toList) = s.data.toList
 · rw [if_pos g, cright_p (by omega) hm, ctext_p (by omega) hm]
   simp only [Option.bind_some, Bool.not_true, cond_false]
   rw [g.1, sc_text, decide_eq_true g.2]
   rfl
 · rw [if_neg g]; rfl
theorem back27_g (c d : GCaveat) (s : ByteArray) : l27_CaveatBack_g N c d s = some true := by
 unfold l27_CaveatBack_g
 obtain ⟨b1, g1, g2⟩ := cgreat_p hN hT c
 obtain ⟨b2, g3, g4⟩ := cgreat_p hN hT d
 rw [g1, g3, hW, Option.bind_some, Option.bind_some, cm_gtr, sl_eq]
 cases b1 with
 | true => rfl
 | false =>
   rw [cond_false]
   cases b2 with
   | true => rfl
   | false =>
     rw [cond_false]
     by_cases cs : (400 : Int) < (s.size : Int)
     · rw [decide_eq_true cs]; rfl
     · rw [decide_eq_false cs]
       have hc := g2 rfl
       have hd := g4 rfl
       have hL := last_p hN hT hW (s := s) (by omega)
       rw [hW] at hL
       simp only [Option.bind_some] at hL
       rw [cright_p (by omega) hc, ctext_p (by omega) hc, cright_p (by omega) hd, ctext_p (by omega) hd]
       simp only [Option.bind_some, cond_false, hL]
       have hp : caveat_Parse_g N (Mt.ofL (Cv.text c)) = some (if Cv.right c = true then (c, true) else (⟨0, 0, [], []⟩, false)) := by
        by_cases r : Cv.right c = true
        · have hsz : (Cv.text c).length ≤ 2048 := by
           unfold Cv.text
           rw [if_pos r]
           obtain ⟨K, Num, Ws, Sel⟩ := c
           rcases Cv.right_cases r with ⟨hk, h1, h2, h3, h4, h5, h6⟩ | ⟨hk, h1, h2, h3, h4⟩ | ⟨hk, h1, h2, h3, h4⟩
           · dsimp only at *
             have hb : Cv.body ⟨K, Num, Ws, Sel⟩ = Lib.join (Cv.words Ws) [32] := by
              unfold Cv.body
              rw [if_neg (by dsimp only; omega), if_neg (by dsimp only; omega)]
             have hjl := join_len Ws h6
             have hf := (first_p K (by omega) (by omega)).2.1
             rw [hb]; simp only [List.length_append, List.length_cons]; omega
           · dsimp only at *
             have hb : Cv.body ⟨K, Num, Ws, Sel⟩ = Lib.itoa Num := by unfold Cv.body; rw [if_pos hk]
             have hil : (Lib.itoa Num).length ≤ 13 := by
              unfold Lib.itoa
              rw [if_neg (by omega)]
              exact Cv.dec_len 12 _ (by omega)
             have hf := (first_p K (by omega) (by omega)).2.1
             rw [hb]; simp only [List.length_append, List.length_cons]; omega
           · dsimp only at *
             subst hk
             have hb : Cv.body ⟨7, Num, Ws, Sel⟩ = Sl.text (toMs Sel) := rfl
             have hf : (Cv.first 7).length = 5 := rfl
             rw [hb]; simp only [List.length_append, List.length_cons]; omega
          have := cparse_m hN (s := Mt.ofL (Cv.text c)) (by rw [ofL_size]; exact hsz) (by rw [Mt.ofL_list, Cv.cand_text r]; exact hc)
          rw [this, Mt.ofL_list]
          unfold Cv.parse
          rw [Cv.cand_text r, if_pos ⟨r, rfl⟩, if_pos r]
        · have ht : Cv.text c = [] := by unfold Cv.text; rw [if_neg r]
          have := cparse_p hN hT (s := Mt.ofL (Cv.text c)) (by rw [ofL_size, ht]; simp)
          rw [this, Mt.ofL_list, ht, if_neg r]
          unfold Cv.parse
          rw [if_neg fun g => Cv.text_ne g.1 g.2]
       rw [hp]
       obtain ⟨v1, q1, q2⟩ := samecav_p (N := N) (by omega) c d (by have := hc.words; omega) (by have := hc.sel; omega)
       have qs := samecav_self (N := N) (by omega) c (by have := hc.words; omega) (by have := hc.sel; omega)
       cases r : Cv.right c with
       | false =>
         have ht : Cv.text c = [] := by unfold Cv.text; rw [if_neg (by rw [r]; decide)]
         rw [if_neg (by decide)]
         simp only [Option.bind_some, conj1, beq_self_eq_true, Bool.not_true, Bool.not_false, cond_false, _root_.cond_true, ht]
         have e : sc .neq (Mt.ofL []) ByteArray.empty = false := by rw [sc_neq, decide_eq_true (show Mt.ofL [] = ByteArray.empty from rfl)]; rfl
         rw [e]; rfl
       | true =>
         rw [if_pos rfl]
         simp only [Option.bind_some, conj1, beq_self_eq_true, Bool.not_true, Bool.not_false, cond_false, _root_.cond_true, qs, q1]
         cases rd : Cv.right d with
         | false => rfl
         | true =>
           have key : (sc .eql (Mt.ofL (Cv.text d)) (Mt.ofL (Cv.text c)) == v1) = true := by
            rw [sc_text, Mt.ofL_list, beq_iff_eq, Bool.eq_iff_iff, decide_eq_true_eq, q2]
            exact ⟨fun h => Cv.text_inj r rd h.symm, fun h => by rw [h]⟩
           rw [key]
           rfl
end
theorem back27_p (c d : GCaveat) (s : ByteArray) : l27_CaveatBack_g 200000 c d s = some true := back27_g (Nat.le_refl _) (fun g h1 h2 => mtext_p g h1 h2) cworks_p c d s
end Pl
end Go.Proofs.YtagppjldegblhaaGreatDoor
namespace Go.Proofs.YtagppjldegblhaaGreatDoor
open Go Go.RowKit
open Ab Sh
namespace Gn
theorem l27_CaveatBack_w {N : Nat} {p0 : GCaveat} {p1 : GCaveat} {p2 : ByteArray} {r : Bool} (h : l27_CaveatBack_g N p0 p1 p2 = some r) : FunS Tryz.prog 5 [.agg [fI .i64 p0.Kind, fI .i64 p0.Num, .t (.slc (rw _ cS p0.Words)), .t (.slc (rw _ cMatcher p0.Sel))], .agg [fI .i64 p1.Kind, fI .i64 p1.Num, .t (.slc (rw _ cS p1.Words)), .t (.slc (rw _ cMatcher p1.Sel))], fS p2] (l27_CaveatBack_s rw) r := by
 refine fun_w lay_ok Tryz.call5 Tryz.func5 rfl ?_
 intro A W E Q R hE hR hf hQ; rcases W with ⟨ar, cm, conj, cv, sl, sc, ct, sa, ss, ll, _, _, _, _, mi, mx, _, _, _⟩
 rw [← hR]
 unfold l27_CaveatBack_g at h
 rw [q_cm hE, q_conj hE, q_sl hE, q_sc hE] at h
 cbv
 refine L_rgJ hE lay_ok h 2 (fun j1 : Bool => [(22, fB j1)]) (fun j1 => []) (fun j1 h => ?_) (fun j1 h => ?_) <;> cbv
 · refine L_call hE hR h (fun _ e => r27_Great_w e) (by subst hR; rfl) rfl fun a1 h => ?_; cbv
   refine L_if hE h (fun h => ?_) (fun h => ?_) <;> cbv
   · cases h; (cbv; (try simp only [e_rnil hR]); repeat' (first | exact trivial | exact rfl | exact Or.inr trivial | apply And.intro))
   refine L_call hE hR h (fun _ e => r27_Great_w e) (by subst hR; rfl) rfl fun a2 h => ?_; cbv
   refine L_if hE h (fun h => ?_) (fun h => ?_) <;> cbv
   · cases h; (cbv; (try simp only [e_rnil hR]); repeat' (first | exact trivial | exact rfl | exact Or.inr trivial | apply And.intro))
   cases h; (cbv; (try simp only [e_rnil hR]); repeat' (first | exact trivial | exact rfl | exact Or.inr trivial | apply And.intro))
 refine L_if hE h (fun h => ?_) (fun h => ?_) <;> cbv
 · refine L_call hE hR h (fun _ e => l27_works_w e) rfl rfl fun a3 h => ?_; cbv
   exact And.left (hQ _ _ _ rfl rfl (by cases h; subst hR; rfl))
 refine L_call hE hR h (fun _ e => caveat_Text_w e) (by subst hR; rfl) rfl fun a4 h => ?_; cbv
 refine L_call hE hR h (fun _ e => caveat_Parse_w e) rfl rfl fun a5 h => ?_; cbv
 refine L_rgJ hE lay_ok h 3 (fun j2 : Bool => [(51, fB j2)]) (fun j2 => []) (fun j2 h => ?_) (fun j2 h => ?_) <;> cbv
 · refine L_call hE hR h (fun _ e => caveat_Right_w e) (by subst hR; rfl) rfl fun a6 h => ?_; cbv
   refine L_if hE h (fun h => ?_) (fun h => ?_) <;> cbv
   · cases h; (cbv; (try simp only [e_rnil hR]); repeat' (first | exact trivial | exact rfl | exact Or.inr trivial | apply And.intro))
   refine L_if hE h (fun h => ?_) (fun h => ?_) <;> cbv
   · refine L_call hE hR h (fun _ e => porterbase_SameCaveat_w e) (by subst hR; rfl) rfl fun a7 h => ?_; cbv
     refine L_if hE h (fun h => ?_) (fun h => ?_) <;> cbv
     · cases h; (cbv; (try simp only [e_rnil hR]); repeat' (first | exact trivial | exact rfl | exact Or.inr trivial | apply And.intro))
     refine L_if hE h (fun h => ?_) (fun h => ?_) <;> cbv
     · cases h; (cbv; (try simp only [e_rnil hR]); repeat' (first | exact trivial | exact rfl | exact Or.inr trivial | apply And.intro))
     cases h; (cbv; (try simp only [e_rnil hR]); repeat' (first | exact trivial | exact rfl | exact Or.inr trivial | apply And.intro))
   refine L_if hE h (fun h => ?_) (fun h => ?_) <;> cbv
   · cases h; (cbv; (try simp only [e_rnil hR]); repeat' (first | exact trivial | exact rfl | exact Or.inr trivial | apply And.intro))
   cases h; (cbv; (try simp only [e_rnil hR]); repeat' (first | exact trivial | exact rfl | exact Or.inr trivial | apply And.intro))
 refine L_if hE h (fun h => ?_) (fun h => ?_) <;> cbv
 · exact And.left (hQ _ _ _ rfl rfl (by cases h; subst hR; rfl))
 refine L_whole hE lay_ok (by kernel_rfl) (by kernel_rfl) ?_; cbv
 refine L_if hE h (fun h => ?_) (fun h => ?_) <;> cbv
 · refine L_if hE h (fun h => ?_) (fun h => ?_) <;> cbv
   · refine L_pcall hE hR h (fun _ e => caveat_Right_w e) (by subst hR; rfl) rfl fun a8 h => ?_; cbv
     refine L_if hE h (fun h => ?_) (fun h => ?_) <;> cbv
     · refine L_if hE h (fun h => ?_) (fun h => ?_) <;> cbv
       · refine L_if hE h (fun h => ?_) (fun h => ?_) <;> cbv
         · refine L_pcall hE hR h (fun _ e => caveat_Text_w e) (by subst hR; rfl) rfl fun a9 h => ?_; cbv
           refine L_if hE h (fun h => ?_) (fun h => ?_) <;> cbv
           · refine L_if hE h (fun h => ?_) (fun h => ?_) <;> cbv
             · refine L_if hE h (fun h => ?_) (fun h => ?_) <;> cbv
               · refine L_if hE h (fun h => ?_) (fun h => ?_) <;> cbv
                 · refine L_if hE h (fun h => ?_) (fun h => ?_) <;> cbv
                   · refine L_pcall hE hR h (fun _ e => porterbase_SameCaveat_w e) (by subst hR; rfl) rfl fun a10 h => ?_; cbv
                     refine L_if hE h (fun h => ?_) (fun h => ?_) <;> cbv
                     · refine L_if hE h (fun h => ?_) (fun h => ?_) <;> cbv
                       · refine L_if hE h (fun h => ?_) (fun h => ?_) <;> cbv
                         · exact And.left (hQ _ _ _ rfl rfl (by cases h; subst hR; rfl))
                         refine L_call hE hR h (fun _ e => caveat_Parse_w e) rfl rfl fun a11 h => ?_; cbv
                         refine L_rgJ hE lay_ok h 19 (fun j3 : Bool => [(6, fB j3)]) (fun j3 => []) (fun j3 h => ?_) (fun j3 h => ?_) <;> cbv
                         · refine L_if hE h (fun h => ?_) (fun h => ?_) <;> cbv
                           · refine L_call hE hR h (fun _ e => l27_works_w e) rfl rfl fun a12 h => ?_; cbv
                             cases h; (cbv; (try simp only [e_rnil hR]); repeat' (first | exact trivial | exact rfl | exact Or.inr trivial | apply And.intro))
                           refine L_call hE hR h (fun _ e => caveat_Right_w e) (by subst hR; rfl) rfl fun a13 h => ?_; cbv
                           refine L_if hE h (fun h => ?_) (fun h => ?_) <;> cbv
                           · refine L_call hE hR h (fun _ e => caveat_Text_w e) (by subst hR; rfl) rfl fun a14 h => ?_; cbv
                             refine L_if hE h (fun h => ?_) (fun h => ?_) <;> cbv
                             · refine L_call hE hR h (fun _ e => l27_works_w e) rfl rfl fun a15 h => ?_; cbv
                               cases h; (cbv; (try simp only [e_rnil hR]); repeat' (first | exact trivial | exact rfl | exact Or.inr trivial | apply And.intro))
                             cases h; (cbv; (try simp only [e_rnil hR]); repeat' (first | exact trivial | exact rfl | exact Or.inr trivial | apply And.intro))
                           cases h; (cbv; (try simp only [e_rnil hR]); repeat' (first | exact trivial | exact rfl | exact Or.inr trivial | apply And.intro))
                         exact And.left (hQ _ _ _ rfl rfl (by cases h; subst hR; rfl))
                       exact nomatch h
                     exact nomatch h
                   exact nomatch h
                 exact nomatch h
               exact nomatch h
             exact nomatch h
           exact nomatch h
         exact nomatch h
       refine L_if hE h (fun h => ?_) (fun h => ?_) <;> cbv
       · exact nomatch h
       refine L_if hE h (fun h => ?_) (fun h => ?_) <;> cbv
       · exact nomatch h
       refine L_if hE h (fun h => ?_) (fun h => ?_) <;> cbv
       · exact nomatch h
       refine L_if hE h (fun h => ?_) (fun h => ?_) <;> cbv
       · exact nomatch h
       refine L_if hE h (fun h => ?_) (fun h => ?_) <;> cbv
       · exact nomatch h
       refine L_if hE h (fun h => ?_) (fun h => ?_) <;> cbv
       · exact nomatch h
       refine L_if hE h (fun h => ?_) (fun h => ?_) <;> cbv
       · exact nomatch h
       refine L_if hE h (fun h => ?_) (fun h => ?_) <;> cbv
       · exact nomatch h
       refine L_f hE ?_; cbv
       refine L_call hE hR h (fun _ e => caveat_Parse_w e) rfl rfl fun a16 h => ?_; cbv
       refine L_rgJ hE lay_ok h 19 (fun j4 : Bool => [(6, fB j4)]) (fun j4 => []) (fun j4 h => ?_) (fun j4 h => ?_) <;> cbv
       · refine L_if hE h (fun h => ?_) (fun h => ?_) <;> cbv
         · refine L_call hE hR h (fun _ e => l27_works_w e) rfl rfl fun a17 h => ?_; cbv
           cases h; (cbv; (try simp only [e_rnil hR]); repeat' (first | exact trivial | exact rfl | exact Or.inr trivial | apply And.intro))
         refine L_call hE hR h (fun _ e => caveat_Right_w e) (by subst hR; rfl) rfl fun a18 h => ?_; cbv
         refine L_if hE h (fun h => ?_) (fun h => ?_) <;> cbv
         · refine L_call hE hR h (fun _ e => caveat_Text_w e) (by subst hR; rfl) rfl fun a19 h => ?_; cbv
           refine L_if hE h (fun h => ?_) (fun h => ?_) <;> cbv
           · refine L_call hE hR h (fun _ e => l27_works_w e) rfl rfl fun a20 h => ?_; cbv
             cases h; (cbv; (try simp only [e_rnil hR]); repeat' (first | exact trivial | exact rfl | exact Or.inr trivial | apply And.intro))
           cases h; (cbv; (try simp only [e_rnil hR]); repeat' (first | exact trivial | exact rfl | exact Or.inr trivial | apply And.intro))
         cases h; (cbv; (try simp only [e_rnil hR]); repeat' (first | exact trivial | exact rfl | exact Or.inr trivial | apply And.intro))
       exact And.left (hQ _ _ _ rfl rfl (by cases h; subst hR; rfl))
     exact nomatch h
   exact nomatch h
 refine L_if hE h (fun h => ?_) (fun h => ?_) <;> cbv
 · exact nomatch h
 refine L_if hE h (fun h => ?_) (fun h => ?_) <;> cbv
 · exact nomatch h
 refine L_f hE ?_; cbv
 refine L_f hE ?_; cbv
 refine L_f hE ?_; cbv
 refine L_f hE ?_; cbv
 refine L_f hE ?_; cbv
 refine L_f hE ?_; cbv
 refine L_f hE ?_; cbv
 refine L_f hE ?_; cbv
 refine L_f hE ?_; cbv
 refine L_f hE ?_; cbv
 refine L_call hE hR h (fun _ e => caveat_Parse_w e) rfl rfl fun a21 h => ?_; cbv
 refine L_rgJ hE lay_ok h 19 (fun j5 : Bool => [(6, fB j5)]) (fun j5 => []) (fun j5 h => ?_) (fun j5 h => ?_) <;> cbv
 · refine L_if hE h (fun h => ?_) (fun h => ?_) <;> cbv
   · refine L_call hE hR h (fun _ e => l27_works_w e) rfl rfl fun a22 h => ?_; cbv
     cases h; (cbv; (try simp only [e_rnil hR]); repeat' (first | exact trivial | exact rfl | exact Or.inr trivial | apply And.intro))
   refine L_call hE hR h (fun _ e => caveat_Right_w e) (by subst hR; rfl) rfl fun a23 h => ?_; cbv
   refine L_if hE h (fun h => ?_) (fun h => ?_) <;> cbv
   · refine L_call hE hR h (fun _ e => caveat_Text_w e) (by subst hR; rfl) rfl fun a24 h => ?_; cbv
     refine L_if hE h (fun h => ?_) (fun h => ?_) <;> cbv
     · refine L_call hE hR h (fun _ e => l27_works_w e) rfl rfl fun a25 h => ?_; cbv
       cases h; (cbv; (try simp only [e_rnil hR]); repeat' (first | exact trivial | exact rfl | exact Or.inr trivial | apply And.intro))
     cases h; (cbv; (try simp only [e_rnil hR]); repeat' (first | exact trivial | exact rfl | exact Or.inr trivial | apply And.intro))
   cases h; (cbv; (try simp only [e_rnil hR]); repeat' (first | exact trivial | exact rfl | exact Or.inr trivial | apply And.intro))
 exact And.left (hQ _ _ _ rfl rfl (by cases h; subst hR; rfl))
end Gn
end Go.Proofs.YtagppjldegblhaaGreatDoor
