/- Texts that the proof leans on. -/
import Derived.Test.YtagppjldegblhaaGreatDoorK239
set_option linter.unusedVariables false
set_option linter.unusedSimpArgs false
set_option maxRecDepth 100000
set_option maxHeartbeats 4000000
namespace Go.Proofs.YtagppjldegblhaaGreatDoor
open Go Go.RowKit
open Sh Gn Pl
namespace Pl
section
variable {s : ByteArray}
theorem pieces_end (f : Int) (out : List ByteArray) (m : Nat) : r09_Pieces_l1 s (m + 1) f ((s.size + 1 : Nat) : Int) out = some out := by
 rw [r09_Pieces_l1, cm_leq, cond_dec, sl_eq, if_neg (by omega)]
theorem pieces_from (hs : s.size ≤ 100000) : ∀ (m f i : Nat) (out : List ByteArray), f ≤ i → i ≤ s.size → s.size + 1 < i + m → out.length ≤ i →
 r09_Pieces_l1 s m f i out = some (out ++ (Nm.attach ((s.data.toList.drop f).take (i - f)) (Nm.splitL (s.data.toList.drop i))).map Mt.ofL) := by
 intro m
 induction m with
 | zero => intro f i out h0 h1 h2; omega
 | succ m ih =>
   intro f i out h0 h1 h2 h3
   have hss : ss s (f : Int) (i : Int) = Mt.ofL ((s.data.toList.drop f).take (i - f)) := by rw [← ss_list h0 h1, Mt.ofL_self]
   have happ : app cS out [ss s (f : Int) (i : Int)] = some (out ++ [ss s (f : Int) (i : Int)]) := app_eq (by simp only [List.length_singleton]; omega)
   rw [r09_Pieces_l1]
   simp only [cm_leq, cm_eql, cond_dec, sl_eq]
   rw [if_pos (by omega), inc1 (by omega)]
   by_cases c : i < s.size
   · rw [if_neg (by omega), sin_in c, _root_.cond_true]
     have hl : i < s.data.toList.length := by rw [size_list]; exact c
     have hb : sa s (i : Int) = ((s.data.toList[i]).toNat : Int) := by
      rw [sa_bt]; unfold Qu.bt; rw [List.getElem?_eq_getElem hl]
     rw [hb, List.drop_eq_getElem_cons hl]
     simp only [Option.bind_some]
     by_cases g : s.data.toList[i] = 32
     · rw [decide_eq_true (by rw [g]; rfl : ((s.data.toList[i]).toNat : Int) = 32), _root_.cond_true, ssin_nat h0 (by omega), _root_.cond_true, happ]
       simp only [Option.bind_some]
       rw [ih (i + 1) (i + 1) _ (Nat.le_refl _) (by omega) (by omega) (by simp; omega), Nat.sub_self, List.take_zero, Nm.attach_nil (Nm.splitL_ne _), hss]
       rw [Nm.splitL, if_pos g, Nm.attach]
       simp
     · have g' : ¬ ((s.data.toList[i]).toNat : Int) = 32 := fun e => g (UInt8.toNat_inj.1 (by have : (32 : UInt8).toNat = 32 := rfl; omega))
       rw [decide_eq_false g', cond_false]
       simp only [Option.bind_some]
       rw [ih f (i + 1) out (by omega) (by omega) (by omega) (by omega)]
       rw [Nm.splitL, if_neg g, Nm.attach_attach _ _ _ (Nm.splitL_ne _)]
       have e : (s.data.toList.drop f).take (i + 1 - f) = (s.data.toList.drop f).take (i - f) ++ [s.data.toList[i]] := by
        rw [show i + 1 - f = (i - f) + 1 by omega, List.take_add_one, List.getElem?_drop, show f + (i - f) = i by omega, List.getElem?_eq_getElem hl]
        rfl
       rw [e]
   · have hi : i = s.size := by omega
     rw [if_pos (by omega)]
     simp only [Option.bind_some, _root_.cond_true]
     rw [ssin_nat h0 (by omega), _root_.cond_true, happ]
     simp only [Option.bind_some]
     cases m with
     | zero => omega
     | succ m =>
       subst hi
       have hd : s.data.toList.drop s.size = [] := List.drop_of_length_le (by rw [size_list]; exact Nat.le_refl _)
       rw [pieces_end, hss, hd, show Nm.splitL [] = [[]] from rfl, Nm.attach]
       simp
theorem pieces_p {N : Nat} (hN : 200000 ≤ N) (hs : s.size ≤ 100000) : r09_Pieces_g N s = some (Cv.split s.data.toList) := by
 have h := pieces_from hs N 0 0 [] (Nat.le_refl _) (by omega) (by omega) (by simp)
 rw [List.drop_zero, Nat.sub_self, List.take_zero, Nm.attach_nil (Nm.splitL_ne _)] at h
 exact h
end
end Pl
namespace Cv
def dgs : List UInt8 → Nat → Int
 | [], n => n
 | b :: r, n => if b.toNat < 48 ∨ 57 < b.toNat then -1 else dgs r (10 * n + (b.toNat - 48))
def digits (l : List UInt8) : Int := if l.length < 1 ∨ 13 < l.length then -1 else dgs l 0
theorem dgs_fold : ∀ (l : List UInt8) (n : Nat), (∀ b ∈ l, dig b) → dgs l n = (fold n l : Nat)
 | [], n, _ => rfl
 | b :: r, n, h => by
   have hb := h b List.mem_cons_self
   unfold dig at hb
   rw [dgs, if_neg (by omega)]
   exact dgs_fold r _ fun x hx => h x (List.mem_cons_of_mem _ hx)
theorem digits_dec {u : Nat} (h : u ≤ 1099511627776) : digits (Lib.decDigits u) = u := by
 obtain ⟨d1, d2, d3⟩ := dec_all u
 have h1 := dec_len 12 u (by omega)
 have h2 : 1 ≤ (Lib.decDigits u).length := by
  cases hd : Lib.decDigits u with
  | nil => exact absurd hd d3
  | cons => simp
 unfold digits
 rw [if_neg (by omega), dgs_fold _ _ d1, d2]
def rcand (v : Int) (r : List UInt8) : GCaveat := if v < 5 then ⟨v, 0, split r, []⟩ else if v < 7 then ⟨v, digits r, [], []⟩ else ⟨v, 0, [], (Sl.parse r).1.map ofM⟩
theorem rcand_body {c : GCaveat} (h : right c = true) : rcand c.Kind (body c) = c ∧ (c.Kind = 7 → (Sl.parse (body c)).2.1 = 0) := by
 obtain ⟨K, Num, Ws, Sel⟩ := c
 rcases right_cases h with ⟨hk, h1, h2, h3, -, -, h4⟩ | ⟨hk, h1, h2, h3, h4⟩ | ⟨hk, h1, h2, h3, h4⟩
 · dsimp only at *
   subst h1; subst h2
   have hs := split_join h3 h4
   refine ⟨?_, fun e => by omega⟩
   unfold rcand
   rw [if_pos (by omega)]
   have hb : body ⟨K, 0, Ws, []⟩ = Lib.join (words Ws) [32] := by
    unfold body
    rw [if_neg (by dsimp only; omega), if_neg (by dsimp only; omega)]
   rw [hb, hs]
 · dsimp only at *
   subst h1; subst h2
   obtain ⟨u, rfl⟩ := Int.eq_ofNat_of_zero_le h3
   refine ⟨?_, fun e => by omega⟩
   unfold rcand
   rw [if_neg (by omega), if_pos (by omega)]
   have hb : body ⟨K, (u : Int), [], []⟩ = Lib.decDigits u := by
    unfold body
    rw [if_pos hk]
    show Lib.itoa (u : Int) = _
    unfold Lib.itoa
    rw [if_neg (by omega), Int.toNat_natCast]
   rw [hb, digits_dec (by omega)]
 · dsimp only at *
   subst h1; subst h2; subst hk
   have hb : body ⟨7, 0, [], Sel⟩ = Sl.text (toMs Sel) := rfl
   rw [hb, sel_back h3]
   refine ⟨?_, fun _ => rfl⟩
   unfold rcand
   rw [sel_back h3]
   simp [ofMs_toMs]
end Cv
namespace Pl
section
variable {s : ByteArray}
theorem cdigits_from (hs : s.size ≤ 13) : ∀ (m i n : Nat), i ≤ s.size → s.size < i + m → n < 10 ^ i → r27_digits_l1 s m (n : Int) (i : Int) = some (Cv.dgs (s.data.toList.drop i) n) := by
 intro m
 induction m with
 | zero => intro i n h1 h2; omega
 | succ m ih =>
   intro i n h1 h2 h3
   rw [r27_digits_l1]
   simp only [cm_lss, cm_gtr, cond_dec, sl_eq]
   by_cases c : i < s.size
   · have hl : i < s.data.toList.length := by rw [size_list]; exact c
     have hb : sa s (i : Int) = ((s.data.toList[i]).toNat : Int) := by
      rw [sa_bt]; unfold Qu.bt; rw [List.getElem?_eq_getElem hl]
     have hlt : (s.data.toList[i]).toNat < 256 := (s.data.toList[i]).toNat_lt
     rw [if_pos (by omega)]
     simp only [sin_in c, _root_.cond_true]
     rw [hb, List.drop_eq_getElem_cons hl, Cv.dgs, inc1 (by omega)]
     generalize (s.data.toList[i]).toNat = b at *
     have hp : 10 ^ i ≤ 10 ^ 12 := Nat.pow_le_pow_right (by decide) (by omega)
     by_cases g1 : b < 48
     · rw [if_pos (by omega), if_pos (.inl g1)]; rfl
     · rw [if_neg (by omega)]
       simp only [Option.bind_some]
       by_cases g2 : 57 < b
       · rw [decide_eq_true (by omega : (57 : Int) < (b : Int)), if_pos (.inr g2)]; rfl
       · rw [decide_eq_false (by omega : ¬ (57 : Int) < (b : Int)), cond_false, if_neg (by omega)]
         have hcv : cv .i64 (b : Int) = (b : Int) := cv_i64 (by omega) (by omega)
         have e1 : ar .mul .i64 10 (n : Int) = 10 * (n : Int) := ar_mul (by omega) (by omega)
         have e2 : ar .add .i64 (10 * (n : Int)) (b : Int) = 10 * (n : Int) + (b : Int) := ar_add (by omega) (by omega)
         have e3 : ar .sub .i64 (10 * (n : Int) + (b : Int)) 48 = ((10 * n + (b - 48) : Nat) : Int) := by rw [ar_sub (by omega) (by omega)]; omega
         rw [hcv, e1, e2, e3]
         exact ih (i + 1) _ (by omega) (by omega) (by rw [Nat.pow_succ]; omega)
   · rw [if_neg (by omega), List.drop_of_length_le (by rw [size_list]; omega)]; rfl
theorem cdigits_p {N : Nat} (hN : 200000 ≤ N) : r27_digits_g N s = some (Cv.digits s.data.toList) := by
 unfold r27_digits_g Cv.digits
 rw [cm_lss, cm_gtr, cond_dec, sl_eq, size_list]
 by_cases c : s.size < 1
 · rw [if_pos (by omega), if_pos (.inl c)]; rfl
 · rw [if_neg (by omega), Option.bind_some]
   by_cases d : 13 < s.size
   · rw [decide_eq_true (by omega : (13 : Int) < (s.size : Int)), if_pos (.inr d)]; rfl
   · rw [decide_eq_false (by omega : ¬ (13 : Int) < (s.size : Int)), cond_false, if_neg (by omega)]
     have := cdigits_from (s := s) (by omega) N 0 0 (by omega) (by omega) (by decide)
     rw [List.drop_zero] at this
     exact this
end
theorem first_p (v : Int) (h1 : 1 ≤ v) (h7 : v ≤ 7) : r27_First_g v = some (Mt.ofL (Cv.first v)) ∧ (Cv.first v).length ≤ 8 ∧ Cv.kindOf (Cv.first v) = v := by
 obtain rfl | rfl | rfl | rfl | rfl | rfl | rfl : v = 1 ∨ v = 2 ∨ v = 3 ∨ v = 4 ∨ v = 5 ∨ v = 6 ∨ v = 7 := by omega
 all_goals exact ⟨rfl, by decide, by decide⟩
theorem rtry_p {N : Nat} (hN : 100000 < N) {c : GCaveat} (h : Mid N c) (s : ByteArray) (X : Option (GCaveat × Bool)) :
 (((r27_Right_g N c).bind fun a4 => cond a4 ((r27_Text_g N c).bind fun a5 => some (sc .eql a5 s)) (some false) : Option Bool).bind fun j6 => cond j6 (some (c, true)) X)
   = if Cv.right c = true ∧ Cv.text c = s.data.toList then some (c, true) else X := by
 rw [rcright_p hN h, rctext_p hN h]
 simp only [Option.bind_some]
 rw [sc_text]
 cases r : Cv.right c with
 | false => rw [if_neg fun h => by cases h.1]; rfl
 | true =>
   by_cases g : Cv.text c = s.data.toList
   · rw [decide_eq_true g, if_pos ⟨rfl, g⟩]; rfl
   · rw [decide_eq_false g, if_neg fun h => g h.2]; rfl
section
variable {N : Nat} (hN : 200000 ≤ N) (hT : ∀ g : GMatcher, g.Value.size ≤ 1200 → g.Name.size ≤ 100 → matcher_Text_g N g = some (Mt.ofL (Mt.text (toM g))) ∧ r22_Text_g N g = some (Mt.ofL (Mt.text (toM g))) ∧ (Mt.text (toM g)).length ≤ 6000)
include hN hT
theorem round_p {s : ByteArray} (hs : s.size ≤ 900) (m : Nat) (v : Int) (h1 : 1 ≤ v) (h7 : v ≤ 7) :
 r27_Parse_l1 N s (m + 1) v = if s.data.toList.take ((Cv.first v).length + 1) = Cv.first v ++ [32] then
  (if v = 7 ∧ (Sl.parse (s.data.toList.drop ((Cv.first v).length + 1))).2.1 ≠ 0 then some (⟨0, 0, [], []⟩, false)
   else if Cv.right (Cv.rcand v (s.data.toList.drop ((Cv.first v).length + 1))) = true ∧ Cv.text (Cv.rcand v (s.data.toList.drop ((Cv.first v).length + 1))) = s.data.toList then some (Cv.rcand v (s.data.toList.drop ((Cv.first v).length + 1)), true) else r27_Parse_l1 N s m (v + 1))
  else r27_Parse_l1 N s m (v + 1) := by
 obtain ⟨f1, f2, f3⟩ := first_p v h1 h7
 have hsl := size_list s
 have hv1 : ar .add .i64 v 1 = v + 1 := ar_add (by omega) (by omega)
 rw [r27_Parse_l1]
 rw [f1, hv1]
 simp only [cm_leq, cm_lss, cm_neq, cm_eql, cond_dec, cond_not, Option.bind_some]
 rw [if_pos h7, show ByteArray.mk #[32] = Mt.ofL [32] from rfl, ofL_ctB (by simp; omega), _root_.cond_true, ofL_ct]
 generalize Cv.first v = f at *
 have hL : sl (Mt.ofL (f ++ [32])) = ((f.length + 1 : Nat) : Int) := by rw [sl_eq, ofL_size]; simp
 rw [hL, sl_eq]
 by_cases a : s.size < f.length + 1
 · have hne : ¬ s.data.toList.take (f.length + 1) = f ++ [32] := fun e => by
    have := congrArg List.length e
    rw [List.length_take, List.length_append, List.length_singleton] at this
    omega
   rw [if_pos (show (s.size : Int) < ((f.length + 1 : Nat) : Int) by omega), if_neg hne]
   rfl
 · have hin : ssinB s 0 ((f.length + 1 : Nat) : Int) = true := ssin_nat (i := 0) (by omega) (by omega)
   have hin2 : ssinB s ((f.length + 1 : Nat) : Int) (s.size : Int) = true := ssin_end (i := f.length + 1) (by omega)
   have e0 : ss s 0 ((f.length + 1 : Nat) : Int) = Mt.ofL (s.data.toList.take (f.length + 1)) := by
    have := ss_list (s := s) (i := 0) (j := f.length + 1) (by omega) (by omega)
    rw [List.drop_zero, Nat.sub_zero] at this
    rw [← this, Mt.ofL_self]; rfl
   have e1 : ss s ((f.length + 1 : Nat) : Int) (s.size : Int) = Mt.ofL (s.data.toList.drop (f.length + 1)) := by
    have := ss_end (s := s) (i := f.length + 1) (by omega)
    rw [← this, Mt.ofL_self, sl_eq]
   have hn : sc .neq (Mt.ofL (s.data.toList.take (f.length + 1))) (Mt.ofL (f ++ [32])) = !decide (s.data.toList.take (f.length + 1) = f ++ [32]) := by
    rw [sc_neq]
    congr 1
    exact decide_eq_decide.2 ⟨fun h => by have := congrArg (fun x => x.data.toList) h; simpa [Mt.ofL_list] using this, fun h => by rw [h]⟩
   rw [if_neg (show ¬ (s.size : Int) < ((f.length + 1 : Nat) : Int) by omega), hin, hin2, e0, e1, hn]
   simp only [_root_.cond_true, Option.bind_some]
   have hdl : (s.data.toList.drop (f.length + 1)).length ≤ 900 := by rw [List.length_drop]; omega
   by_cases g : s.data.toList.take (f.length + 1) = f ++ [32]
   · rw [decide_eq_true g, if_pos g]
     simp only [Bool.not_true, cond_false]
     rw [pieces_p hN (by rw [ofL_size]; omega), cdigits_p hN, rsparse_p hN (by rw [ofL_size]; omega), Mt.ofL_list]
     simp only [Option.bind_some]
     generalize s.data.toList.drop (f.length + 1) = r at *
     unfold Cv.rcand
     by_cases v5 : v < 5
     · rw [if_pos v5, if_pos v5, if_neg (by omega)]
       exact rtry_p (by omega) (mid_words (by
        unfold Cv.split
        have := splitL_len r
        rw [List.length_map]; omega) _ _) s _
     rw [if_neg v5, if_neg v5]
     by_cases v7 : v < 7
     · rw [if_pos v7, if_pos v7, if_neg (by omega)]
       exact rtry_p (by omega) (mid_words (by simp) _ _) s _
     · rw [if_neg v7, if_neg v7]
       obtain rfl : v = 7 := by omega
       unfold parseVS
       dsimp only
       by_cases e : (Sl.parse r).2.1 = 0
       · rw [if_pos e, if_neg (by simp [e])]
         exact rtry_p (by omega) (mid_sel hT (by omega) _ _) s _
       · rw [if_neg e, if_pos ⟨rfl, e⟩]
   · rw [decide_eq_false g, if_neg g]; rfl
theorem rparse_p {s : ByteArray} (hs : s.size ≤ 900) : r27_Parse_g N s = some (Cv.parse s.data.toList) := by
 unfold r27_Parse_g
 rw [cm_gtr, cond_dec, sl_eq, if_neg (by omega)]
 by_cases h : ∃ c, Cv.right c = true ∧ Cv.text c = s.data.toList
 · obtain ⟨c, hr, ht⟩ := h
   have hp : Cv.parse s.data.toList = (c, true) := by
    unfold Cv.parse
    rw [← ht, Cv.cand_text hr, if_pos ⟨hr, rfl⟩]
   rw [hp]
   have hK : 1 ≤ c.Kind ∧ c.Kind ≤ 7 := by
    rcases Cv.right_cases hr with ⟨hk, -⟩ | ⟨hk, -⟩ | ⟨hk, -⟩ <;> omega
   obtain ⟨q1, q2, q3⟩ := first_p c.Kind hK.1 hK.2
   have htx : s.data.toList = Cv.first c.Kind ++ 32 :: Cv.body c := by rw [← ht]; unfold Cv.text; rw [if_pos hr]
   have key : ∀ (m : Nat) (v : Int), 1 ≤ v → v ≤ c.Kind → 8 < m + v → r27_Parse_l1 N s m v = some (c, true) := by
    intro m
    induction m with
    | zero => intro v h1 h2 h3; omega
    | succ m ih =>
      intro v h1 h2 h3
      obtain ⟨p1, p2, p3⟩ := first_p v h1 (by omega)
      rw [round_p hN hT hs m v h1 (by omega)]
      by_cases e : v = c.Kind
      · subst e
        have e1 : s.data.toList.take ((Cv.first c.Kind).length + 1) = Cv.first c.Kind ++ [32] := by rw [htx, List.take_append, List.take_of_length_le (by omega)]; simp
        have e2 : s.data.toList.drop ((Cv.first c.Kind).length + 1) = Cv.body c := by rw [htx, List.drop_append]; simp
        obtain ⟨r1, r2⟩ := Cv.rcand_body hr
        rw [if_pos e1, e2, r1, if_neg (fun h => h.2 (r2 h.1)), if_pos ⟨hr, ht⟩]
      · rw [if_neg ?_]
        · exact ih (v + 1) (by omega) (by omega) (by omega)
        · intro e1
          have e2 : s.data.toList = Cv.first v ++ 32 :: s.data.toList.drop ((Cv.first v).length + 1) := by
           conv => lhs; rw [← List.take_append_drop ((Cv.first v).length + 1) s.data.toList, e1]
           simp
          have c1 := Cv.cut_at (Cv.first c.Kind) (Cv.body c) (Cv.first_no _)
          have c2 := Cv.cut_at (Cv.first v) (s.data.toList.drop ((Cv.first v).length + 1)) (Cv.first_no _)
          rw [← htx] at c1
          rw [← e2, c1] at c2
          have c3 : Cv.first c.Kind = Cv.first v := congrArg Prod.fst c2
          rw [c3, p3] at q3
          exact e q3
   exact key N 1 (by omega) hK.1 (by omega)
 · have hp : Cv.parse s.data.toList = (⟨0, 0, [], []⟩, false) := by
    unfold Cv.parse
    rw [if_neg fun g => h ⟨_, g⟩]
   rw [hp]
   have key : ∀ (m : Nat) (v : Int), 1 ≤ v → v ≤ 8 → 8 < m + v → r27_Parse_l1 N s m v = some (⟨0, 0, [], []⟩, false) := by
    intro m
    induction m with
    | zero => intro v h1 h2 h3; omega
    | succ m ih =>
      intro v h1 h2 h3
      by_cases e8 : v = 8
      · subst e8
        rw [r27_Parse_l1, cm_leq, cond_dec, if_neg (by omega)]
      · have hn := ih (v + 1) (by omega) (by omega) (by omega)
        rw [round_p hN hT hs m v h1 (by omega), hn]
        split
        · split
          · rfl
          · rw [if_neg fun g => h ⟨_, g⟩]
        · rfl
   exact key N 1 (by omega) (by omega) (by omega)
end
end Pl
end Go.Proofs.YtagppjldegblhaaGreatDoor
namespace Go.Proofs.YtagppjldegblhaaGreatDoor
open Go Go.RowKit
open Sh Gn
namespace Pl
theorem sametexts_from (a b : List ByteArray) (hl : a.length = b.length) (ha : a.length ≤ 100000) : ∀ (m k : Nat), k ≤ a.length → a.length < k + m → porterbase_SameTexts_l1 a b m k = some (decide (a.drop k = b.drop k)) := by
 intro m
 induction m with
 | zero => intro k h1 h2; omega
 | succ m ih =>
   intro k h1 h2
   rw [porterbase_SameTexts_l1, cm_lss, cond_dec, ll_eq]
   by_cases c : k < a.length
   · have d : k < b.length := by omega
     rw [if_pos (by omega), at_get c, Option.bind_some, at_get d, Option.bind_some, sc_neq, cond_not, cond_dec, inc1 (by omega), List.drop_eq_getElem_cons c, List.drop_eq_getElem_cons d]
     by_cases g : a[k] = b[k]
     · rw [if_pos g, ih (k + 1) (by omega) (by omega)]
       congr 1
       exact decide_eq_decide.2 ⟨fun h => by rw [g, h], fun h => by injection h⟩
     · rw [if_neg g, decide_eq_false fun h => g (by injection h)]
   · rw [if_neg (by omega), List.drop_of_length_le (by omega), List.drop_of_length_le (by omega), decide_eq_true rfl]
theorem sametexts_p {N : Nat} (hN : 100000 < N) (a b : List ByteArray) (ha : a.length ≤ 100000) : porterbase_SameTexts_g N a b = some (decide (a = b)) := by
 unfold porterbase_SameTexts_g
 rw [cm_neq, cond_not, cond_dec, ll_eq, ll_eq]
 by_cases h : a.length = b.length
 · rw [if_pos (by omega)]
   exact sametexts_from a b h ha N 0 (by omega) (by omega)
 · rw [if_neg (by omega), decide_eq_false fun e => h (by rw [e])]
theorem samesel2_from (a b : List GMatcher) (hl : a.length = b.length) (ha : a.length ≤ 100000) : ∀ (m k : Nat), k ≤ a.length → a.length < k + m → ∃ v, porterbase_SameSel_l1 a b m k = some v ∧ (v = true ↔ a.drop k = b.drop k) := by
 intro m
 induction m with
 | zero => intro k h1 h2; omega
 | succ m ih =>
   intro k h1 h2
   rw [porterbase_SameSel_l1, cm_lss, cond_dec, ll_eq]
   by_cases c : k < a.length
   · have d : k < b.length := by omega
     rw [if_pos (by omega), at_get c, Option.bind_some, at_get d, Option.bind_some, conj3, cond_not, inc1 (by omega), List.drop_eq_getElem_cons c, List.drop_eq_getElem_cons d, sc_eql, sc_eql, cm_eql]
     generalize a[k] = x at *
     generalize b[k] = y at *
     obtain ⟨n1, o1, v1⟩ := x
     obtain ⟨n2, o2, v2⟩ := y
     by_cases g : n1 = n2 ∧ o1 = o2 ∧ v1 = v2
     · obtain ⟨rfl, rfl, rfl⟩ := g
       obtain ⟨v, h3, h4⟩ := ih (k + 1) (by omega) (by omega)
       simp only [decide_true, Bool.and_self, _root_.cond_true]
       exact ⟨v, h3, by rw [h4]; exact ⟨fun h => by rw [h], fun h => by injection h⟩⟩
     · have e : (decide (n1 = n2) && (decide (o1 = o2) && decide (v1 = v2))) = false := by
        rw [Bool.eq_false_iff]
        intro h
        simp only [Bool.and_eq_true, decide_eq_true_eq] at h
        exact g h
       simp only [e, cond_false]
       exact ⟨false, rfl, ⟨fun h => (by cases h), fun h => by
        injection h with h1 h2
        injection h1 with e1 e2 e3
        exact absurd ⟨e1, e2, e3⟩ g⟩⟩
   · rw [if_neg (by omega), List.drop_of_length_le (by omega), List.drop_of_length_le (by omega)]
     exact ⟨true, rfl, ⟨fun _ => rfl, fun _ => rfl⟩⟩
theorem samesel2_p {N : Nat} (hN : 100000 < N) (a b : List GMatcher) (ha : a.length ≤ 100000) : ∃ v, porterbase_SameSel_g N a b = some v ∧ (v = true ↔ a = b) := by
 unfold porterbase_SameSel_g
 rw [cm_neq, cond_not, cond_dec, ll_eq, ll_eq]
 by_cases h : a.length = b.length
 · rw [if_pos (by omega)]
   exact samesel2_from a b h ha N 0 (by omega) (by omega)
 · rw [if_neg (by omega)]
   exact ⟨false, rfl, ⟨fun h => (by cases h), fun e => absurd (by rw [e]) h⟩⟩
theorem samecav_p {N : Nat} (hN : 100000 < N) (a b : GCaveat) (h1 : a.Words.length ≤ 100000) (h2 : a.Sel.length ≤ 100000) : ∃ v, porterbase_SameCaveat_g N a b = some v ∧ (v = true ↔ a = b) := by
 unfold porterbase_SameCaveat_g
 rw [cm_eql, cm_eql, cond_dec, cond_dec, sametexts_p hN _ _ h1]
 obtain ⟨v, h3, h4⟩ := samesel2_p hN a.Sel b.Sel h2
 rw [h3]
 obtain ⟨k1, n1, w1, s1⟩ := a
 obtain ⟨k2, n2, w2, s2⟩ := b
 dsimp only at *
 by_cases c1 : k1 = k2
 · by_cases c2 : n1 = n2
   · by_cases c3 : w1 = w2
     · rw [if_pos c1, if_pos c2, decide_eq_true c3]
       exact ⟨v, rfl, by rw [h4]; exact ⟨fun h => by rw [c1, c2, c3, h], fun h => by injection h⟩⟩
     · rw [if_pos c1, if_pos c2, decide_eq_false c3]
       exact ⟨false, rfl, ⟨fun h => (by cases h), fun h => absurd (by injection h) c3⟩⟩
   · rw [if_pos c1, if_neg c2]
     exact ⟨false, rfl, ⟨fun h => (by cases h), fun h => absurd (by injection h) c2⟩⟩
 · rw [if_neg c1]
   exact ⟨false, rfl, ⟨fun h => (by cases h), fun h => absurd (by injection h) c1⟩⟩
theorem samecav_self {N : Nat} (hN : 100000 < N) (a : GCaveat) (h1 : a.Words.length ≤ 100000) (h2 : a.Sel.length ≤ 100000) : porterbase_SameCaveat_g N a a = some true := by
 obtain ⟨v, h3, h4⟩ := samecav_p hN a a h1 h2
 rw [h3, h4.2 rfl]
section
variable {N : Nat} (hN : 200000 ≤ N) (hT : ∀ g : GMatcher, g.Value.size ≤ 1200 → g.Name.size ≤ 100 → matcher_Text_g N g = some (Mt.ofL (Mt.text (toM g))) ∧ r22_Text_g N g = some (Mt.ofL (Mt.text (toM g))) ∧ (Mt.text (toM g)).length ≤ 6000) (hW : l27_works_g N = some true)
include hN hT
omit hN in
theorem parse_mid {s : List UInt8} (hs : s.length ≤ 900) : Mid N (Cv.parse s).1 := by
 unfold Cv.parse
 split
 · exact mid_cand hT hs
 · exact ⟨by simp, by simp, fun x hx => by cases hx⟩
include hW
theorem reads27_g (s : ByteArray) : l27_CaveatReads_g N s = some true := by
 unfold l27_CaveatReads_g
 rw [cm_gtr, cm_gtr, cm_leq, cond_dec, cond_dec, sl_eq, hW]
 by_cases c1 : (400 : Int) < (s.size : Int)
 · rw [if_pos c1]
   by_cases c2 : (s.size : Int) ≤ 2048
   · rw [if_pos c2]; rfl
   · rw [if_neg c2]
     by_cases c3 : (2200 : Int) < (s.size : Int)
     · rw [decide_eq_true c3]; rfl
     · rw [decide_eq_false c3]
       have e1 : caveat_Parse_g N s = some (⟨0, 0, [], []⟩, false) := by unfold caveat_Parse_g; rw [cm_gtr, cond_dec, sl_eq, if_pos (by omega)]
       have e2 : r27_Parse_g N s = some (⟨0, 0, [], []⟩, false) := by unfold r27_Parse_g; rw [cm_gtr, cond_dec, sl_eq, if_pos (by omega)]
       rw [e1, e2]
       simp only [Option.bind_some, cond_false]
       rw [samecav_self (by omega) _ (by simp) (by simp)]
       rfl
 · rw [if_neg c1, decide_eq_false (by omega : ¬ (2200 : Int) < (s.size : Int)), cparse_p hN hT (by omega), rparse_p hN hT (by omega)]
   simp only [Option.bind_some, cond_false]
   have hm := parse_mid hT (s := s.data.toList) (by rw [size_list]; omega)
   have b2 : ∀ b : Bool, conj [b == b] = true := fun b => by cases b <;> rfl
   rw [samecav_self (by omega) _ (by have := hm.words; omega) (by have := hm.sel; omega)]
   simp only [Option.bind_some, _root_.cond_true, b2]
end
end Pl
end Go.Proofs.YtagppjldegblhaaGreatDoor
namespace Go.Proofs.YtagppjldegblhaaGreatDoor
open Go Go.RowKit
open Ab Sh
namespace Gn
theorem porterbase_SameTexts_w {N : Nat} {p0 : List ByteArray} {p1 : List ByteArray} {r : Bool} (h : porterbase_SameTexts_g N p0 p1 = some r) : FunS Tryz.prog 43 [.t (.slc (rw _ cS p0)), .t (.slc (rw _ cS p1))] (porterbase_SameTexts_s rw) r := by
 refine fun_w lay_ok Tryz.call43 Tryz.func43 rfl ?_
 intro A W E Q R hE hR hf hQ; rcases W with ⟨ar, cm, conj, cv, sl, sc, ct, sa, ss, ll, _, _, _, _, mi, mx, _, _, _⟩
 rw [← hR]
 unfold porterbase_SameTexts_g at h
 rw [q_cm hE, q_ll hE, ← hR] at h
 cbv
 refine L_if hE h (fun h => ?_) (fun h => ?_) <;> cbv
 · exact And.left (hQ _ _ _ rfl rfl (by cases h; subst hR; rfl))
 refine L_for hE lay_ok 0 (fun g : Int × Nat => [(4, fB false), (5, fI .i64 g.1)]) (fun g => []) (fun g => porterbase_SameTexts_l1 p0 p1 g.2 g.1 = some r) (fun g => g.2) (_, N) h ?_ ?_
 · (cbv; (try simp only [e_rnil hR]); repeat' (first | exact trivial | exact rfl | exact Or.inr trivial | apply And.intro))
 rintro ⟨v1, m1⟩ h Q1 hN1 hT1 hX1
 have h : porterbase_SameTexts_l1 p0 p1 m1 v1 = some r := h
 cases m1 with
 | zero => exact nomatch (show (none : Option _) = some _ from h)
 | succ m1 =>
 rw [porterbase_SameTexts_l1] at h
 rw [q_ar hE, q_cm hE, q_sc hE, q_ll hE, ← hR] at h
 cbv
 refine L_if hE h (fun h => ?_) (fun h => ?_) <;> cbv
 · refine L_whole hE lay_ok (by kernel_rfl) (by kernel_rfl) ?_; cbv
   refine L_row hE hR h fun r2 h => ?_; cbv
   refine L_row hE hR h fun r3 h => ?_; cbv
   refine L_if hE h (fun h => ?_) (fun h => ?_) <;> cbv
   · refine hT1 _ ?_
     exact And.left (hQ _ _ _ rfl rfl (by cases h; subst hR; rfl))
   refine hN1 _ (_, m1) [] h (Nat.lt_succ_self _) trivial ?_; (cbv; (try simp only [e_rnil hR]); repeat' (first | exact trivial | exact rfl | exact Or.inr trivial | apply And.intro))
 refine hX1 _ _ ?_; cbv
 exact And.left (hQ _ _ _ rfl rfl (by cases h; subst hR; rfl))
theorem porterbase_SameSel_w {N : Nat} {p0 : List GMatcher} {p1 : List GMatcher} {r : Bool} (h : porterbase_SameSel_g N p0 p1 = some r) : FunS Tryz.prog 44 [.t (.slc (rw _ cMatcher p0)), .t (.slc (rw _ cMatcher p1))] (porterbase_SameSel_s rw) r := by
 refine fun_w lay_ok Tryz.call44 Tryz.func44 rfl ?_
 intro A W E Q R hE hR hf hQ; rcases W with ⟨ar, cm, conj, cv, sl, sc, ct, sa, ss, ll, _, _, _, _, mi, mx, _, _, _⟩
 rw [← hR]
 unfold porterbase_SameSel_g at h
 rw [q_cm hE, q_ll hE, ← hR] at h
 cbv
 refine L_if hE h (fun h => ?_) (fun h => ?_) <;> cbv
 · exact And.left (hQ _ _ _ rfl rfl (by cases h; subst hR; rfl))
 refine L_for hE lay_ok 0 (fun g : Int × Nat => [(4, fB false), (5, fI .i64 g.1)]) (fun g => []) (fun g => porterbase_SameSel_l1 p0 p1 g.2 g.1 = some r) (fun g => g.2) (_, N) h ?_ ?_
 · (cbv; (try simp only [e_rnil hR]); repeat' (first | exact trivial | exact rfl | exact Or.inr trivial | apply And.intro))
 rintro ⟨v1, m1⟩ h Q1 hN1 hT1 hX1
 have h : porterbase_SameSel_l1 p0 p1 m1 v1 = some r := h
 cases m1 with
 | zero => exact nomatch (show (none : Option _) = some _ from h)
 | succ m1 =>
 rw [porterbase_SameSel_l1] at h
 rw [q_ar hE, q_cm hE, q_conj hE, q_sc hE, q_ll hE, ← hR] at h
 cbv
 refine L_if hE h (fun h => ?_) (fun h => ?_) <;> cbv
 · refine L_whole hE lay_ok (by kernel_rfl) (by kernel_rfl) ?_; cbv
   refine L_row hE hR h fun r2 h => ?_; cbv
   refine L_row hE hR h fun r3 h => ?_; cbv
   refine L_if hE h (fun h => ?_) (fun h => ?_) <;> cbv
   · refine hT1 _ ?_
     exact And.left (hQ _ _ _ rfl rfl (by cases h; subst hR; rfl))
   refine hN1 _ (_, m1) [] h (Nat.lt_succ_self _) trivial ?_; (cbv; (try simp only [e_rnil hR]); repeat' (first | exact trivial | exact rfl | exact Or.inr trivial | apply And.intro))
 refine hX1 _ _ ?_; cbv
 exact And.left (hQ _ _ _ rfl rfl (by cases h; subst hR; rfl))
theorem porterbase_SameCaveat_w {N : Nat} {p0 : GCaveat} {p1 : GCaveat} {r : Bool} (h : porterbase_SameCaveat_g N p0 p1 = some r) : FunS Tryz.prog 16 [.agg [fI .i64 p0.Kind, fI .i64 p0.Num, .t (.slc (rw _ cS p0.Words)), .t (.slc (rw _ cMatcher p0.Sel))], .agg [fI .i64 p1.Kind, fI .i64 p1.Num, .t (.slc (rw _ cS p1.Words)), .t (.slc (rw _ cMatcher p1.Sel))]] (porterbase_SameCaveat_s rw) r := by
 refine fun_w lay_ok Tryz.call16 Tryz.func16 rfl ?_
 intro A W E Q R hE hR hf hQ; rcases W with ⟨ar, cm, conj, cv, sl, sc, ct, sa, ss, ll, _, _, _, _, mi, mx, _, _, _⟩
 rw [← hR]
 unfold porterbase_SameCaveat_g at h
 rw [q_cm hE] at h
 cbv
 refine L_rgJ hE lay_ok h 2 (fun j1 : Bool => [(4, fB j1)]) (fun j1 => []) (fun j1 h => ?_) (fun j1 h => ?_) <;> cbv
 · refine L_if hE h (fun h => ?_) (fun h => ?_) <;> cbv
   · refine L_if hE h (fun h => ?_) (fun h => ?_) <;> cbv
     · refine L_call hE hR h (fun _ e => porterbase_SameTexts_w e) (by subst hR; rfl) rfl fun a1 h => ?_; cbv
       refine L_if hE h (fun h => ?_) (fun h => ?_) <;> cbv
       · refine L_call hE hR h (fun _ e => porterbase_SameSel_w e) (by subst hR; rfl) rfl fun a2 h => ?_; cbv
         cases h; (cbv; (try simp only [e_rnil hR]); repeat' (first | exact trivial | exact rfl | exact Or.inr trivial | apply And.intro))
       cases h; (cbv; (try simp only [e_rnil hR]); repeat' (first | exact trivial | exact rfl | exact Or.inr trivial | apply And.intro))
     cases h; (cbv; (try simp only [e_rnil hR]); repeat' (first | exact trivial | exact rfl | exact Or.inr trivial | apply And.intro))
   cases h; (cbv; (try simp only [e_rnil hR]); repeat' (first | exact trivial | exact rfl | exact Or.inr trivial | apply And.intro))
 exact And.left (hQ _ _ _ rfl rfl (by cases h; subst hR; rfl))
end Gn
end Go.Proofs.YtagppjldegblhaaGreatDoor
