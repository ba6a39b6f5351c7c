/- Texts that the proof leans on. -/
import Derived.Test.YtagppjldegblhaaGreatDoorK231
set_option linter.unusedVariables false
set_option linter.unusedSimpArgs false
set_option maxRecDepth 100000
set_option maxHeartbeats 4000000
namespace Go.Proofs.YtagppjldegblhaaGreatDoor
open Go Go.RowKit
open Sh Gn
namespace Pl
structure Mid (N : Nat) (c : GCaveat) : Prop where
 words : c.Words.length ≤ 1000
 sel : c.Sel.length ≤ 70
 text : ∀ x ∈ c.Sel, (matcher_Text_g N x = some (Mt.ofL (Mt.text (toM x))) ∧ (Mt.text (toM x)).length ≤ 6000) ∧ r22_Text_g N x = some (Mt.ofL (Mt.text (toM x)))
theorem tl_len (l : List Mt.M) (h : ∀ m ∈ l, (Mt.text m).length ≤ 6000) : (Sl.tl l).length ≤ l.length * 6002 := by
 induction l with
 | nil => simp [Sl.tl]
 | cons a r ih =>
   have h1 := h a (by simp)
   have h2 := ih fun m hm => h m (by simp [hm])
   rw [Sl.tl]
   simp only [List.length_cons, List.length_append]
   omega
theorem seltext_len {N : Nat} {c : GCaveat} (h : Mid N c) : (Sl.text (toMs c.Sel)).length ≤ 500000 := by
 have hl : (toMs c.Sel).length = c.Sel.length := by unfold toMs; rw [List.length_map]
 have h6 : ∀ m ∈ toMs c.Sel, (Mt.text m).length ≤ 6000 := fun m hm => by
  unfold toMs at hm
  obtain ⟨x, hx, rfl⟩ := List.mem_map.1 hm
  exact (h.text x hx).1.2
 have hs := h.sel
 unfold Sl.text
 generalize toMs c.Sel = l at *
 cases l with
 | nil => simp [Sl.body]
 | cons a r =>
   have h1 := h6 a (by simp)
   have h2 := tl_len r fun m hm => h6 m (by simp [hm])
   rw [Sl.body]
   simp only [List.length_cons, List.length_append, List.length_nil] at *
   omega
section
variable {N : Nat} {c : GCaveat}
theorem seltext_p (hN : 100000 < N) (h : Mid N c) : selector_Text_g N c.Sel = some (Mt.ofL (Sl.text (toMs c.Sel))) := stext_p (by omega) c.Sel h.sel fun x hx => (h.text x hx).1
theorem rseltext_p (hN : 100000 < N) (h : Mid N c) : r23_Text_g N c.Sel = some (Mt.ofL (Sl.text (toMs c.Sel))) := rstext_p (by omega) c.Sel h.sel fun x hx => ⟨(h.text x hx).2, (h.text x hx).1.2⟩
theorem kinds7 : at_ T_kinds 7 = some (ByteArray.mk #[109, 97, 116, 99, 104]) := rfl
theorem cright_p (hN : 100000 < N) (h : Mid N c) : caveat_Right_g N c = some (Cv.right c) := by
 have hw := h.words
 have hs := sright_p (N := N) (by omega) c.Sel
 have ht := seltext_p hN h
 have hlen := seltext_len h
 have ho := once_p hN c.Words (by omega)
 have hd := dos_from c (by omega) N 0 (by omega) (by omega)
 have hd : caveat_Right_l3 c N 0 = some (c.Words.all good) := by rw [List.drop_zero] at hd; exact hd
 unfold caveat_Right_g Cv.right
 rw [hs, ht, ho, hd]
 simp only [cm_eql, cm_neq, cm_gtr, cm_geq, cm_leq, cond_not, cond_dec, ll_eq, kinds7, Option.bind_some]
 obtain ⟨K, Num, Ws, Sel⟩ := c
 dsimp only at *
 generalize Sl.right (toMs Sel) = sr at *
 have e16 := once_dos Ws
 have gd : (Ws.all fun w => !decide (Cv.doW w = 0)) = Ws.all good := rfl
 rw [gd]
 by_cases k7 : K = 7
 · subst k7
   by_cases hn : Num = 0
   · by_cases hW : Ws.length = 0
     · have hW' : (Ws.length : Int) = 0 := by omega
       by_cases hr : sr.1 = 0
       · have e : ar .add .i64 (ar .add .i64 (sl (ByteArray.mk #[109, 97, 116, 99, 104])) 1) (sl (Mt.ofL (Sl.text (toMs Sel)))) = 6 + ((Sl.text (toMs Sel)).length : Int) := by
          have e1 : sl (ByteArray.mk #[109, 97, 116, 99, 104]) = 5 := rfl
          rw [e1, show ar .add .i64 (5 : Int) 1 = 6 from rfl, sl_eq, ofL_size, ar_add (by omega) (by omega)]
         rw [e]
         have d : (6 + ((Sl.text (toMs Sel)).length : Int) ≤ 2048) ↔ (Sl.text (toMs Sel)).length ≤ 2042 := by omega
         simp [hn, hW, hW', hr, d]
       · simp [hn, hW, hW', hr]
     · have hW' : ¬ (Ws.length : Int) = 0 := by omega
       have hW2 : ¬ Ws = [] := fun e => hW (by rw [e]; rfl)
       simp [hn, hW, hW', hW2]
   · simp [hn]
 by_cases hS : Sel.length = 0
 · have hS' : ¬ (0 : Int) < (Sel.length : Int) := by omega
   by_cases hn : Num = 0
   · subst hn
     by_cases k1 : K = 1
     · subst k1
       by_cases hw1 : Ws.length = 1
       · have : Cv.once Ws 16 = Cv.once Ws 1 := by
          rw [once_val, once_val]
          exact decide_eq_decide.2 ⟨fun h => ⟨h.1, by omega, h.2.2⟩, fun h => ⟨h.1, by omega, h.2.2⟩⟩
         have hw1' : (Ws.length : Int) = 1 := by omega
         simp [hS, hw1', this]
       · have : Cv.once Ws 1 = false := by rw [once_val]; exact decide_eq_false fun h => by omega
         have hw1' : ¬ (Ws.length : Int) = 1 := by omega
         simp [hS, hw1', this]
     by_cases k2 : K = 2
     · subst k2; simp [hS]
     by_cases k3 : K = 3
     · subst k3; simp [hS]
     by_cases k4 : K = 4
     · subst k4
       simp only [hS]
       cases ho16 : Cv.once Ws 16 with
       | false => rw [ho16] at e16; simp [← e16]
       | true => rw [ho16] at e16; simp [← e16]
     by_cases k5 : K = 5
     · subst k5
       by_cases hW : Ws.length = 0
       · have hW' : (Ws.length : Int) = 0 := by omega
         simp [hS, hW, hW']
       · have hW' : ¬ (Ws.length : Int) = 0 := by omega
         simp [hS, hW, hW']
     by_cases k6 : K = 6
     · subst k6
       by_cases hW : Ws.length = 0
       · have hW' : (Ws.length : Int) = 0 := by omega
         simp [hS, hW, hW']
       · have hW' : ¬ (Ws.length : Int) = 0 := by omega
         simp [hS, hW, hW']
     simp [k1, k2, k3, k4, k5, k6, k7, hS]
   · by_cases k5 : K = 5
     · subst k5
       by_cases hW : Ws.length = 0
       · have hW' : (Ws.length : Int) = 0 := by omega
         by_cases a : 0 ≤ Num <;> simp [hS, hW, hW', a]
       · have hW' : ¬ (Ws.length : Int) = 0 := by omega
         simp [hS, hW, hW']
     by_cases k6 : K = 6
     · subst k6
       by_cases hW : Ws.length = 0
       · have hW' : (Ws.length : Int) = 0 := by omega
         by_cases a : 0 ≤ Num <;> simp [hS, hW, hW', a]
       · have hW' : ¬ (Ws.length : Int) = 0 := by omega
         simp [hS, hW, hW']
     simp [k5, k6, k7, hS, hn]
 · have hS' : 0 < Sel.length := by omega
   simp [k7, hS, hS']
theorem rcright_p (hN : 100000 < N) (h : Mid N c) : r27_Right_g N c = some (Cv.right c) := by
 have hw := h.words
 have hs := rsright_p (N := N) (by omega) c.Sel
 have ht := rseltext_p hN h
 have hlen := seltext_len h
 have o1 := ronce_p hN c.Words (by omega) 1
 have o16 := ronce_p hN c.Words (by omega) 16
 have hd := rdos_from hN c (by omega) N 0 (by omega) (by omega)
 have hd : r27_Right_l1 N c N 0 = some (c.Words.all good && Cv.once c.Words 2) := by rw [List.drop_zero] at hd; exact hd
 have o1 : r27_once_g N c.Words 1 = _ := o1
 have o16 : r27_once_g N c.Words 16 = _ := o16
 unfold r27_Right_g Cv.right
 rw [hs, ht, o1, o16, hd]
 simp only [cm_eql, cm_neq, cm_gtr, cm_geq, cm_leq, cm_lss, cond_not, cond_dec, ll_eq, Option.bind_some, sl_eq, ofL_size]
 obtain ⟨K, Num, Ws, Sel⟩ := c
 dsimp only at *
 generalize Sl.right (toMs Sel) = sr at *
 generalize (Sl.text (toMs Sel)).length = n at *
 have gd : (Ws.all fun w => !decide (Cv.doW w = 0)) = Ws.all good := rfl
 rw [gd]
 by_cases k7 : K = 7
 · subst k7
   by_cases hn : Num = 0
   · by_cases hW : Ws.length = 0
     · have hW' : (Ws.length : Int) = 0 := by omega
       by_cases hr : sr.1 = 0
       · have d : ((n : Int) ≤ 2042) ↔ n ≤ 2042 := by omega
         simp [hn, hW, hW', hr, d]
       · simp [hn, hW, hW', hr]
     · have hW' : 0 < Ws.length := by omega
       have hW2 : ¬ Ws = [] := fun e => hW (by rw [e]; rfl)
       simp [hn, hW, hW', hW2]
   · by_cases hW : Ws.length = 0
     · have hW' : ¬ 0 < Ws.length := by omega
       simp [hn, hW, hW']
     · have hW' : 0 < Ws.length := by omega
       simp [hn, hW, hW']
 by_cases k5 : K = 5
 · subst k5
   by_cases hS : Sel.length = 0
   · by_cases hW : Ws.length = 0
     · by_cases a : 0 ≤ Num <;> simp [hS, hW, a]
     · have hW' : 0 < Ws.length := by omega
       have hW2 : ¬ Ws = [] := fun e => hW (by rw [e]; rfl)
       simp [hS, hW, hW', hW2]
   · have hS' : 0 < Sel.length := by omega
     simp [hS, hS']
 by_cases k6 : K = 6
 · subst k6
   by_cases hS : Sel.length = 0
   · by_cases hW : Ws.length = 0
     · by_cases a : 0 ≤ Num <;> simp [hS, hW, a]
     · have hW' : 0 < Ws.length := by omega
       have hW2 : ¬ Ws = [] := fun e => hW (by rw [e]; rfl)
       simp [hS, hW, hW', hW2]
   · have hS' : 0 < Sel.length := by omega
     simp [hS, hS']
 by_cases k1 : K = 1
 · subst k1
   by_cases hS : Sel.length = 0
   · by_cases hn : Num = 0 <;> simp [hS, hn]
   · have hS' : 0 < Sel.length := by omega
     simp [hS, hS']
 by_cases k2 : K = 2
 · subst k2
   by_cases hS : Sel.length = 0
   · by_cases hn : Num = 0 <;> simp [hS, hn]
   · have hS' : 0 < Sel.length := by omega
     simp [hS, hS']
 by_cases k3 : K = 3
 · subst k3
   by_cases hS : Sel.length = 0
   · by_cases hn : Num = 0 <;> simp [hS, hn]
   · have hS' : 0 < Sel.length := by omega
     simp [hS, hS']
 by_cases k4 : K = 4
 · subst k4
   by_cases hS : Sel.length = 0
   · by_cases hn : Num = 0 <;> simp [hS, hn, Bool.and_comm]
   · have hS' : 0 < Sel.length := by omega
     simp [hS, hS']
 · simp only [k1, k2, k3, k4, k5, k6, k7]
   have e : ∀ j : Bool, (cond j (some false) (some false) : Option Bool) = some false := fun j => by cases j <;> rfl
   by_cases a7 : K < 7 <;> by_cases hS : 0 < Sel.length <;> by_cases a4 : 4 < K <;> by_cases hW : 0 < Ws.length <;> by_cases hn : Num = 0 <;> simp [a7, hS, a4, hW, hn]
end
end Pl
end Go.Proofs.YtagppjldegblhaaGreatDoor
namespace Go.Proofs.YtagppjldegblhaaGreatDoor
open Go Go.RowKit
open Sh Gn
namespace Pl
theorem cat3 (f b : List UInt8) (h : f.length + 1 + b.length ≤ 1000000000) : cond (ctB (Mt.ofL f) (ByteArray.mk #[32])) (cond (ctB (ct (Mt.ofL f) (ByteArray.mk #[32])) (Mt.ofL b)) (some (ct (ct (Mt.ofL f) (ByteArray.mk #[32])) (Mt.ofL b))) none) none = some (Mt.ofL (f ++ 32 :: b)) := by
 show cond (ctB (Mt.ofL f) (Mt.ofL [32])) (cond (ctB (ct (Mt.ofL f) (Mt.ofL [32])) (Mt.ofL b)) (some (ct (ct (Mt.ofL f) (Mt.ofL [32])) (Mt.ofL b))) none) none = _
 rw [ofL_ctB (by simp; omega), ofL_ct, ofL_ctB (by simp; omega), ofL_ct]
 simp
theorem wrd_len {w : ByteArray} (h : wrd w = true) : w.size ≤ 32 := by
 rw [wrd_eq] at h
 exact (of_decide_eq_true h).2.1
theorem sum_words (l : List ByteArray) (h : ∀ w ∈ l, wrd w = true) : ((Cv.words l).map List.length).sum ≤ 32 * l.length := by
 unfold Cv.words
 induction l with
 | nil => simp
 | cons a r ih =>
   have h1 := wrd_len (h a (by simp))
   have h2 := ih fun w hw => h w (by simp [hw])
   simp only [List.map_cons, List.sum_cons, List.length_cons, size_list]
   omega
theorem join_len (l : List ByteArray) (h : ∀ w ∈ l, wrd w = true) : (Lib.join (Cv.words l) [32]).length ≤ 33 * l.length := by
 have h1 := Nm.join_total (Cv.words l)
 have h2 := sum_words l h
 have h3 : (Cv.words l).length = l.length := by unfold Cv.words; rw [List.length_map]
 omega
theorem wjoin_p (l : List ByteArray) (h : ∀ w ∈ l, wrd w = true) (hl : l.length ≤ 1000) : name_Join_g l = some (Mt.ofL (Lib.join (Cv.words l) [32])) := by
 have := join_len l h
 unfold name_Join_g strings_Join_g
 rw [if_pos ⟨by omega, by show (Lib.join (Cv.words l) [32]).length ≤ _; omega⟩]
 rfl
theorem rwjoin_from (l : List ByteArray) (h : ∀ w ∈ l, wrd w = true) (hl : l.length ≤ 1000) : ∀ (m k : Nat), k ≤ l.length → l.length < k + m → (Nm.joinTo (Cv.words l) k).length ≤ 33 * k → r09_Join_l1 l m (Mt.ofL (Nm.joinTo (Cv.words l) k)) k = some (Mt.ofL (Lib.join (Cv.words l) [32])) := by
 intro m
 have hwl : (Cv.words l).length = l.length := by unfold Cv.words; rw [List.length_map]
 induction m with
 | zero => intro k h1 h2; omega
 | succ m ih =>
   intro k h1 h2 h3
   rw [r09_Join_l1]
   simp only [cm_lss, cm_gtr, cond_dec, ll_eq]
   by_cases c : k < l.length
   · have hk : k < (Cv.words l).length := by omega
     have hg : (Cv.words l)[k] = l[k].data.toList := by simp [Cv.words]
     have hz := wrd_len (h _ (List.getElem_mem c))
     have hs := size_list l[k]
     have hj := Nm.joinTo_succ (Cv.words l) k hk
     rw [hg] at hj
     have ew : l[k] = Mt.ofL l[k].data.toList := (Mt.ofL_self _).symm
     rw [if_pos (by omega), at_get c, inc1 (by omega)]
     by_cases z : k = 0
     · subst z
       have e0 : Nm.joinTo (Cv.words l) 0 = [] := by unfold Nm.joinTo; simp [Lib.join]
       rw [if_pos rfl] at hj
       rw [if_neg (by omega), e0]
       simp only [Option.bind_some]
       rw [ew, ofL_ctB (by simp only [List.length_nil]; omega), ofL_ct, List.nil_append, ← hj]
       exact ih 1 (by omega) (by omega) (by rw [hj]; omega)
     · rw [if_neg z] at hj
       rw [if_pos (by omega)]
       rw [show ByteArray.mk #[32] = Mt.ofL [32] from rfl, ofL_ctB (by simp; omega), _root_.cond_true, ofL_ct]
       simp only [Option.bind_some]
       rw [ew, ofL_ctB (by simp; omega), _root_.cond_true, ofL_ct, ← hj]
       exact ih (k + 1) (by omega) (by omega) (by rw [hj]; simp; omega)
   · rw [if_neg (by omega)]
     unfold Nm.joinTo
     rw [List.take_of_length_le (by omega)]
theorem rwjoin_p {N : Nat} (hN : 100000 < N) (l : List ByteArray) (h : ∀ w ∈ l, wrd w = true) (hl : l.length ≤ 1000) : r09_Join_g N l = some (Mt.ofL (Lib.join (Cv.words l) [32])) := by
 have := rwjoin_from l h hl N 0 (by omega) (by omega) (by unfold Nm.joinTo; simp [Lib.join])
 exact this
theorem dig_one : ∀ p : Fin 10, ssinB (ByteArray.mk #[48, 49, 50, 51, 52, 53, 54, 55, 56, 57]) (p.val : Int) (ar .add .i64 (p.val : Int) 1) = true ∧ ss (ByteArray.mk #[48, 49, 50, 51, 52, 53, 54, 55, 56, 57]) (p.val : Int) (ar .add .i64 (p.val : Int) 1) = Mt.ofL [UInt8.ofNat (48 + p.val)] := by decide
theorem quo10 (u : Nat) (h : u ≤ 9000000000000000000) : ar .quo .i64 (u : Int) 10 = ((u / 10 : Nat) : Int) := by
 show IntKind.i64.wrap (Int.tdiv (u : Int) 10) = _
 have : Int.tdiv (u : Int) 10 = ((u / 10 : Nat) : Int) := rfl
 rw [this, IntKind.wrap_i64]
 omega
theorem rem10 (u : Nat) : ar .rem .i64 (u : Int) 10 = ((u % 10 : Nat) : Int) := rfl
theorem rnum_p : ∀ (d N u : Nat), u < 10 ^ (d + 1) → d < N ∧ d ≤ 100 → u ≤ 9000000000000000000 → r27_Number_g N (u : Int) = some (Mt.ofL (Lib.decDigits u)) ∧ (Lib.decDigits u).length ≤ d + 1
 | d, 0, u, _, h, _ => by omega
 | d, N + 1, u, h, hd, hu => by
   have hlen := Cv.dec_len d u h
   refine ⟨?_, hlen⟩
   rw [r27_Number_g]
   dsimp only
   rw [cm_lss, cond_dec]
   by_cases c : u < 10
   · obtain ⟨e1, e2⟩ := dig_one ⟨u, c⟩
     simp only at e1 e2
     rw [if_pos (by omega), e1, e2, Lib.decDigits, dif_pos c]; rfl
   · obtain ⟨e1, e2⟩ := dig_one ⟨u % 10, by omega⟩
     simp only at e1 e2
     cases d with
     | zero => simp at h; omega
     | succ d =>
       obtain ⟨i1, i2⟩ := rnum_p d N (u / 10) (by rw [Nat.pow_succ] at h; omega) (by omega) (by omega)
       rw [if_neg (by omega), quo10 u hu, rem10, i1]
       simp only [Option.bind_some, show ne0B 10 = true from rfl, _root_.cond_true, e1, e2]
       have hd' : Lib.decDigits u = Lib.decDigits (u / 10) ++ [UInt8.ofNat (48 + u % 10)] := by rw [Lib.decDigits, dif_neg c]
       rw [hd'] at hlen ⊢
       rw [ofL_ctB (by simp at hlen ⊢; omega), ofL_ct]; rfl
section
variable {N : Nat} {c : GCaveat}
theorem ctext_p (hN : 100000 < N) (h : Mid N c) : caveat_Text_g N c = some (Mt.ofL (Cv.text c)) := by
 have ht := seltext_p hN h
 have hlen := seltext_len h
 have hr := cright_p hN h
 unfold caveat_Text_g Cv.text
 rw [hr, Option.bind_some]
 cases r : Cv.right c with
 | false => rfl
 | true =>
   rw [Bool.not_true, cond_false, if_pos rfl]
   obtain ⟨K, Num, Ws, Sel⟩ := c
   rcases Cv.right_cases r with ⟨hk, h1, h2, h3, h4, h5, h6⟩ | ⟨hk, h1, h2, h3, h4⟩ | ⟨hk, h1, h2, h3, h4⟩
   · dsimp only at *
     have hj := wjoin_p Ws h6 (by omega)
     have hjl := join_len Ws h6
     rcases hk with rfl | rfl | rfl | rfl
     · rw [show at_ T_kinds 1 = some (Mt.ofL (Cv.first 1)) from rfl]
       simp only [Option.bind_some, hj, cm_eql, cond_dec, Int.reduceEq, decide_false, if_false, cond_false, Cv.body, or_self]
       exact cat3 _ _ (by have : (Cv.first 1).length = 6 := rfl; omega)
     · rw [show at_ T_kinds 2 = some (Mt.ofL (Cv.first 2)) from rfl]
       simp only [Option.bind_some, hj, cm_eql, cond_dec, Int.reduceEq, decide_false, if_false, cond_false, Cv.body, or_self]
       exact cat3 _ _ (by have : (Cv.first 2).length = 8 := rfl; omega)
     · rw [show at_ T_kinds 3 = some (Mt.ofL (Cv.first 3)) from rfl]
       simp only [Option.bind_some, hj, cm_eql, cond_dec, Int.reduceEq, decide_false, if_false, cond_false, Cv.body, or_self]
       exact cat3 _ _ (by have : (Cv.first 3).length = 5 := rfl; omega)
     · rw [show at_ T_kinds 4 = some (Mt.ofL (Cv.first 4)) from rfl]
       simp only [Option.bind_some, hj, cm_eql, cond_dec, Int.reduceEq, decide_false, if_false, cond_false, Cv.body, or_self]
       exact cat3 _ _ (by have : (Cv.first 4).length = 2 := rfl; omega)
   · dsimp only at *
     have hi : strconv_Itoa_g Num = some (Mt.ofL (Lib.itoa Num)) := by unfold strconv_Itoa_g; rw [if_pos (by omega)]; rfl
     have hil : (Lib.itoa Num).length ≤ 13 := by
      unfold Lib.itoa
      rw [if_neg (by omega)]
      exact Cv.dec_len 12 _ (by omega)
     rcases hk with rfl | rfl
     · rw [show at_ T_kinds 5 = some (Mt.ofL (Cv.first 5)) from rfl]
       simp only [Option.bind_some, hi, cm_eql, cond_dec, Int.reduceEq, decide_true, if_true, if_pos, _root_.cond_true, Cv.body, true_or]
       exact cat3 _ _ (by have : (Cv.first 5).length = 6 := rfl; omega)
     · rw [show at_ T_kinds 6 = some (Mt.ofL (Cv.first 6)) from rfl]
       simp only [Option.bind_some, hi, cm_eql, cond_dec, Int.reduceEq, decide_true, decide_false, if_true, if_false, _root_.cond_true, Cv.body, or_true]
       exact cat3 _ _ (by have : (Cv.first 6).length = 5 := rfl; omega)
   · dsimp only at *
     subst hk
     rw [show at_ T_kinds 7 = some (Mt.ofL (Cv.first 7)) from rfl]
     simp only [Option.bind_some, ht, cm_eql, cond_dec, Int.reduceEq, decide_true, decide_false, if_true, if_false, cond_false, Cv.body, or_self]
     exact cat3 _ _ (by have : (Cv.first 7).length = 5 := rfl; omega)
theorem rctext_p (hN : 100000 < N) (h : Mid N c) : r27_Text_g N c = some (Mt.ofL (Cv.text c)) := by
 have ht := rseltext_p hN h
 have hlen := seltext_len h
 have hr := rcright_p hN h
 unfold r27_Text_g Cv.text
 rw [hr, Option.bind_some]
 cases r : Cv.right c with
 | false => rfl
 | true =>
   rw [Bool.not_true, cond_false, if_pos rfl]
   obtain ⟨K, Num, Ws, Sel⟩ := c
   rcases Cv.right_cases r with ⟨hk, h1, h2, h3, h4, h5, h6⟩ | ⟨hk, h1, h2, h3, h4⟩ | ⟨hk, h1, h2, h3, h4⟩
   · dsimp only at *
     have hj := rwjoin_p hN Ws h6 (by omega)
     have hjl := join_len Ws h6
     rcases hk with rfl | rfl | rfl | rfl
     · rw [show r27_First_g 1 = some (Mt.ofL (Cv.first 1)) from rfl]
       simp only [Option.bind_some, hj, cm_eql, cond_dec, Int.reduceEq, decide_false, if_false, cond_false, Cv.body, or_self]
       exact cat3 _ _ (by have : (Cv.first 1).length = 6 := rfl; omega)
     · rw [show r27_First_g 2 = some (Mt.ofL (Cv.first 2)) from rfl]
       simp only [Option.bind_some, hj, cm_eql, cond_dec, Int.reduceEq, decide_false, if_false, cond_false, Cv.body, or_self]
       exact cat3 _ _ (by have : (Cv.first 2).length = 8 := rfl; omega)
     · rw [show r27_First_g 3 = some (Mt.ofL (Cv.first 3)) from rfl]
       simp only [Option.bind_some, hj, cm_eql, cond_dec, Int.reduceEq, decide_false, if_false, cond_false, Cv.body, or_self]
       exact cat3 _ _ (by have : (Cv.first 3).length = 5 := rfl; omega)
     · rw [show r27_First_g 4 = some (Mt.ofL (Cv.first 4)) from rfl]
       simp only [Option.bind_some, hj, cm_eql, cond_dec, Int.reduceEq, decide_false, if_false, cond_false, Cv.body, or_self]
       exact cat3 _ _ (by have : (Cv.first 4).length = 2 := rfl; omega)
   · dsimp only at *
     obtain ⟨u, rfl⟩ := Int.eq_ofNat_of_zero_le h3
     obtain ⟨hi, hil⟩ := rnum_p 12 N u (by omega) (by omega) (by omega)
     have he : Lib.itoa (u : Int) = Lib.decDigits u := by unfold Lib.itoa; rw [if_neg (by omega), Int.toNat_natCast]
     rcases hk with rfl | rfl
     · rw [show r27_First_g 5 = some (Mt.ofL (Cv.first 5)) from rfl]
       simp only [Option.bind_some, hi, cm_eql, cond_dec, Int.reduceEq, decide_true, if_true, if_pos, _root_.cond_true, Cv.body, true_or, he]
       exact cat3 _ _ (by have : (Cv.first 5).length = 6 := rfl; omega)
     · rw [show r27_First_g 6 = some (Mt.ofL (Cv.first 6)) from rfl]
       simp only [Option.bind_some, hi, cm_eql, cond_dec, Int.reduceEq, decide_true, decide_false, if_true, if_false, _root_.cond_true, cond_false, Cv.body, or_true, he]
       exact cat3 _ _ (by have : (Cv.first 6).length = 5 := rfl; omega)
   · dsimp only at *
     subst hk
     rw [show r27_First_g 7 = some (Mt.ofL (Cv.first 7)) from rfl]
     simp only [Option.bind_some, ht, cm_eql, cond_dec, Int.reduceEq, decide_true, decide_false, if_true, if_false, cond_false, _root_.cond_true, Cv.body, or_self]
     exact cat3 _ _ (by have : (Cv.first 7).length = 5 := rfl; omega)
end
end Pl
end Go.Proofs.YtagppjldegblhaaGreatDoor
namespace Go.Proofs.YtagppjldegblhaaGreatDoor
open Go Go.RowKit
open Sh Gn
namespace Pl
theorem cworks_p : l27_works_g 200000 = some true := by decide +kernel
end Pl
end Go.Proofs.YtagppjldegblhaaGreatDoor
namespace Go.Proofs.YtagppjldegblhaaGreatDoor
open Go Go.RowKit
open Ab Sh
namespace Gn
theorem r13_join_w {N : Nat} {p0 : Int} {p1 : List Node} {r : Node} (h : r13_join_g N p0 p1 = some r) : FunS Tryz.prog 128 [fI .i64 p0, .t (.slc (rw _ nodeRow p1))] (r13_join_s rw) r := by
 refine fun_w lay_ok Tryz.call128 Tryz.func128 rfl ?_
 intro A W E Q R hE hR hf hQ; rcases W with ⟨ar, cm, conj, cv, sl, sc, ct, sa, ss, ll, _, _, _, _, mi, mx, _, _, _⟩
 rw [← hR]
 unfold r13_join_g at h
 skip
 cbv
 refine L_for hE lay_ok 1 (fun g : Int × (List Node) × Nat => [(5, .lst 1), (6, fI .i64 g.1)]) (fun g => [(1, .list 91 8 (R _ nodeRow g.2.1))]) (fun g => r13_join_l1 p0 p1 g.2.2 g.1 g.2.1 = some r) (fun g => g.2.2) (_, _, N) h ?_ ?_
 · (cbv; (try simp only [e_rnil hR]); repeat' (first | exact trivial | exact rfl | exact Or.inr trivial | apply And.intro))
 rintro ⟨v1, v2, m1⟩ h Q1 hN1 hT1 hX1
 have h : r13_join_l1 p0 p1 m1 v1 v2 = some r := h
 cases m1 with
 | zero => exact nomatch (show (none : Option _) = some _ from h)
 | succ m1 =>
 rw [r13_join_l1] at h
 rw [q_ar hE, q_cm hE, q_ll hE, ← hR] at h
 cbv
 refine L_if hE h (fun h => ?_) (fun h => ?_) <;> cbv
 · refine L_rowN hE hR h fun r3 h => ?_; cbv
   refine L_cdJ hE lay_ok h 2 (fun j2 : (List Node) => [(5, .lst 1)]) (fun j2 => [(1, .list 91 8 (R _ nodeRow j2))]) (fun j2 h => ?_) (fun j2 h => ?_) <;> cbv
   · refine L_if hE h (fun h => ?_) (fun h => ?_) <;> cbv
     · refine L_rowN hE hR h fun r4 h => ?_; cbv
       refine L_app hE hR h (hf _) nodeRow_len (by decide) fun l5 e h => ?_; cbv at e; rw [e]; clear e
       cases h; (cbv; (try simp only [e_rnil hR]); repeat' (first | exact trivial | exact rfl | exact Or.inr trivial | apply And.intro))
     refine L_rowN hE hR h fun r6 h => ?_; cbv
     refine L_lit hR (e := nodeRow) h (node_new hR) fun l7 e h => ?_; cbv at e; rw [e]; clear e
     refine L_app hE hR h (hf _) nodeRow_len (by decide) fun l8 e h => ?_; cbv at e; rw [e]; clear e
     cases h; (cbv; (try simp only [e_rnil hR]); repeat' (first | exact trivial | exact rfl | exact Or.inr trivial | apply And.intro))
   refine hN1 _ (_, _, m1) [] h (Nat.lt_succ_self _) trivial ?_; (cbv; (try simp only [e_rnil hR]); repeat' (first | exact trivial | exact rfl | exact Or.inr trivial | apply And.intro))
 refine hX1 _ _ ?_; cbv
 refine L_if hE h (fun h => ?_) (fun h => ?_) <;> cbv
 · refine L_rowN hE hR h fun r9 h => ?_; cbv
   refine L_rowN hE hR h fun r10 h => ?_; cbv
   exact And.left (hQ _ _ _ rfl rfl (by cases h; subst hR; rfl))
 exact And.left (hQ _ _ _ rfl rfl (by cases h; subst hR; rfl))
theorem r13_bad_w {p0 : Int} {p1 : Int} {r : Gr13_P} (h : r13_bad_g p0 p1 = some r) : FunS Tryz.prog 129 [fI .i64 p0, fI .i64 p1] (r13_bad_s rw) r := by
 refine fun_w lay_ok Tryz.call129 Tryz.func129 rfl ?_
 intro A W E Q R hE hR hf hQ; rcases W with ⟨ar, cm, conj, cv, sl, sc, ct, sa, ss, ll, _, _, _, _, mi, mx, _, _, _⟩
 unfold r13_bad_g at h
 skip
 cbv
 exact And.left (hQ _ _ _ rfl rfl (by cases h; subst hR; rfl))
theorem r13_other_w {p0 : ByteArray} {p1 : Int} {r : Gr13_P} (h : r13_other_g p0 p1 = some r) : FunS Tryz.prog 89 [fS p0, fI .i64 p1] (r13_other_s rw) r := by
 refine fun_w lay_ok Tryz.call89 Tryz.func89 rfl ?_
 intro A W E Q R hE hR hf hQ; rcases W with ⟨ar, cm, conj, cv, sl, sc, ct, sa, ss, ll, _, _, _, _, mi, mx, _, _, _⟩
 unfold r13_other_g at h
 rw [q_cm hE, q_sl hE] at h
 cbv
 refine L_if hE h (fun h => ?_) (fun h => ?_) <;> cbv
 · refine L_call hE hR h (fun _ e => r13_bad_w e) rfl rfl fun a1 h => ?_; cbv
   exact And.left (hQ _ _ _ rfl rfl (by cases h; subst hR; rfl))
 refine L_call hE hR h (fun _ e => r13_bad_w e) rfl rfl fun a2 h => ?_; cbv
 exact And.left (hQ _ _ _ rfl rfl (by cases h; subst hR; rfl))
theorem r13_is_w {p0 : ByteArray} {p1 : Int} {p2 : Int} {r : Bool} (h : r13_is_g p0 p1 p2 = some r) : FunS Tryz.prog 127 [fS p0, fI .i64 p1, fI .u8 p2] (r13_is_s rw) r := by
 refine fun_w lay_ok Tryz.call127 Tryz.func127 rfl ?_
 intro A W E Q R hE hR hf hQ; rcases W with ⟨ar, cm, conj, cv, sl, sc, ct, sa, ss, ll, _, _, _, _, mi, mx, _, _, _⟩
 unfold r13_is_g at h
 rw [q_cm hE, q_sl hE, q_sa hE] at h
 cbv
 refine L_rgJ hE lay_ok h 0 (fun j1 : Bool => [(6, fB j1)]) (fun j1 => []) (fun j1 h => ?_) (fun j1 h => ?_) <;> cbv
 · refine L_if hE h (fun h => ?_) (fun h => ?_) <;> cbv
   · refine L_sin hE h fun h => ?_
     cases h; (cbv; (try simp only [e_rnil hR]); repeat' (first | exact trivial | exact rfl | exact Or.inr trivial | apply And.intro))
   cases h; (cbv; (try simp only [e_rnil hR]); repeat' (first | exact trivial | exact rfl | exact Or.inr trivial | apply And.intro))
 exact And.left (hQ _ _ _ rfl rfl (by cases h; subst hR; rfl))
theorem r13_among_w {N : Nat} {p0 : Int} {p1 : ByteArray} {r : Bool} (h : r13_among_g N p0 p1 = some r) : FunS Tryz.prog 168 [fI .u8 p0, fS p1] (r13_among_s rw) r := by
 refine fun_w lay_ok Tryz.call168 Tryz.func168 rfl ?_
 intro A W E Q R hE hR hf hQ; rcases W with ⟨ar, cm, conj, cv, sl, sc, ct, sa, ss, ll, _, _, _, _, mi, mx, _, _, _⟩
 unfold r13_among_g at h
 skip
 cbv
 refine L_for hE lay_ok 0 (fun g : Int × Nat => [(4, fB false), (5, fI .i64 g.1)]) (fun g => []) (fun g => r13_among_l1 p0 p1 g.2 g.1 = some r) (fun g => g.2) (_, N) h ?_ ?_
 · (cbv; (try simp only [e_rnil hR]); repeat' (first | exact trivial | exact rfl | exact Or.inr trivial | apply And.intro))
 rintro ⟨v1, m1⟩ h Q1 hN1 hT1 hX1
 have h : r13_among_l1 p0 p1 m1 v1 = some r := h
 cases m1 with
 | zero => exact nomatch (show (none : Option _) = some _ from h)
 | succ m1 =>
 rw [r13_among_l1] at h
 rw [q_ar hE, q_cm hE, q_sl hE, q_sa hE] at h
 cbv
 refine L_if hE h (fun h => ?_) (fun h => ?_) <;> cbv
 · refine L_sin hE h fun h => ?_
   refine L_if hE h (fun h => ?_) (fun h => ?_) <;> cbv
   · refine hT1 _ ?_
     exact And.left (hQ _ _ _ rfl rfl (by cases h; subst hR; rfl))
   refine hN1 _ (_, m1) [] h (Nat.lt_succ_self _) trivial ?_; (cbv; (try simp only [e_rnil hR]); repeat' (first | exact trivial | exact rfl | exact Or.inr trivial | apply And.intro))
 refine hX1 _ _ ?_; cbv
 exact And.left (hQ _ _ _ rfl rfl (by cases h; subst hR; rfl))
end Gn
end Go.Proofs.YtagppjldegblhaaGreatDoor
namespace Go.Proofs.YtagppjldegblhaaGreatDoor
open Go Go.RowKit
open Ab Sh
namespace Gn
theorem r13_Digits_w {r : CSet} (h : r13_Digits_g = some r) : FunS Tryz.prog 180 [] (r13_Digits_s rw) r := by
 refine fun_w lay_ok Tryz.call180 Tryz.func180 rfl ?_
 intro A W E Q R hE hR hf hQ; rcases W with ⟨ar, cm, conj, cv, sl, sc, ct, sa, ss, ll, _, _, _, _, mi, mx, _, _, _⟩
 unfold r13_Digits_g at h
 skip
 cbv
 refine L_call hE hR h (fun _ e => r12_Between_w e) rfl rfl fun a1 h => ?_; cbv
 exact And.left (hQ _ _ _ rfl rfl (by cases h; subst hR; rfl))
theorem r13_Words_w {r : CSet} (h : r13_Words_g = some r) : FunS Tryz.prog 181 [] (r13_Words_s rw) r := by
 refine fun_w lay_ok Tryz.call181 Tryz.func181 rfl ?_
 intro A W E Q R hE hR hf hQ; rcases W with ⟨ar, cm, conj, cv, sl, sc, ct, sa, ss, ll, _, _, _, _, mi, mx, _, _, _⟩
 unfold r13_Words_g at h
 skip
 cbv
 refine L_call hE hR h (fun _ e => r12_Between_w e) rfl rfl fun a1 h => ?_; cbv
 refine L_call hE hR h (fun _ e => r12_Between_w e) rfl rfl fun a2 h => ?_; cbv
 refine L_call hE hR h (fun _ e => r12_Or_w e) rfl rfl fun a3 h => ?_; cbv
 refine L_call hE hR h (fun _ e => r12_Between_w e) rfl rfl fun a4 h => ?_; cbv
 refine L_call hE hR h (fun _ e => r12_Or_w e) rfl rfl fun a5 h => ?_; cbv
 refine L_call hE hR h (fun _ e => r12_With_w e) rfl rfl fun a6 h => ?_; cbv
 exact And.left (hQ _ _ _ rfl rfl (by cases h; subst hR; rfl))
theorem r13_hex_w {p0 : Int} {r : Int} (h : r13_hex_g p0 = some r) : FunS Tryz.prog 182 [fI .u8 p0] (r13_hex_s rw) r := by
 refine fun_w lay_ok Tryz.call182 Tryz.func182 rfl ?_
 intro A W E Q R hE hR hf hQ; rcases W with ⟨ar, cm, conj, cv, sl, sc, ct, sa, ss, ll, _, _, _, _, mi, mx, _, _, _⟩
 unfold r13_hex_g at h
 rw [q_ar hE, q_cm hE, q_cv hE] at h
 cbv
 refine L_rgJ hE lay_ok h 0 (fun j1 : Bool => [(8, fB j1)]) (fun j1 => []) (fun j1 h => ?_) (fun j1 h => ?_) <;> cbv
 · refine L_if hE h (fun h => ?_) (fun h => ?_) <;> cbv
   · cases h; (cbv; (try simp only [e_rnil hR]); repeat' (first | exact trivial | exact rfl | exact Or.inr trivial | apply And.intro))
   cases h; (cbv; (try simp only [e_rnil hR]); repeat' (first | exact trivial | exact rfl | exact Or.inr trivial | apply And.intro))
 refine L_if hE h (fun h => ?_) (fun h => ?_) <;> cbv
 · exact And.left (hQ _ _ _ rfl rfl (by cases h; subst hR; rfl))
 refine L_rgJ hE lay_ok h 0 (fun j2 : Bool => [(17, fB j2)]) (fun j2 => []) (fun j2 h => ?_) (fun j2 h => ?_) <;> cbv
 · refine L_if hE h (fun h => ?_) (fun h => ?_) <;> cbv
   · cases h; (cbv; (try simp only [e_rnil hR]); repeat' (first | exact trivial | exact rfl | exact Or.inr trivial | apply And.intro))
   cases h; (cbv; (try simp only [e_rnil hR]); repeat' (first | exact trivial | exact rfl | exact Or.inr trivial | apply And.intro))
 refine L_if hE h (fun h => ?_) (fun h => ?_) <;> cbv
 · exact And.left (hQ _ _ _ rfl rfl (by cases h; subst hR; rfl))
 exact And.left (hQ _ _ _ rfl rfl (by cases h; subst hR; rfl))
theorem r13_escape_w {N : Nat} {p0 : ByteArray} {p1 : Int} {r : Gr13_P} (h : r13_escape_g N p0 p1 = some r) : FunS Tryz.prog 171 [fS p0, fI .i64 p1] (r13_escape_s rw) r := by
 refine fun_w lay_ok Tryz.call171 Tryz.func171 rfl ?_
 intro A W E Q R hE hR hf hQ; rcases W with ⟨ar, cm, conj, cv, sl, sc, ct, sa, ss, ll, _, _, _, _, mi, mx, _, _, _⟩
 unfold r13_escape_g at h
 rw [q_ar hE, q_cm hE, q_cv hE, q_sl hE, q_sa hE] at h
 cbv
 refine L_if hE h (fun h => ?_) (fun h => ?_) <;> cbv
 · refine L_call hE hR h (fun _ e => r13_bad_w e) rfl rfl fun a1 h => ?_; cbv
   exact And.left (hQ _ _ _ rfl rfl (by cases h; subst hR; rfl))
 refine L_sin hE h fun h => ?_
 refine L_if hE h (fun h => ?_) (fun h => ?_) <;> cbv
 · refine L_call hE hR h (fun _ e => r13_Digits_w e) rfl rfl fun a2 h => ?_; cbv
   exact And.left (hQ _ _ _ rfl rfl (by cases h; subst hR; rfl))
 refine L_if hE h (fun h => ?_) (fun h => ?_) <;> cbv
 · refine L_call hE hR h (fun _ e => r13_Words_w e) rfl rfl fun a3 h => ?_; cbv
   exact And.left (hQ _ _ _ rfl rfl (by cases h; subst hR; rfl))
 refine L_if hE h (fun h => ?_) (fun h => ?_) <;> cbv
 · refine L_for hE lay_ok 1 (fun g : Int × Int × Nat => [(6, fI .i64 g.1), (7, fI .i64 g.2.1)]) (fun g => []) (fun g => r13_escape_l1 p0 p1 g.2.2 g.1 g.2.1 = some r) (fun g => g.2.2) (_, _, N) h ?_ ?_
   · (cbv; (try simp only [e_rnil hR]); repeat' (first | exact trivial | exact rfl | exact Or.inr trivial | apply And.intro))
   rintro ⟨v4, v5, m1⟩ h Q1 hN1 hT1 hX1
   have h : r13_escape_l1 p0 p1 m1 v4 v5 = some r := h
   cases m1 with
   | zero => exact nomatch (show (none : Option _) = some _ from h)
   | succ m1 =>
   rw [r13_escape_l1] at h
   rw [q_ar hE, q_cm hE, q_sl hE, q_sa hE] at h
   cbv
   refine L_if hE h (fun h => ?_) (fun h => ?_) <;> cbv
   · refine L_if hE h (fun h => ?_) (fun h => ?_) <;> cbv
     · refine L_call hE hR h (fun _ e => r13_bad_w e) rfl rfl fun a6 h => ?_; cbv
       refine hT1 _ ?_
       exact And.left (hQ _ _ _ rfl rfl (by cases h; subst hR; rfl))
     refine L_sin hE h fun h => ?_
     refine L_call hE hR h (fun _ e => r13_hex_w e) rfl rfl fun a7 h => ?_; cbv
     refine L_if hE h (fun h => ?_) (fun h => ?_) <;> cbv
     · refine L_call hE hR h (fun _ e => r13_bad_w e) rfl rfl fun a8 h => ?_; cbv
       refine hT1 _ ?_
       exact And.left (hQ _ _ _ rfl rfl (by cases h; subst hR; rfl))
     refine L_sin hE h fun h => ?_
     refine L_call hE hR h (fun _ e => r13_hex_w e) rfl rfl fun a9 h => ?_; cbv
     refine hN1 _ (_, _, m1) [] h (Nat.lt_succ_self _) trivial ?_; (cbv; (try simp only [e_rnil hR]); repeat' (first | exact trivial | exact rfl | exact Or.inr trivial | apply And.intro))
   refine hX1 _ _ ?_; cbv
   refine L_call hE hR h (fun _ e => r12_Between_w e) rfl rfl fun a10 h => ?_; cbv
   exact And.left (hQ _ _ _ rfl rfl (by cases h; subst hR; rfl))
 refine L_call hE hR h (fun _ e => r13_among_w e) rfl rfl fun a11 h => ?_; cbv
 refine L_if hE h (fun h => ?_) (fun h => ?_) <;> cbv
 · refine L_call hE hR h (fun _ e => r12_Between_w e) rfl rfl fun a12 h => ?_; cbv
   exact And.left (hQ _ _ _ rfl rfl (by cases h; subst hR; rfl))
 refine L_call hE hR h (fun _ e => r13_bad_w e) rfl rfl fun a13 h => ?_; cbv
 exact And.left (hQ _ _ _ rfl rfl (by cases h; subst hR; rfl))
theorem r13_sign_w {N : Nat} {p0 : ByteArray} {p1 : Int} {r : Gr13_P} (h : r13_sign_g N p0 p1 = some r) : FunS Tryz.prog 188 [fS p0, fI .i64 p1] (r13_sign_s rw) r := by
 refine fun_w lay_ok Tryz.call188 Tryz.func188 rfl ?_
 intro A W E Q R hE hR hf hQ; rcases W with ⟨ar, cm, conj, cv, sl, sc, ct, sa, ss, ll, _, _, _, _, mi, mx, _, _, _⟩
 unfold r13_sign_g at h
 rw [q_ar hE, q_cm hE, q_cv hE, q_sl hE, q_sa hE] at h
 cbv
 refine L_rgJ hE lay_ok h 1 (fun j1 : Bool => [(14, fB j1)]) (fun j1 => []) (fun j1 h => ?_) (fun j1 h => ?_) <;> cbv
 · refine L_if hE h (fun h => ?_) (fun h => ?_) <;> cbv
   · cases h; (cbv; (try simp only [e_rnil hR]); repeat' (first | exact trivial | exact rfl | exact Or.inr trivial | apply And.intro))
   refine L_sin hE h fun h => ?_
   refine L_call hE hR h (fun _ e => r13_among_w e) rfl rfl fun a1 h => ?_; cbv
   cases h; (cbv; (try simp only [e_rnil hR]); repeat' (first | exact trivial | exact rfl | exact Or.inr trivial | apply And.intro))
 refine L_if hE h (fun h => ?_) (fun h => ?_) <;> cbv
 · refine L_call hE hR h (fun _ e => r13_other_w e) rfl rfl fun a2 h => ?_; cbv
   exact And.left (hQ _ _ _ rfl rfl (by cases h; subst hR; rfl))
 refine L_sin hE h fun h => ?_
 refine L_if hE h (fun h => ?_) (fun h => ?_) <;> cbv
 · refine L_call hE hR h (fun _ e => r13_escape_w e) rfl rfl fun a3 h => ?_; cbv
   exact And.left (hQ _ _ _ rfl rfl (by cases h; subst hR; rfl))
 refine L_tail hE lay_ok (by kernel_rfl) 12 (by kernel_rfl) ?_; cbv
 refine L_sin hE h fun h => ?_
 refine L_sin hE h fun h => ?_
 refine L_pcall hE hR h (fun _ e => r12_Between_w e) rfl rfl fun a4 h => ?_; cbv
 exact And.left (hQ _ _ _ rfl rfl (by cases h; subst hR; rfl))
end Gn
end Go.Proofs.YtagppjldegblhaaGreatDoor
