/- Texts that the proof leans on. -/
import Derived.Test.YtagppjldegblhaaGreatDoorK238
import Derived.Test.YtagppjldegblhaaGreatDoorK235
set_option linter.unusedVariables false
set_option linter.unusedSimpArgs false
set_option maxRecDepth 100000
set_option maxHeartbeats 4000000
namespace Go.Proofs.YtagppjldegblhaaGreatDoor
open Go
open Sh Gn
namespace Pl
def ofM (m : Mt.M) : GMatcher := ⟨m.name, m.op, m.val⟩
theorem toMs_app (l : List GMatcher) (m : Mt.M) : toMs (l ++ [ofM m]) = toMs l ++ [m] := by unfold toMs; rw [List.map_append]; rfl
theorem ofMs_toMs (l : List GMatcher) : (toMs l).map ofM = l := by
 unfold toMs
 rw [List.map_map]
 conv => rhs; rw [← List.map_id l]
 exact List.map_congr_left fun x _ => rfl
def takeVS (g : Sl.Got) : List GMatcher × Int × GFault := match g with | .ok l p => (l.map ofM, (p : Int), ⟨0, 0⟩) | .bad e p => ([], 0, ⟨e, (p : Int)⟩)
theorem mtake_ne {l : List UInt8} {a : Int} {e : Int} {p : Nat} (h : Mt.take l a = .bad e p) : e ≠ 0 := by
 unfold Mt.take at h
 split at h
 · cases h; decide
 · split at h
   · cases h; decide
   · split at h
     · cases h; decide
     · split at h
       · cases h
         have := opBad_ne l (a.toNat + Nm.run Nm.signB true (l.drop a.toNat))
         omega
       · split at h
         · rename_i hr
           cases h
           have := read_ne hr
           omega
         · split at h
           · rename_i hr
             cases h
             exact hr
           · cases h
section
variable {s : ByteArray} {i : Nat}
theorem pre1 (hi : i ≤ s.size) (a : UInt8) (ha : a.toNat ≠ 0) : strings_HasPrefix_g (ss s (i : Int) (sl s)) (ByteArray.mk #[a]) = some (decide (Qu.bt s.data.toList i = a.toNat)) := by
 have h := prefix_p (ss s (i : Int) (sl s)) [a]
 have := take1 (ss s (i : Int) (sl s)).data.toList a ha
 rw [ss_end hi, ← Qu.bt_drop, Nat.add_zero] at this
 rw [show (ByteArray.mk #[a]) = Mt.ofL [a] from rfl, h, ss_end hi]
 exact congrArg some (decide_eq_decide.2 this)
theorem pre2 (hi : i ≤ s.size) (a b : UInt8) (ha : a.toNat ≠ 0) (hb : b.toNat ≠ 0) : strings_HasPrefix_g (ss s (i : Int) (sl s)) (ByteArray.mk #[a, b]) = some (decide (Qu.bt s.data.toList i = a.toNat ∧ Qu.bt s.data.toList (i + 1) = b.toNat)) := by
 have h := prefix_p (ss s (i : Int) (sl s)) [a, b]
 have := take2 (ss s (i : Int) (sl s)).data.toList a b ha hb
 rw [ss_end hi, ← Qu.bt_drop, ← Qu.bt_drop, Nat.add_zero] at this
 rw [show (ByteArray.mk #[a, b]) = Mt.ofL [a, b] from rfl, h, ss_end hi]
 exact congrArg some (decide_eq_decide.2 this)
theorem swrong_p (hi : i ≤ s.size) : ((selector_wrong_g s i).bind fun a => some (([] : List GMatcher), (0 : Int), a)) = some (takeVS (Sl.other s.data.toList i)) := by
 unfold selector_wrong_g Sl.other
 rw [cm_geq, cond_dec, sl_eq, size_list]
 by_cases c : s.size ≤ i
 · rw [if_pos (by omega), if_pos c]; rfl
 · rw [if_neg (by omega), if_neg c]; rfl
theorem rsother_p : ((r23_other_g s i).bind fun a => some (([] : List GMatcher), (0 : Int), a)) = some (takeVS (Sl.other s.data.toList i)) := by
 unfold r23_other_g Sl.other
 rw [cm_geq, cond_dec, sl_eq, size_list]
 by_cases c : s.size ≤ i
 · rw [if_pos (by omega), if_pos c]; rfl
 · rw [if_neg (by omega), if_neg c]; rfl
theorem rsis_p {b : Nat} (hb : 0 < b) : r23_is_g s i (b : Int) = some (decide (Qu.bt s.data.toList i = b)) := by
 unfold r23_is_g
 rw [cm_lss, cond_dec, sl_eq]
 by_cases c : i < s.size
 · rw [if_pos (by omega), sin_in c, _root_.cond_true, cm_eql, sa_bt]
   simp only [Option.bind_some]
   exact congrArg some (decide_eq_decide.2 (by omega))
 · rw [if_neg (by omega)]
   have : Qu.bt s.data.toList i = 0 := by unfold Qu.bt; rw [List.getElem?_eq_none (by rw [size_list]; omega)]
   simp only [Option.bind_some]
   exact (congrArg some (decide_eq_false (by omega))).symm
theorem stake_from {N : Nat} (hN : 200000 ≤ N) (hs : s.size ≤ 90000) : ∀ (m f i : Nat) (out : List GMatcher), i ≤ s.size → s.size < i + m → s.size < i + f → out.length ≤ 64 →
 selector_Take_l1 N s m i out = some (takeVS (Sl.loop s.data.toList f (toMs out) i)) := by
 intro m
 induction m with
 | zero => intro f i out h1 h2; omega
 | succ m ih =>
   intro f i out h1 h2 h3 h4
   obtain ⟨f, rfl⟩ : ∃ k, f = k + 1 := ⟨f - 1, by omega⟩
   have hz : (toMs out).length = out.length := by unfold toMs; rw [List.length_map]
   have hl := size_list s
   rw [selector_Take_l1, Sl.loop, mtake_p hN hs]
   simp only [cm_eql, cm_lss, cm_neq, cond_not, cond_dec, ite_and, sl_eq, ll_eq, Option.bind_some, hz, hl]
   by_cases c : out.length = 64 ∧ i < s.size
   · have c' : (out.length : Int) = 64 ∧ (i : Int) < (s.size : Int) := by omega
     rw [if_pos c, if_pos c']; rfl
   have c' : ¬ ((out.length : Int) = 64 ∧ (i : Int) < (s.size : Int)) := by omega
   rw [if_neg c, if_neg c']
   cases hm : Mt.take s.data.toList (i : Int) with
   | bad e p =>
     have := mtake_ne hm
     simp only [takeV, this, if_false]
     rfl
   | ok x p =>
     have he := Sl.take_end hm
     rw [hl] at he
     have hout : out.length < 64 := by omega
     have ea : app cMatcher out [(⟨x.name, x.op, x.val⟩ : GMatcher)] = some (out ++ [ofM x]) := by unfold app; rw [if_pos (by simp; omega)]; rfl
     have q1 := pre1 (s := s) (i := p) (by omega) 125 (by decide)
     have q2 := pre1 (s := s) (i := p) (by omega) 44 (by decide)
     rw [sl_eq] at q1 q2
     have e1 := inc1 (show p ≤ 100000000 by omega)
     have e2 := inc2 (show p ≤ 100000000 by omega)
     simp only [takeV, if_true, ea, Option.bind_some, ssin_nat (s := s) (i := p) (j := s.size) (by omega) (Nat.le_refl _), _root_.cond_true, q1, q2, cond_not, cond_dec, e1, e2, show (125 : UInt8).toNat = 125 from rfl, show (44 : UInt8).toNat = 44 from rfl]
     by_cases d1 : Qu.bt s.data.toList p = 125
     · rw [if_pos d1, if_pos d1, ← toMs_app]
       show _ = some ((toMs (out ++ [ofM x])).map ofM, _, _)
       rw [ofMs_toMs]
     rw [if_neg d1, if_neg d1]
     by_cases d2 : Qu.bt s.data.toList p = 44
     · have hp : p < s.size := by rw [← hl]; exact Sl.bt_in (by omega)
       have q3 := pre1 (s := s) (i := p + 1) (by omega) 32 (by decide)
       rw [sl_eq] at q3
       rw [if_pos d2, if_neg (show ¬ Qu.bt s.data.toList p ≠ 44 by omega)]
       simp only [ssin_nat (s := s) (i := p + 1) (j := s.size) (by omega) (Nat.le_refl _), _root_.cond_true, q3, Option.bind_some, cond_not, cond_dec, show (32 : UInt8).toNat = 32 from rfl]
       by_cases d3 : Qu.bt s.data.toList (p + 1) = 32
       · have hp2 : p + 1 < s.size := by rw [← hl]; exact Sl.bt_in (by omega)
         rw [if_pos d3, if_neg (show ¬ Qu.bt s.data.toList (p + 1) ≠ 32 by omega), ← toMs_app]
         exact ih f (p + 2) (out ++ [ofM x]) (by omega) (by omega) (by omega) (by simp; omega)
       · rw [if_neg d3, if_pos d3]
         exact swrong_p (by omega)
     · rw [if_neg d2, if_pos d2]
       exact swrong_p (by omega)
theorem rstake_from {N : Nat} (hN : 200000 ≤ N) (hs : s.size ≤ 90000) : ∀ (m f i : Nat) (out : List GMatcher), i ≤ s.size → s.size < i + m → s.size < i + f → out.length ≤ 64 →
 r23_Take_l1 N s m i out = some (takeVS (Sl.loop s.data.toList f (toMs out) i)) := by
 intro m
 induction m with
 | zero => intro f i out h1 h2; omega
 | succ m ih =>
   intro f i out h1 h2 h3 h4
   obtain ⟨f, rfl⟩ : ∃ k, f = k + 1 := ⟨f - 1, by omega⟩
   have hz : (toMs out).length = out.length := by unfold toMs; rw [List.length_map]
   have hl := size_list s
   rw [r23_Take_l1, Sl.loop, rtake_p hN hs]
   simp only [cm_eql, cm_lss, cm_neq, cond_not, cond_dec, sl_eq, ll_eq, Option.bind_some, hz, hl]
   by_cases ci : i < s.size
   case neg =>
    obtain rfl : i = s.size := by omega
    rw [if_neg (by omega), if_neg (by omega)]
    have := Sl.take_end_of (s := s.data.toList)
    rw [hl] at this
    rw [this]; rfl
   rw [if_pos (by omega)]
   by_cases c : out.length = 64
   · rw [if_pos (by omega), if_pos ⟨c, ci⟩]; rfl
   have cn : ¬ (out.length = 64 ∧ i < s.size) := fun h => c h.1
   have cn' : ¬ ((out.length : Int) = 64) := by omega
   rw [if_neg cn', if_neg cn]
   cases hm : Mt.take s.data.toList (i : Int) with
   | bad e p =>
     have := mtake_ne hm
     simp only [takeV, this, if_false]
     rfl
   | ok x p =>
     have he := Sl.take_end hm
     rw [hl] at he
     have hout : out.length < 64 := by omega
     have ea : app cMatcher out [(⟨x.name, x.op, x.val⟩ : GMatcher)] = some (out ++ [ofM x]) := by unfold app; rw [if_pos (by simp; omega)]; rfl
     have q1 : r23_is_g s (p : Int) 125 = _ := rsis_p (s := s) (i := p) (b := 125) (by decide)
     have q2 : r23_is_g s (p : Int) 44 = _ := rsis_p (s := s) (i := p) (b := 44) (by decide)
     have q3 : r23_is_g s ((p + 1 : Nat) : Int) 32 = _ := rsis_p (s := s) (i := p + 1) (b := 32) (by decide)
     have e1 := inc1 (show p ≤ 100000000 by omega)
     have e2 := inc2 (show p ≤ 100000000 by omega)
     simp only [takeV, if_true, ea, Option.bind_some, q1, q2, q3, cond_not, cond_dec, e1, e2]
     by_cases d1 : Qu.bt s.data.toList p = 125
     · rw [if_pos d1, if_pos d1, ← toMs_app]
       show _ = some ((toMs (out ++ [ofM x])).map ofM, _, _)
       rw [ofMs_toMs]
     rw [if_neg d1, if_neg d1]
     by_cases d2 : Qu.bt s.data.toList p = 44
     · have hp : p < s.size := by rw [← hl]; exact Sl.bt_in (by omega)
       rw [if_pos d2, if_neg (show ¬ Qu.bt s.data.toList p ≠ 44 by omega)]
       by_cases d3 : Qu.bt s.data.toList (p + 1) = 32
       · have hp2 : p + 1 < s.size := by rw [← hl]; exact Sl.bt_in (by omega)
         rw [if_pos d3, if_neg (show ¬ Qu.bt s.data.toList (p + 1) ≠ 32 by omega), ← toMs_app]
         exact ih f (p + 2) (out ++ [ofM x]) (by omega) (by omega) (by omega) (by simp; omega)
       · rw [if_neg d3, if_pos d3]
         exact rsother_p
     · rw [if_neg d2, if_pos d2]
       exact rsother_p
theorem stake_p {N : Nat} (hN : 200000 ≤ N) (hs : s.size ≤ 90000) (p : Int) : selector_Take_g N s p = some (takeVS (Sl.take s.data.toList p)) := by
 unfold selector_Take_g Sl.take
 have hl := size_list s
 simp only [cm_lss, cm_gtr, cond_not, cond_dec, ite_or, sl_eq, Option.bind_some, hl]
 by_cases c : p < 0 ∨ (s.size : Int) < p
 · rw [if_pos c, if_pos c]; rfl
 obtain ⟨i, rfl⟩ : ∃ i : Nat, p = i := ⟨p.toNat, by omega⟩
 rw [if_neg c, if_neg c, Int.toNat_natCast]
 have q1 := pre1 (s := s) (i := i) (by omega) 123 (by decide)
 have q2 := pre2 (s := s) (i := i) (by omega) 123 125 (by decide) (by decide)
 rw [sl_eq] at q1 q2
 simp only [ssin_nat (s := s) (i := i) (j := s.size) (by omega) (Nat.le_refl _), _root_.cond_true, q1, q2, Option.bind_some, cond_not, cond_dec, inc1 (show i ≤ 100000000 by omega), inc2 (show i ≤ 100000000 by omega), show (123 : UInt8).toNat = 123 from rfl, show (125 : UInt8).toNat = 125 from rfl]
 by_cases d1 : Qu.bt s.data.toList i = 123
 · have hp : i < s.size := by rw [← hl]; exact Sl.bt_in (by omega)
   rw [if_pos d1, if_neg (show ¬ Qu.bt s.data.toList i ≠ 123 by omega)]
   by_cases d2 : Qu.bt s.data.toList (i + 1) = 125
   · rw [if_pos ⟨d1, d2⟩, if_pos d2]; rfl
   · rw [if_neg (show ¬ (Qu.bt s.data.toList i = 123 ∧ Qu.bt s.data.toList (i + 1) = 125) from fun h => d2 h.2), if_neg d2]
     exact stake_from hN hs N (s.size + 1) (i + 1) [] (by omega) (by omega) (by omega) (by simp)
 · rw [if_neg d1, if_pos d1]
   exact swrong_p (by omega)
theorem rstake_p {N : Nat} (hN : 200000 ≤ N) (hs : s.size ≤ 90000) (p : Int) : r23_Take_g N s p = some (takeVS (Sl.take s.data.toList p)) := by
 unfold r23_Take_g Sl.take
 have hl := size_list s
 simp only [cm_lss, cm_gtr, cond_not, cond_dec, ite_or, sl_eq, Option.bind_some, hl]
 by_cases c : p < 0 ∨ (s.size : Int) < p
 · rw [if_pos c, if_pos c]; rfl
 obtain ⟨i, rfl⟩ : ∃ i : Nat, p = i := ⟨p.toNat, by omega⟩
 rw [if_neg c, if_neg c, Int.toNat_natCast]
 have q1 : r23_is_g s (i : Int) 123 = _ := rsis_p (s := s) (i := i) (b := 123) (by decide)
 have q2 : r23_is_g s ((i + 1 : Nat) : Int) 125 = _ := rsis_p (s := s) (i := i + 1) (b := 125) (by decide)
 simp only [q1, q2, Option.bind_some, cond_not, cond_dec, inc1 (show i ≤ 100000000 by omega), inc2 (show i ≤ 100000000 by omega)]
 by_cases d1 : Qu.bt s.data.toList i = 123
 · have hp : i < s.size := by rw [← hl]; exact Sl.bt_in (by omega)
   rw [if_pos d1, if_neg (show ¬ Qu.bt s.data.toList i ≠ 123 by omega)]
   by_cases d2 : Qu.bt s.data.toList (i + 1) = 125
   · rw [if_pos d2, if_pos d2]; rfl
   · rw [if_neg d2, if_neg d2]
     exact rstake_from hN hs N (s.size + 1) (i + 1) [] (by omega) (by omega) (by omega) (by simp)
 · rw [if_neg d1, if_pos d1]
   exact rsother_p
def parseVS (g : List Mt.M × Int × Nat) : List GMatcher × GFault := (g.1.map ofM, ⟨g.2.1, (g.2.2 : Int)⟩)
theorem loop_ne (l : List UInt8) : ∀ (f : Nat) (out : List Mt.M) (i : Nat) (e : Int) (p : Nat), Sl.loop l f out i = .bad e p → e ≠ 0 := by
 have ho : ∀ q e p, Sl.other l q = .bad e p → e ≠ 0 := fun q e p h => by unfold Sl.other at h; split at h <;> (cases h; decide)
 intro f
 induction f with
 | zero => intro out i e p h; rw [Sl.loop] at h; cases h; decide
 | succ f ih =>
   intro out i e p h
   rw [Sl.loop] at h
   split at h
   · cases h; decide
   · cases hm : Mt.take l i with
     | bad e' p' => rw [hm] at h; cases h; exact mtake_ne hm
     | ok x q =>
       rw [hm] at h
       dsimp only at h
       split at h
       · cases h
       · split at h
         · exact ho _ _ _ h
         · split at h
           · exact ho _ _ _ h
           · exact ih _ _ _ _ h
theorem loop_len (l : List UInt8) : ∀ (f : Nat) (out : List Mt.M) (i : Nat) (r : List Mt.M) (p : Nat), Sl.loop l f out i = .ok r p → r.length ≤ out.length + f ∧ p ≤ l.length := by
 have ho : ∀ q r p, Sl.other l q = .ok r p → False := fun q e p h => by unfold Sl.other at h; split at h <;> cases h
 intro f
 induction f with
 | zero => intro out i r p h; rw [Sl.loop] at h; cases h
 | succ f ih =>
   intro out i r p h
   rw [Sl.loop] at h
   split at h
   · cases h
   · cases hm : Mt.take l i with
     | bad e' p' => rw [hm] at h; cases h
     | ok x q =>
       rw [hm] at h
       dsimp only at h
       split at h
       · rename_i d
         cases h
         have := Sl.bt_in (s := l) (p := q) (by omega)
         simp; omega
       · split at h
         · exact (ho _ _ _ h).elim
         · split at h
           · exact (ho _ _ _ h).elim
           · have := ih _ _ _ _ h
             simp at this; omega
theorem stake_ne {l : List UInt8} {a e : Int} {p : Nat} (h : Sl.take l a = .bad e p) : e ≠ 0 := by
 unfold Sl.take at h
 split at h
 · cases h; decide
 · split at h
   · unfold Sl.other at h; split at h <;> (cases h; decide)
   · split at h
     · cases h
     · exact loop_ne _ _ _ _ _ _ h
theorem stake_len {l : List UInt8} {a : Int} {r : List Mt.M} {p : Nat} (h : Sl.take l a = .ok r p) : r.length ≤ l.length + 1 ∧ p ≤ l.length := by
 unfold Sl.take at h
 split at h
 · cases h
 · split at h
   · unfold Sl.other at h; split at h <;> cases h
   · split at h
     · rename_i d
       cases h
       have := Sl.bt_in (s := l) (p := a.toNat + 1) (by omega)
       simp; omega
     · have := loop_len _ _ _ _ _ _ h
       simpa using this
theorem sparse_p {N : Nat} (hN : 200000 ≤ N) (hs : s.size ≤ 90000) : selector_Parse_g N s = some (parseVS (Sl.parse s.data.toList)) := by
 unfold selector_Parse_g Sl.parse
 rw [stake_p hN hs, Option.bind_some]
 cases h : Sl.take s.data.toList 0 with
 | bad e p =>
   have := stake_ne h
   simp only [takeVS, cm_neq, cond_not, cond_dec, this, if_false]; rfl
 | ok r p =>
   have hl := size_list s
   have hp := (stake_len h).2
   rw [hl] at hp
   simp only [takeVS, cm_neq, cm_lss, cond_not, cond_dec, if_true, sl_eq]
   rw [hl]
   by_cases c : p < s.size
   · rw [if_pos (by omega), if_pos c]
     unfold selector_wrong_g
     rw [cm_geq, cond_dec, sl_eq, if_neg (by omega)]; rfl
   · rw [if_neg (by omega), if_neg c]; rfl
theorem rsparse_p {N : Nat} (hN : 200000 ≤ N) (hs : s.size ≤ 90000) : r23_Parse_g N s = some (parseVS (Sl.parse s.data.toList)) := by
 unfold r23_Parse_g Sl.parse
 rw [rstake_p hN hs, Option.bind_some]
 cases h : Sl.take s.data.toList 0 with
 | bad e p =>
   have := stake_ne h
   simp only [takeVS, cm_eql, cond_dec, this, if_false, Option.bind_some, _root_.cond_false]; rfl
 | ok r p =>
   have hl := size_list s
   simp only [takeVS, cm_eql, cm_lss, cond_dec, if_true, sl_eq, Option.bind_some]
   rw [hl]
   by_cases c : p < s.size
   · rw [if_pos (by omega), if_pos c]; rfl
   · rw [if_neg (by omega), if_neg c]; rfl
end
end Pl
end Go.Proofs.YtagppjldegblhaaGreatDoor
namespace Go.Proofs.YtagppjldegblhaaGreatDoor
open Go
open Sh Gn Pl
namespace Cv
def kindOf (w : List UInt8) : Int := if w = first 1 then 1 else if w = first 2 then 2 else if w = first 3 then 3 else if w = first 4 then 4 else if w = first 5 then 5 else if w = first 6 then 6 else if w = first 7 then 7 else 0
def atoi (l : List UInt8) : Int := match Lib.atoiAll l with | .ok v => v | .range => Lib.atoiSat l | _ => 0
def cand (s : List UInt8) : GCaveat :=
 if kindOf (Lib.cut s [32]).1 = 5 ∨ kindOf (Lib.cut s [32]).1 = 6 then ⟨kindOf (Lib.cut s [32]).1, atoi (Lib.cut s [32]).2.1, [], []⟩
 else if kindOf (Lib.cut s [32]).1 = 7 then ⟨7, 0, [], (Sl.parse (Lib.cut s [32]).2.1).1.map ofM⟩
 else ⟨kindOf (Lib.cut s [32]).1, 0, if (split (Lib.cut s [32]).2.1).all (fun w => Nm.wordB w.data.toList) = true then split (Lib.cut s [32]).2.1 else [], []⟩
theorem cut_at (p r : List UInt8) (h : ∀ c ∈ p, c ≠ 32) : Lib.cut (p ++ 32 :: r) [32] = (p, r, true) := by
 unfold Lib.cut
 rw [Nm.index_at p r h, if_pos (by omega)]
 simp
theorem word_no {l : List UInt8} (h : Nm.wordB l = true) : ∀ c ∈ l, c ≠ 32 := by
 intro c hc e
 subst e
 simp only [Nm.wordB, Bool.and_eq_true, decide_eq_true_eq, Nm.allB, beq_iff_eq] at h
 have key : ∀ (f : Bool) (l : List UInt8), (32 : UInt8) ∈ l → Nm.run Nm.wsignB f l < l.length := by
  intro f l
  induction l generalizing f with
  | nil => intro h; cases h
  | cons c r ih =>
    intro h
    unfold Nm.run
    split
    · rename_i hs
      rcases List.mem_cons.1 h with e | h
      · subst e
        exfalso
        cases f <;> exact absurd hs (by decide)
      · have := ih false h
        simp only [List.length_cons]; omega
    · simp only [List.length_cons]; omega
 have := key true l hc
 omega
theorem split_join {l : List ByteArray} (hne : l ≠ []) (hw : ∀ w ∈ l, Nm.wordB w.data.toList = true) : split (Lib.join (words l) [32]) = l := by
 unfold split words
 rw [Nm.splitL_join _ (by simpa using hne) (fun x hx c hc => by
  obtain ⟨w, hm, rfl⟩ := List.mem_map.1 hx
  exact word_no (hw w hm) c hc), List.map_map]
 conv => rhs; rw [← List.map_id l]
 exact List.map_congr_left fun x _ => Mt.ofL_self x
theorem first_no : ∀ k : Int, ∀ c ∈ first k, c ≠ 32 := by
 intro k
 have key : ∀ j < 8, ∀ c ∈ first (j : Nat), c ≠ 32 := by decide
 rcases Nat.lt_or_ge k.toNat 8 with h | h
 · have := key k.toNat h
   unfold first at this ⊢
   rwa [Int.toNat_natCast] at this
 · unfold first
   rw [List.getD_eq_getElem?_getD, List.getElem?_eq_none (by simpa [T_kinds] using h)]
   intro c hc; cases hc
theorem kind_first : kindOf (first 1) = 1 ∧ kindOf (first 2) = 2 ∧ kindOf (first 3) = 3 ∧ kindOf (first 4) = 4 ∧ kindOf (first 5) = 5 ∧ kindOf (first 6) = 6 ∧ kindOf (first 7) = 7 := by decide
theorem right_zero {l : List Mt.M} (h : (Sl.right l).1 = 0) : (∀ m ∈ l, Mt.right m = 0) ∧ l.length ≤ 64 := by
 unfold Sl.right at h
 split at h
 · cases h
 · refine ⟨?_, by omega⟩
   have key : ∀ (l : List Mt.M) (i : Nat), (Sl.firstBad l i).1 = 0 → ∀ m ∈ l, Mt.right m = 0 := by
    intro l
    induction l with
    | nil => intro i _ m hm; cases hm
    | cons a r ih =>
      intro i h m hm
      unfold Sl.firstBad at h
      split at h
      · rename_i ha; exact absurd h ha
      · rename_i ha
        rcases List.mem_cons.1 hm with e | hm
        · subst e; exact Decidable.not_not.1 ha
        · exact ih (i + 1) h m hm
   exact key l 0 h
theorem sel_back {l : List Mt.M} (h : (Sl.right l).1 = 0) : Sl.parse (Sl.text l) = (l, 0, 0) := by
 obtain ⟨h1, h2⟩ := right_zero h
 have := Sl.take_back h1 h2 [] []
 simp only [List.nil_append, List.append_nil, List.length_nil, Nat.zero_add] at this
 have this : Sl.take (Sl.text l) 0 = _ := this
 unfold Sl.parse
 rw [this]
 simp
theorem cand_text {c : GCaveat} (h : right c = true) : cand (text c) = c := by
 unfold text
 rw [if_pos h]
 unfold cand
 rw [cut_at _ _ (first_no c.Kind)]
 obtain ⟨k1, k2, k3, k4, k5, k6, k7⟩ := kind_first
 obtain ⟨K, Num, Ws, Sel⟩ := c
 rcases right_cases h with ⟨hk, h1, h2, h3, -, -, h4⟩ | ⟨hk, h1, h2, h3, h4⟩ | ⟨hk, h1, h2, h3, h4⟩
 · simp only at hk h1 h2 h3 h4
   subst h1; subst h2
   have hs := split_join h3 h4
   have hall : (split (Lib.join (words Ws) [32])).all (fun w => Nm.wordB w.data.toList) = true := by rw [hs]; exact List.all_eq_true.2 h4
   rcases hk with rfl | rfl | rfl | rfl <;> simp [body, k1, k2, k3, k4, hs, hall, List.all_eq_true] <;> exact fun x hx e => by rw [h4 x hx] at e; cases e
 · simp only at hk h1 h2 h3 h4
   subst h1; subst h2
   rcases hk with rfl | rfl <;> simp [body, k5, k6, atoi, atoi_itoa h3 h4]
 · simp only at hk h1 h2 h3 h4
   subst h1; subst h2; subst hk
   simp [body, k7, sel_back h3, ofMs_toMs]
end Cv
end Go.Proofs.YtagppjldegblhaaGreatDoor
namespace Go.Proofs.YtagppjldegblhaaGreatDoor
open Go Go.RowKit
open Ab Sh
namespace Gn
def r09_Pieces_l1 (p0 : ByteArray) : Nat → Int → Int → List ByteArray → Option (List ByteArray)
| 0, _, _, _ => none
| m + 1, v1, v2, v3 =>
 cond (cm .leq v2 (sl p0))
 ((cond (cm .eql v2 (sl p0))
 (some true)
 (cond (sinB p0 v2) (some (cm .eql (sa p0 v2) 32)) none) : Option Bool).bind fun j3 =>
 (cond (j3)
 (cond (ssinB p0 v1 v2) ((app cS v3 [ss p0 v1 v2]).bind fun l4 =>
 some (ar .add .i64 v2 1, l4)) none)
 (some (v1, v3)) : Option (Int × (List ByteArray))).bind fun j4 =>
 (r09_Pieces_l1 p0 m) j4.1 (ar .add .i64 v2 1) j4.2)
 (some v3)
def r09_Pieces_g (N : Nat) (p0 : ByteArray) : Option (List ByteArray) :=
 r09_Pieces_l1 p0 N 0 0 []
def r27_digits_l1 (p0 : ByteArray) : Nat → Int → Int → Option Int
| 0, _, _ => none
| m + 1, v1, v2 =>
 cond (cm .lss v2 (sl p0))
 ((cond (sinB p0 v2) (cond (cm .lss (sa p0 v2) 48)
 (some true)
 (cond (sinB p0 v2) (some (cm .gtr (sa p0 v2) 57)) none)) none : Option Bool).bind fun j3 =>
 cond (j3)
 (some (-1))
 (cond (sinB p0 v2) ((r27_digits_l1 p0 m) (ar .sub .i64 (ar .add .i64 (ar .mul .i64 10 v1) (cv .i64 (sa p0 v2))) 48) (ar .add .i64 v2 1)) none))
 (some v1)
def r27_digits_g (N : Nat) (p0 : ByteArray) : Option Int :=
 (cond (cm .lss (sl p0) 1)
 (some true)
 (some (cm .gtr (sl p0) 13)) : Option Bool).bind fun j1 =>
 cond (j1)
 (some (-1))
 (r27_digits_l1 p0 N 0 0)
def r27_Parse_l1 (N : Nat) (p0 : ByteArray) : Nat → Int → Option (GCaveat × Bool)
| 0, _ => none
| m + 1, v1 =>
 cond (cm .leq v1 7)
 ((r27_First_g v1).bind fun a2 =>
 cond (ctB a2 (ByteArray.mk #[32])) ((cond (cm .lss (sl p0) (sl (ct a2 (ByteArray.mk #[32]))))
 (some true)
 (cond (ssinB p0 0 (sl (ct a2 (ByteArray.mk #[32])))) (some (sc .neq (ss p0 0 (sl (ct a2 (ByteArray.mk #[32])))) (ct a2 (ByteArray.mk #[32])))) none) : Option Bool).bind fun j5 =>
 cond (j5)
 ((r27_Parse_l1 N p0 m) (ar .add .i64 v1 1))
 (cond (ssinB p0 (sl (ct a2 (ByteArray.mk #[32]))) (sl p0)) (cond (cm .lss v1 5)
 ((r09_Pieces_g N (ss p0 (sl (ct a2 (ByteArray.mk #[32]))) (sl p0))).bind fun a3 =>
 ((r27_Right_g N (⟨v1, 0, a3, []⟩ : GCaveat)).bind fun a4 =>
 cond (a4)
 ((r27_Text_g N (⟨v1, 0, a3, []⟩ : GCaveat)).bind fun a5 =>
 some (sc .eql a5 p0))
 (some false) : Option Bool).bind fun j6 =>
 cond (j6)
 (some ((⟨v1, 0, a3, []⟩ : GCaveat), true))
 ((r27_Parse_l1 N p0 m) (ar .add .i64 v1 1)))
 (cond (cm .lss v1 7)
 ((r27_digits_g N (ss p0 (sl (ct a2 (ByteArray.mk #[32]))) (sl p0))).bind fun a6 =>
 ((r27_Right_g N (⟨v1, a6, [], []⟩ : GCaveat)).bind fun a7 =>
 cond (a7)
 ((r27_Text_g N (⟨v1, a6, [], []⟩ : GCaveat)).bind fun a8 =>
 some (sc .eql a8 p0))
 (some false) : Option Bool).bind fun j7 =>
 cond (j7)
 (some ((⟨v1, a6, [], []⟩ : GCaveat), true))
 ((r27_Parse_l1 N p0 m) (ar .add .i64 v1 1)))
 ((r23_Parse_g N (ss p0 (sl (ct a2 (ByteArray.mk #[32]))) (sl p0))).bind fun a9 =>
 cond (cm .neq a9.2.E 0)
 (some ((⟨0, 0, [], []⟩ : GCaveat), false))
 (((r27_Right_g N (⟨v1, 0, [], a9.1⟩ : GCaveat)).bind fun a10 =>
 cond (a10)
 ((r27_Text_g N (⟨v1, 0, [], a9.1⟩ : GCaveat)).bind fun a11 =>
 some (sc .eql a11 p0))
 (some false) : Option Bool).bind fun j8 =>
 cond (j8)
 (some ((⟨v1, 0, [], a9.1⟩ : GCaveat), true))
 ((r27_Parse_l1 N p0 m) (ar .add .i64 v1 1)))))) none)) none)
 (some ((⟨0, 0, [], []⟩ : GCaveat), false))
def r27_Parse_g (N : Nat) (p0 : ByteArray) : Option (GCaveat × Bool) :=
 cond (cm .gtr (sl p0) 2048)
 (some ((⟨0, 0, [], []⟩ : GCaveat), false))
 (r27_Parse_l1 N p0 N 1)
def porterbase_SameTexts_s (R : RF) (r : Bool) : V := fB r
def porterbase_SameTexts_l1 (p0 : List ByteArray) (p1 : List ByteArray) : Nat → Int → Option Bool
| 0, _ => none
| m + 1, v1 =>
 cond (cm .lss v1 (ll (rw _ cS p0)))
 ((at_ p0 v1).bind fun r2 =>
 (at_ p1 v1).bind fun r3 =>
 cond (sc .neq r2 r3)
 (some false)
 ((porterbase_SameTexts_l1 p0 p1 m) (ar .add .i64 v1 1)))
 (some true)
def porterbase_SameTexts_g (N : Nat) (p0 : List ByteArray) (p1 : List ByteArray) : Option Bool :=
 cond (cm .neq (ll (rw _ cS p0)) (ll (rw _ cS p1)))
 (some false)
 (porterbase_SameTexts_l1 p0 p1 N 0)
def porterbase_SameCaveat_s (R : RF) (r : Bool) : V := fB r
def porterbase_SameCaveat_g (N : Nat) (p0 : GCaveat) (p1 : GCaveat) : Option Bool :=
 (cond (cm .eql p0.Kind p1.Kind)
 (cond (cm .eql p0.Num p1.Num)
 ((porterbase_SameTexts_g N p0.Words p1.Words).bind fun a1 =>
 cond (a1)
 ((porterbase_SameSel_g N p0.Sel p1.Sel).bind fun a2 =>
 some a2)
 (some false))
 (some false))
 (some false) : Option Bool).bind fun j1 =>
 some j1
def l27_CaveatReads_g (N : Nat) (p0 : ByteArray) : Option Bool :=
 (cond (cm .gtr (sl p0) 400)
 (cond (cm .leq (sl p0) 2048)
 (some true)
 (some (cm .gtr (sl p0) 2200)))
 (some (cm .gtr (sl p0) 2200)) : Option Bool).bind fun j1 =>
 cond (j1)
 ((l27_works_g N).bind fun a1 =>
 some a1)
 ((caveat_Parse_g N p0).bind fun a2 =>
 (r27_Parse_g N p0).bind fun a3 =>
 ((porterbase_SameCaveat_g N a2.1 a3.1).bind fun a4 =>
 cond (a4)
 (cond (conj [a2.2 == a3.2])
 ((l27_works_g N).bind fun a5 =>
 some a5)
 (some false))
 (some false) : Option Bool).bind fun j2 =>
 some j2)
end Gn
end Go.Proofs.YtagppjldegblhaaGreatDoor
namespace Go.Proofs.YtagppjldegblhaaGreatDoor
open Go Go.RowKit Go.ChangeShapes Go.WideShapes
section
variable {α : Type}
def Kept (G : Nat → Prop) (w w' : World) : Prop := ∀ b, G b → w'.heap[b]? = w.heap[b]?
theorem Kept.cell {G : Nat → Prop} {w w' : World} (h : Kept G w w') {b : Nat} (hb : G b) (o : Nat) : w'.cell? ⟨b, o, none⟩ = w.cell? ⟨b, o, none⟩ := World.cell?_of_block (h b hb)
end
end Go.Proofs.YtagppjldegblhaaGreatDoor
namespace Go.Proofs.YtagppjldegblhaaGreatDoor
open Go Go.RowKit
open Sh Gn
namespace Pl
theorem un_len {l : List UInt8} {i n : Nat} {t : List UInt8} (h : Qu.un l i = .ok t n) : t.length ≤ n := by
 unfold Qu.un at h
 split at h
 · split at h
   · rename_i he
     cases h
     have := (Qu.esc_two he).1
     simp only [List.length_cons, List.length_nil]; omega
   · cases h
 · split at h
   · cases h
     rw [List.length_take]; omega
   · cases h
theorem qbody_len (l : List UInt8) : ∀ (f : Nat) (out : List UInt8) (i p : Nat) (t : List UInt8), Qu.body l f out i = .ok t p → t.length + i ≤ out.length + p
 | 0, out, i, p, t, h => by unfold Qu.body at h; cases h
 | f + 1, out, i, p, t, h => by
   unfold Qu.body at h
   split at h
   case isFalse => cases h
   split at h
   · cases h; omega
   · split at h
     · rename_i u n hu
       have h1 := un_len hu
       have h2 := qbody_len l f _ _ p t h
       rw [List.length_append] at h2
       omega
     · cases h
theorem qread_len {l : List UInt8} {a : Int} {t : List UInt8} {p : Nat} (h : Qu.read l a = .ok t p) : t.length ≤ l.length := by
 have h1 := (Sl.read_end h).2
 unfold Qu.read at h
 split at h
 · cases h
 split at h
 · cases h
 split at h
 · cases h
 have := qbody_len l _ _ _ p t h
 simp only [List.length_nil] at this
 omega
def Low (n : Nat) (m : Mt.M) : Prop := m.val.size ≤ n ∧ m.name.size ≤ 32
theorem mtake_low {s : List UInt8} {i : Int} {m : Mt.M} {p : Nat} (h : Mt.take s i = .ok m p) : Low s.length m := by
 unfold Mt.take at h
 split at h
 · cases h
 split at h
 · cases h
 split at h
 · cases h
 rename_i hn
 split at h
 · cases h
 split at h
 · cases h
 rename_i v q hv
 split at h
 · cases h
 cases h
 refine ⟨?_, ?_⟩
 · rw [ofL_size]; exact qread_len hv
 · rw [ofL_size, List.length_take]; omega
theorem loop_low (s : List UInt8) : ∀ (f : Nat) (out : List Mt.M) (i : Nat) (r : List Mt.M) (p : Nat), Sl.loop s f out i = .ok r p → out.length ≤ 64 → (∀ m ∈ out, Low s.length m) → r.length ≤ 64 ∧ ∀ m ∈ r, Low s.length m
 | 0, out, i, r, p, h, _, _ => by unfold Sl.loop at h; cases h
 | f + 1, out, i, r, p, h, h1, h2 => by
   unfold Sl.loop at h
   split at h
   · cases h
   rename_i hc
   split at h
   · cases h
   rename_i m q hm
   have hend := Sl.take_end hm
   have hlow := mtake_low hm
   have h3 : (out ++ [m]).length ≤ 64 := by
    rw [List.length_append, List.length_singleton]
    omega
   have h4 : ∀ x ∈ out ++ [m], Low s.length x := fun x hx => by
    rcases List.mem_append.1 hx with hx | hx
    · exact h2 x hx
    · obtain rfl := List.mem_singleton.1 hx; exact hlow
   split at h
   · cases h; exact ⟨h3, h4⟩
   split at h
   · unfold Sl.other at h; split at h <;> cases h
   split at h
   · unfold Sl.other at h; split at h <;> cases h
   exact loop_low s f _ _ r p h h3 h4
theorem parse_low (s : List UInt8) : (Sl.parse s).1.length ≤ 64 ∧ ∀ m ∈ (Sl.parse s).1, Low s.length m := by
 unfold Sl.parse
 cases h : Sl.take s 0 with
 | bad e p => exact ⟨by simp, fun m hm => by cases hm⟩
 | ok l p =>
   have key : l.length ≤ 64 ∧ ∀ m ∈ l, Low s.length m := by
    unfold Sl.take at h
    split at h
    · cases h
    split at h
    · unfold Sl.other at h; split at h <;> cases h
    split at h
    · cases h; exact ⟨by simp, fun m hm => by cases hm⟩
    exact loop_low s _ _ _ _ _ h (by simp) (fun m hm => by cases hm)
   dsimp only
   split
   · exact ⟨by simp, fun m hm => by cases hm⟩
   · exact key
theorem splitL_len : ∀ l : List UInt8, (Nm.splitL l).length ≤ l.length + 1
 | [] => by simp [Nm.splitL]
 | c :: r => by
   have := splitL_len r
   unfold Nm.splitL
   split
   · simp; omega
   · cases h : Nm.splitL r with
     | nil => simp [Nm.attach]
     | cons x xs => rw [h] at this; simp [Nm.attach] at this ⊢; omega
section
variable {N : Nat} (hT : ∀ g : GMatcher, g.Value.size ≤ 1200 → g.Name.size ≤ 100 → matcher_Text_g N g = some (Mt.ofL (Mt.text (toM g))) ∧ r22_Text_g N g = some (Mt.ofL (Mt.text (toM g))) ∧ (Mt.text (toM g)).length ≤ 6000)
include hT
theorem mid_sel {r : List UInt8} (hr : r.length ≤ 1000) (K Num : Int) : Mid N ⟨K, Num, [], (Sl.parse r).1.map ofM⟩ := by
 obtain ⟨h1, h2⟩ := parse_low r
 refine ⟨by simp, by rw [List.length_map]; omega, fun x hx => ?_⟩
 obtain ⟨m, hm, rfl⟩ := List.mem_map.1 hx
 have h3 := h2 m hm
 have := hT (ofM m) (by show m.val.size ≤ 1200; have := h3.1; omega) (by show m.name.size ≤ 100; have := h3.2; omega)
 exact ⟨⟨this.1, this.2.2⟩, this.2.1⟩
omit hT in
theorem mid_words {l : List ByteArray} (hl : l.length ≤ 1000) (K Num : Int) : Mid N ⟨K, Num, l, []⟩ := ⟨hl, by simp, fun x hx => by cases hx⟩
theorem mid_cand {s : List UInt8} (hs : s.length ≤ 900) : Mid N (Cv.cand s) := by
 have hc : (Lib.cut s [32]).2.1.length ≤ 900 := by
  unfold Lib.cut
  split
  · simp; omega
  · simp
 unfold Cv.cand
 split
 · exact mid_words (by simp) _ _
 split
 · exact mid_sel hT (by omega) _ _
 · refine mid_words ?_ _ _
   split
   · unfold Cv.split
     rw [List.length_map]
     have := splitL_len (Lib.cut s [32]).2.1
     omega
   · simp
end
end Pl
end Go.Proofs.YtagppjldegblhaaGreatDoor
namespace Go.Proofs.YtagppjldegblhaaGreatDoor
open Go Go.RowKit
open Sh Gn
namespace Pl
def idxL (w : ByteArray) : List ByteArray → Int → Int
 | [], _ => -1
 | a :: r, k => if w = a then k else idxL w r (k + 1)
theorem idxL_from (l : List ByteArray) (w : ByteArray) (hl : l.length ≤ 100000) : ∀ (m k : Nat), k ≤ l.length → l.length < k + m → slices_Index_S_l1 l w m k = some (idxL w (l.drop k) k) := by
 intro m
 induction m with
 | zero => intro k h1 h2; omega
 | succ m ih =>
   intro k h1 h2
   rw [slices_Index_S_l1, cm_lss, cond_dec, ll_eq]
   by_cases c : k < l.length
   · rw [if_pos (by omega), at_get c, Option.bind_some, sc_eql, cond_dec, inc1 (by omega), List.drop_eq_getElem_cons c, idxL]
     by_cases g : w = l[k]
     · rw [if_pos g, if_pos g]
     · rw [if_neg g, if_neg g, ih (k + 1) (by omega) (by omega)]; rfl
   · rw [if_neg (by omega), List.drop_of_length_le (by omega)]; rfl
theorem list_inj {a b : ByteArray} (h : a.data.toList = b.data.toList) : a = b := by rw [← Mt.ofL_self a, h, Mt.ofL_self]
theorem kind_p {N : Nat} (hN : 100000 < N) (w : ByteArray) : ∃ j, slices_Index_S_g N T_kinds w = some j ∧ mx 0 j = Cv.kindOf w.data.toList := by
 have h := idxL_from T_kinds w (by decide) N 0 (by omega) (by show 8 < _; omega)
 refine ⟨_, h, ?_⟩
 rw [List.drop_zero]
 unfold T_kinds Cv.kindOf
 simp only [idxL]
 by_cases h0 : w = ByteArray.empty
 · subst h0; rw [if_pos rfl]; decide
 rw [if_neg h0]
 have key : ∀ k : ByteArray, w ≠ k → ¬ w.data.toList = k.data.toList := fun k hk e => hk (list_inj e)
 by_cases h1 : w = ByteArray.mk #[116, 101, 110, 97, 110, 116]
 · subst h1; rw [if_pos rfl]; decide
 rw [if_neg h1, if_neg (show ¬ w.data.toList = Cv.first 1 from key _ h1)]
 by_cases h2 : w = ByteArray.mk #[101, 110, 100, 112, 111, 105, 110, 116]
 · subst h2; rw [if_pos rfl]; decide
 rw [if_neg h2, if_neg (show ¬ w.data.toList = Cv.first 2 from key _ h2)]
 by_cases h3 : w = ByteArray.mk #[99, 108, 97, 115, 115]
 · subst h3; rw [if_pos rfl]; decide
 rw [if_neg h3, if_neg (show ¬ w.data.toList = Cv.first 3 from key _ h3)]
 by_cases h4 : w = ByteArray.mk #[100, 111]
 · subst h4; rw [if_pos rfl]; decide
 rw [if_neg h4, if_neg (show ¬ w.data.toList = Cv.first 4 from key _ h4)]
 by_cases h5 : w = ByteArray.mk #[98, 101, 102, 111, 114, 101]
 · subst h5; rw [if_pos rfl]; decide
 rw [if_neg h5, if_neg (show ¬ w.data.toList = Cv.first 5 from key _ h5)]
 by_cases h6 : w = ByteArray.mk #[97, 102, 116, 101, 114]
 · subst h6; rw [if_pos rfl]; decide
 rw [if_neg h6, if_neg (show ¬ w.data.toList = Cv.first 6 from key _ h6)]
 by_cases h7 : w = ByteArray.mk #[109, 97, 116, 99, 104]
 · subst h7; rw [if_pos rfl]; decide
 rw [if_neg h7, if_neg (show ¬ w.data.toList = Cv.first 7 from key _ h7)]
 rfl
theorem split_p {s : ByteArray} (hs : s.size ≤ 100000) : strings_Split_g s (ByteArray.mk #[32]) = some (Cv.split s.data.toList) := by
 unfold strings_Split_g
 rw [if_pos ⟨by omega, by decide⟩]
 congr 1
 have h := Lib.splitB_data (ByteArray.mk #[32]) 0 (Lib.countB s (ByteArray.mk #[32])) s
 have hc : Lib.countB s (ByteArray.mk #[32]) = Lib.count s.data.toList [32] := rfl
 rw [hc] at h ⊢
 have h2 : Lib.splitK (ByteArray.mk #[32]).data.toList 0 (Lib.count s.data.toList [32]) s.data.toList = Nm.splitL s.data.toList := Nm.splitK_splitL _ s.data.toList (Nat.le_refl _)
 rw [h2] at h
 unfold Cv.split
 rw [← h, List.map_map]
 conv => lhs; rw [← List.map_id (Lib.splitB (ByteArray.mk #[32]) 0 (Lib.count s.data.toList [32]) s)]
 exact List.map_congr_left fun x _ => (Mt.ofL_self x).symm
theorem words_from {N : Nat} (hN : 100000 < N) (l : List ByteArray) (hl : l.length ≤ 100000) : ∀ (m k : Nat), k ≤ l.length → l.length < k + m → name_Words_l1 N l m k = some (if (l.drop k).all wrd = true then (l, true) else ([], false)) := by
 intro m
 induction m with
 | zero => intro k h1 h2; omega
 | succ m ih =>
   intro k h1 h2
   rw [name_Words_l1, cm_lss, cond_dec, ll_eq]
   by_cases c : k < l.length
   · rw [if_pos (by omega), at_get c, Option.bind_some, word_p (by omega), Option.bind_some, inc1 (by omega), List.drop_eq_getElem_cons c, List.all_cons]
     cases g : wrd l[k] with
     | false => rfl
     | true => rw [Bool.not_true, cond_false, ih (k + 1) (by omega) (by omega), Bool.true_and]
   · rw [if_neg (by omega), List.drop_of_length_le (by omega)]; rfl
theorem nwords_p {N : Nat} (hN : 100000 < N) {s : ByteArray} (hs : s.size ≤ 10000) : name_Words_g N s = some (if (Cv.split s.data.toList).all (fun w => Nm.wordB w.data.toList) = true then (Cv.split s.data.toList, true) else ([], false)) := by
 unfold name_Words_g
 rw [split_p (by omega), Option.bind_some]
 have hl : (Cv.split s.data.toList).length ≤ 100000 := by
  unfold Cv.split
  have := splitL_len s.data.toList
  rw [List.length_map]
  rw [size_list] at this
  omega
 have := words_from hN (Cv.split s.data.toList) hl N 0 (by omega) (by omega)
 rw [List.drop_zero] at this
 exact this
theorem atoi_p {s : ByteArray} (hs : s.size ≤ 100000) : strconv_Atoi_g s = some (Cv.atoi s.data.toList) := by
 unfold strconv_Atoi_g
 rw [if_pos (by omega)]
 rfl
theorem scut_p {s : ByteArray} (hs : s.size ≤ 100000) : strings_Cut_g s (ByteArray.mk #[32]) = some (Mt.ofL (Lib.cut s.data.toList [32]).1, Mt.ofL (Lib.cut s.data.toList [32]).2.1, (Lib.cut s.data.toList [32]).2.2) := by
 unfold strings_Cut_g
 rw [if_pos (by omega)]
 rfl
end Pl
namespace Cv
def parse (s : List UInt8) : GCaveat × Bool := if right (cand s) = true ∧ text (cand s) = s then (cand s, true) else (⟨0, 0, [], []⟩, false)
end Cv
namespace Pl
theorem sc_text (c : GCaveat) (s : ByteArray) : sc .eql (Mt.ofL (Cv.text c)) s = decide (Cv.text c = s.data.toList) := by
 rw [sc_eql]
 exact decide_eq_decide.2 ⟨fun h => by rw [← h, Mt.ofL_list], fun h => by rw [h, Mt.ofL_self]⟩
theorem try_p {N : Nat} (hN : 100000 < N) {c : GCaveat} (h : Mid N c) (s : ByteArray) :
 (((caveat_Right_g N c).bind fun a4 => cond (!a4) (some true) ((caveat_Text_g N c).bind fun a5 => some (sc .neq a5 s)) : Option Bool).bind fun j2 => cond j2 (some ((⟨0, 0, [], []⟩ : GCaveat), false)) (some (c, true)))
   = some (if Cv.right c = true ∧ Cv.text c = s.data.toList then (c, true) else (⟨0, 0, [], []⟩, false)) := by
 rw [cright_p hN h, ctext_p hN h]
 simp only [Option.bind_some]
 have e : sc .neq (Mt.ofL (Cv.text c)) s = !decide (Cv.text c = s.data.toList) := by rw [← sc_text]; rfl
 rw [e]
 cases r : Cv.right c with
 | false => rfl
 | true =>
   by_cases g : Cv.text c = s.data.toList
   · rw [decide_eq_true g, if_pos ⟨rfl, g⟩]; rfl
   · rw [decide_eq_false g, if_neg fun h => g h.2]; rfl
section
variable {N : Nat} (hN : 200000 ≤ N) (hT : ∀ g : GMatcher, g.Value.size ≤ 1200 → g.Name.size ≤ 100 → matcher_Text_g N g = some (Mt.ofL (Mt.text (toM g))) ∧ r22_Text_g N g = some (Mt.ofL (Mt.text (toM g))) ∧ (Mt.text (toM g)).length ≤ 6000)
include hN hT
omit hT in
theorem cparse_m {s : ByteArray} (hs : s.size ≤ 2048) (hm : Mid N (Cv.cand s.data.toList)) : caveat_Parse_g N s = some (Cv.parse s.data.toList) := by
 have hc : (Lib.cut s.data.toList [32]).2.1.length ≤ 2048 := by
  have := size_list s
  unfold Lib.cut
  split
  · simp; omega
  · simp
 unfold caveat_Parse_g Cv.parse
 rw [cm_gtr, cond_dec, sl_eq, if_neg (by omega), scut_p (by omega), Option.bind_some]
 obtain ⟨j, h1, h2⟩ := kind_p (N := N) (by omega) (Mt.ofL (Lib.cut s.data.toList [32]).1)
 rw [h1, Option.bind_some, h2, Mt.ofL_list]
 simp only [cm_eql, cond_dec]
 rw [atoi_p (by rw [ofL_size]; omega), sparse_p hN (by rw [ofL_size]; omega), nwords_p (by omega) (by rw [ofL_size]; omega)]
 simp only [Option.bind_some, Mt.ofL_list]
 unfold Cv.cand at hm ⊢
 generalize hk : Cv.kindOf (Lib.cut s.data.toList [32]).1 = K at hm ⊢
 generalize (Lib.cut s.data.toList [32]).2.1 = r at hm ⊢
 by_cases k5 : K = 5
 · rw [if_pos (.inl k5)] at hm
   simp only [k5, if_true, decide_true, Option.bind_some, _root_.cond_true, true_or]
   rw [k5] at hm
   exact try_p (by omega) hm s
 by_cases k6 : K = 6
 · rw [if_pos (.inr k6)] at hm
   simp only [k6, k5, if_true, if_false, decide_true, Option.bind_some, _root_.cond_true, or_true, Int.reduceEq]
   rw [k6] at hm
   exact try_p (by omega) hm s
 have k56 : ¬ (K = 5 ∨ K = 6) := by omega
 rw [if_neg k56] at hm
 by_cases k7 : K = 7
 · rw [if_pos k7] at hm
   simp only [k7, if_true, if_false, decide_false, Option.bind_some, cond_false, Int.reduceEq, or_self]
   exact try_p (by omega) hm s
 · rw [if_neg k7] at hm
   simp only [k5, k6, k7, if_false, decide_false, Option.bind_some, cond_false, or_self]
   have e : (if (Cv.split r).all (fun w => Nm.wordB w.data.toList) = true then (Cv.split r, true) else ([], false)).1 = if (Cv.split r).all (fun w => Nm.wordB w.data.toList) = true then Cv.split r else [] := by split <;> rfl
   rw [e]
   exact try_p (by omega) hm s
theorem cparse_p {s : ByteArray} (hs : s.size ≤ 900) : caveat_Parse_g N s = some (Cv.parse s.data.toList) := cparse_m hN (by omega) (mid_cand hT (by rw [size_list]; exact hs))
end
end Pl
end Go.Proofs.YtagppjldegblhaaGreatDoor
