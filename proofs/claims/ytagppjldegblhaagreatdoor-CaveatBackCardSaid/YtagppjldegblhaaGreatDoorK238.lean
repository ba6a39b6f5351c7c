/- Texts that the proof leans on. -/
import Derived.Test.YtagppjldegblhaaGreatDoorK237
set_option linter.unusedVariables false
set_option linter.unusedSimpArgs false
set_option maxRecDepth 100000
set_option maxHeartbeats 4000000
namespace Go.Proofs.YtagppjldegblhaaGreatDoor
open Go
open Sh Gn
namespace Pl
theorem ite_to {p : Prop} [Decidable p] : (if p then some true else some false) = some (decide p) := by by_cases p <;> simp_all
theorem rdig_p {c : Nat} (h : c < 256) : r10_digit_g (c : Int) = some (if Qu.dig c = 16 then -1 else (Qu.dig c : Int)) := by
 unfold r10_digit_g
 rw [cv_i64 (by omega) (by omega)]
 simp only [cm_geq, cm_leq, cond_dec, ite_and, Option.bind_some]
 by_cases a : 48 ≤ c ∧ c ≤ 57
 · have e : Qu.dig c = c - 48 := by unfold Qu.dig; rw [if_pos a]
   rw [if_pos (by omega), if_neg (by omega), ar_sub (by omega) (by omega), e]
   congr 1; omega
 · rw [if_neg (by omega)]
   by_cases b : 97 ≤ c ∧ c ≤ 102
   · have e : Qu.dig c = c - 87 := by unfold Qu.dig; rw [if_neg a, if_pos b]
     rw [if_pos (by omega), if_neg (by omega), ar_sub (by omega) (by omega), e]
     congr 1; omega
   · have e : Qu.dig c = 16 := by unfold Qu.dig; rw [if_neg a, if_neg b]
     rw [if_neg (by omega), if_pos e]
theorem byte_p {n : Nat} (h : n < 256) : r02_Byte_g (n : Int) = some ⟨#[UInt8.ofNat n]⟩ := by
 unfold r02_Byte_g
 have e : cv .u8 (n : Int) = (((UInt8.ofNat n).toNat : Nat) : Int) := by
  show IntKind.u8.wrap _ = _
  rw [IntKind.wrap_u8, UInt8.toNat_ofNat']
  omega
 rw [e]
 have := str_map [UInt8.ofNat n]
 simp only [List.map_cons, List.map_nil] at this
 rw [Option.bind_some, this]; rfl
section
variable {s : ByteArray} {i : Nat}
def escR (e : Qu.Esc) : ByteArray × Int := match e with | .ok b n => (⟨#[UInt8.ofNat b]⟩, (n : Int)) | .bad e => (ByteArray.empty, if e = 1 then -1 else 0)
theorem resc_p (hs : s.size ≤ 100000) (hi : i ≤ s.size) : r10_Escape_g s i = some (escR (Qu.esc s.data.toList i)) := by
 unfold r10_Escape_g Qu.esc
 have b1 := Qu.bt_lt s.data.toList (i + 1)
 have b2 := Qu.bt_lt s.data.toList (i + 2)
 have b3 := Qu.bt_lt s.data.toList (i + 3)
 have e1 := inc (show i ≤ 100000000 by omega) 1 (by omega)
 have e2 := inc (show i ≤ 100000000 by omega) 2 (by omega)
 have e3 := inc (show i ≤ 100000000 by omega) 3 (by omega)
 have e1 : ar .add .i64 (i : Int) 1 = ((i + 1 : Nat) : Int) := e1
 have e2 : ar .add .i64 (i : Int) 2 = ((i + 2 : Nat) : Int) := e2
 have e3 : ar .add .i64 (i : Int) 3 = ((i + 3 : Nat) : Int) := e3
 have es : ar .sub .i64 (s.size : Int) (i : Int) = (s.size : Int) - i := ar_sub (by omega) (by omega)
 simp only [sl_eq, es, e1, e2, e3, cm_lss, cm_eql, cm_neq, cond_not, cond_dec, sa_bt, size_list, rdig_p b2, rdig_p b3, Option.bind_some]
 by_cases c : s.size < i + 2
 · have c' : (s.size : Int) - i < 2 := by omega
   simp only [c, c', if_true]; rfl
 have c' : ¬ (s.size : Int) - i < 2 := by omega
 simp only [c, c', if_false, sin_in (show i + 1 < s.size by omega), _root_.cond_true, ite_or, Option.bind_some, cond_dec]
 by_cases d1 : Qu.bt s.data.toList (i + 1) = 34 ∨ Qu.bt s.data.toList (i + 1) = 92
 · have d1' : (Qu.bt s.data.toList (i + 1) : Int) = 34 ∨ (Qu.bt s.data.toList (i + 1) : Int) = 92 := by omega
   simp only [d1, d1', if_true, ssin_nat (s := s) (show i + 1 ≤ i + 2 by omega) (by omega), _root_.cond_true]
   show some (ss s ((i + 1 : Nat) : Int) ((i + 2 : Nat) : Int), (2 : Int)) = some ((⟨#[UInt8.ofNat _]⟩ : ByteArray), (2 : Int))
   congr 2
   apply ByteArray.ext
   apply Array.ext'
   rw [ss_list (by omega) (by omega), show i + 2 - (i + 1) = 1 by omega, Qu.take_byte (by rw [size_list]; omega)]
 have d1' : ¬ ((Qu.bt s.data.toList (i + 1) : Int) = 34 ∨ (Qu.bt s.data.toList (i + 1) : Int) = 92) := by omega
 simp only [d1, d1', if_false]
 by_cases d2 : Qu.bt s.data.toList (i + 1) = 120
 case neg =>
  have d2' : ¬ (Qu.bt s.data.toList (i + 1) : Int) = 120 := by omega
  simp only [d2, d2', if_false, ne_eq, not_false_eq_true, if_true]; rfl
 have d2' : (Qu.bt s.data.toList (i + 1) : Int) = 120 := by omega
 simp only [d2, d2', if_true, ne_eq, not_true_eq_false, if_false]
 by_cases c3 : s.size < i + 3
 · have c3' : (s.size : Int) - i < 3 := by omega
   simp only [c3, c3', if_true]; rfl
 have c3' : ¬ (s.size : Int) - i < 3 := by omega
 simp only [c3, c3', if_false, sin_in (show i + 2 < s.size by omega), _root_.cond_true]
 have g2 := dig_le (Qu.bt s.data.toList (i + 2))
 have g3 := dig_le (Qu.bt s.data.toList (i + 3))
 by_cases f2 : Qu.dig (Qu.bt s.data.toList (i + 2)) = 16
 · simp only [f2, if_true]; rfl
 have f2' : ¬ (Qu.dig (Qu.bt s.data.toList (i + 2)) : Int) < 0 := by omega
 simp only [f2, f2', if_false]
 by_cases c4 : s.size < i + 4
 · have c4' : (s.size : Int) - i < 4 := by omega
   simp only [c4, c4', if_true]; rfl
 have c4' : ¬ (s.size : Int) - i < 4 := by omega
 simp only [c4, c4', if_false, sin_in (show i + 3 < s.size by omega), _root_.cond_true]
 by_cases f3 : Qu.dig (Qu.bt s.data.toList (i + 3)) = 16
 · simp only [f3, if_true]; rfl
 have f3' : ¬ (Qu.dig (Qu.bt s.data.toList (i + 3)) : Int) < 0 := by omega
 simp only [f3, f3', if_false]
 have e4 : ar .add .i64 (ar .mul .i64 16 (Qu.dig (Qu.bt s.data.toList (i + 2)) : Int)) (Qu.dig (Qu.bt s.data.toList (i + 3)) : Int) = ((16 * Qu.dig (Qu.bt s.data.toList (i + 2)) + Qu.dig (Qu.bt s.data.toList (i + 3)) : Nat) : Int) := by
  rw [ar_mul (by omega) (by omega), ar_add (by omega) (by omega)]; omega
 rw [e4, byte_p (by omega)]
 rfl
end
end Pl
end Go.Proofs.YtagppjldegblhaaGreatDoor
namespace Go.Proofs.YtagppjldegblhaaGreatDoor
open Go
open Sh Gn
namespace Pl
def gotV (g : Qu.Got) : ByteArray × Int × GFault := match g with | .ok t p => (⟨t.toArray⟩, (p : Int), ⟨0, 0⟩) | .bad e p => (ByteArray.empty, 0, ⟨(e : Int), (p : Int)⟩)
def ints (l : List UInt8) : List Int := l.map fun b => (b.toNat : Int)
theorem esc_bad {l : List UInt8} {i e : Nat} (h : Qu.esc l i = .bad e) : e = 1 ∨ e = 2 := by
 unfold Qu.esc at h
 repeat' split at h
 all_goals first | cases h | skip
 all_goals first | exact .inl rfl | exact .inr rfl
section
variable {s : ByteArray}
theorem qread_from {N : Nat} (hN : 20 ≤ N) (hs : s.size ≤ 100000) : ∀ (m i : Nat) (out : List UInt8), i ≤ s.size → s.size < i + m → out.length ≤ i → quote_Read_l1 N s m i (ints out) = some (gotV (Qu.go s.data.toList out i)) := by
 intro m
 induction m with
 | zero => intro i out h1 h2; omega
 | succ m ih =>
   intro i out h1 h2 h3
   unfold quote_Read_l1
   rw [cm_lss, cond_dec, sl_eq]
   by_cases c : i < s.size
   case neg =>
    rw [if_neg (by omega), Qu.go_end (by rw [size_list]; omega), size_list]; rfl
   rw [if_pos (by omega), Qu.go_in (by rw [size_list]; exact c)]
   have hd := dec_cp (s := s) (i := i) c
   rw [sl_eq] at hd
   have hin := ssin_end (s := s) (i := i) (by omega)
   rw [sl_eq] at hin
   have hb := Qu.bt_lt s.data.toList i
   have h34 := Qu.cp_small s.data.toList i 34 (by decide)
   have h92 := Qu.cp_small s.data.toList i 92 (by decide)
   have hu := Qu.unit_le (l := s.data.toList) (i := i) (by rw [size_list]; exact c)
   have hu1 := Qu.unit_pos s.data.toList i
   rw [size_list] at hu
   have e1 := inc1 (show i ≤ 100000000 by omega)
   have hstr : strB (ints out) = some ⟨out.toArray⟩ := str_map out
   have hesc := qesc_p (s := s) (i := i) hN hs h1
   rw [sl_eq] at hesc
   simp only [hin, _root_.cond_true, hd, Option.bind_some, cm_eql, cm_neq, cond_not, cond_dec, plain_p, hstr, hesc, e1]
   by_cases d1 : Qu.bt s.data.toList i = 34
   · have d1' : (Qu.cp s.data.toList i : Int) = 34 := by have := h34.2 d1; omega
     simp only [d1, d1', if_true]; rfl
   have d1' : ¬ (Qu.cp s.data.toList i : Int) = 34 := fun e => d1 (h34.1 (by omega))
   simp only [d1, d1', if_false]
   by_cases d2 : Qu.bt s.data.toList i = 92
   · have d2' : (Qu.cp s.data.toList i : Int) = 92 := by have := h92.2 d2; omega
     simp only [d2', if_true]
     unfold Qu.un
     rw [if_pos d2]
     cases hE : Qu.esc s.data.toList i with
     | ok b n =>
       have hb := Qu.esc_two hE
       rw [size_list] at hb
       have ea : ar .add .i64 (i : Int) (n : Int) = ((i + n : Nat) : Int) := by rw [ar_add (by omega) (by omega)]; omega
       have z1 : ¬ (0 : Int) = 1 := by decide
       have eb : ((UInt8.ofNat b).toNat : Int) = (b : Int) := by rw [UInt8.toNat_ofNat']; omega
       simp only [escI, z1, if_false, if_true, app_eq (show (ints out).length + [(b : Int)].length ≤ 1000000000 by simp [ints]; omega), Option.bind_some, ea]
       have := ih (i + n) (out ++ [UInt8.ofNat b]) hb.2.1 (by omega) (by rw [List.length_append, List.length_singleton]; omega)
       rw [← this]
       unfold ints
       rw [List.map_append, List.map_cons, List.map_nil, eb]
     | bad e =>
       have he := esc_bad hE
       simp only [escI]
       rcases he with rfl | rfl
       · show _ = some (gotV (.bad 1 s.data.toList.length))
         rw [size_list]; rfl
       · rfl
   · have d2' : ¬ (Qu.cp s.data.toList i : Int) = 92 := fun e => d2 (h92.1 (by omega))
     simp only [d2', if_false]
     unfold Qu.un
     rw [if_neg d2]
     cases g : Qu.safe s.data.toList i with
     | false =>
       simp only [cond_false, Bool.false_eq_true, if_false]; rfl
     | true =>
       have ea : ar .add .i64 (i : Int) (Qu.unit s.data.toList i : Int) = ((i + Qu.unit s.data.toList i : Nat) : Int) := by rw [ar_add (by omega) (by omega)]; omega
       have eb : Sh.bytes (ss s (i : Int) ((i + Qu.unit s.data.toList i : Nat) : Int)) = ints ((s.data.toList.drop i).take (Qu.unit s.data.toList i)) := by
        unfold Sh.bytes ints
        rw [ss_list (by omega) (by omega), Nat.add_sub_cancel_left]
       have hl : ((s.data.toList.drop i).take (Qu.unit s.data.toList i)).length = Qu.unit s.data.toList i := by
        rw [List.length_take, List.length_drop, size_list]; omega
       simp only [_root_.cond_true, if_true, ea, ssin_nat (s := s) (show i ≤ i + Qu.unit s.data.toList i by omega) hu, eb, app_eq (show (ints out).length + (ints ((s.data.toList.drop i).take (Qu.unit s.data.toList i))).length ≤ 1000000000 by simp only [ints, List.length_map, hl]; omega), Option.bind_some]
       have := ih (i + Qu.unit s.data.toList i) (out ++ (s.data.toList.drop i).take (Qu.unit s.data.toList i)) hu (by omega) (by rw [List.length_append, hl]; omega)
       rw [← this]
       unfold ints
       rw [List.map_append]
theorem rread_from {N : Nat} (hN : 20 ≤ N) (hs : s.size ≤ 100000) : ∀ (m i : Nat) (out : List UInt8), i ≤ s.size → s.size < i + m → out.length ≤ i → r10_Read_l1 N s m ⟨out.toArray⟩ i = some (gotV (Qu.go s.data.toList out i)) := by
 intro m
 induction m with
 | zero => intro i out h1 h2; omega
 | succ m ih =>
   intro i out h1 h2 h3
   unfold r10_Read_l1
   rw [cm_lss, cond_dec, sl_eq]
   by_cases c : i < s.size
   case neg =>
    rw [if_neg (by omega), Qu.go_end (by rw [size_list]; omega), size_list]; rfl
   rw [if_pos (by omega), Qu.go_in (by rw [size_list]; exact c)]
   have hb := Qu.bt_lt s.data.toList i
   have hu := Qu.unit_le (l := s.data.toList) (i := i) (by rw [size_list]; exact c)
   have hu1 := Qu.unit_pos s.data.toList i
   rw [size_list] at hu
   have e1 := inc1 (show i ≤ 100000000 by omega)
   have hcat : ∀ (t : List UInt8) (n : Nat), i + n ≤ s.size → t.length ≤ n → ctB ⟨out.toArray⟩ ⟨t.toArray⟩ = true := fun t n hn ht => by
    unfold ctB
    refine decide_eq_true ?_
    show out.toArray.size + t.toArray.size ≤ _
    rw [List.size_toArray, List.size_toArray]; omega
   have hct : ∀ t : List UInt8, ct (⟨out.toArray⟩ : ByteArray) ⟨t.toArray⟩ = ⟨(out ++ t).toArray⟩ := fun t => by
    apply ByteArray.ext
    show ((⟨out.toArray⟩ : ByteArray) ++ ⟨t.toArray⟩).data = _
    rw [ByteArray.data_append]
    simp
   simp only [sin_in c, ssin_nat (s := s) (Nat.le_refl i) h1, _root_.cond_true, sa_bt, Option.bind_some, cm_eql, cm_neq, cm_lss, cond_not, cond_dec, rsafe_p hN hs c, rrune_p hN hs c, resc_p hs h1, e1]
   by_cases d1 : Qu.bt s.data.toList i = 34
   · have d1' : (Qu.bt s.data.toList i : Int) = 34 := by omega
     simp only [d1, d1', if_true]; rfl
   have d1' : ¬ (Qu.bt s.data.toList i : Int) = 34 := by omega
   simp only [d1, d1', if_false]
   unfold Qu.un
   by_cases d2 : Qu.bt s.data.toList i = 92
   · have d2' : (Qu.bt s.data.toList i : Int) = 92 := by omega
     rw [if_pos d2]
     simp only [d2', if_true, Option.bind_some]
     cases hE : Qu.esc s.data.toList i with
     | ok b n =>
       have hb := Qu.esc_two hE
       rw [size_list] at hb
       have ea : ar .add .i64 (i : Int) (n : Int) = ((i + n : Nat) : Int) := by rw [ar_add (by omega) (by omega)]; omega
       have z1 : ¬ (n : Int) < 0 := by omega
       have z2 : ¬ (n : Int) = 0 := by omega
       have hc := hcat [UInt8.ofNat b] n hb.2.1 (by simp; omega)
       have hc2 := hct [UInt8.ofNat b]
       simp only [escR, z1, z2, if_false, ea]
       rw [show ctB (⟨out.toArray⟩ : ByteArray) ⟨#[UInt8.ofNat b]⟩ = true from hc, show ct (⟨out.toArray⟩ : ByteArray) ⟨#[UInt8.ofNat b]⟩ = _ from hc2, _root_.cond_true]
       exact ih (i + n) (out ++ [UInt8.ofNat b]) hb.2.1 (by omega) (by rw [List.length_append, List.length_singleton]; omega)
     | bad e =>
       have he := esc_bad hE
       simp only [escR]
       rcases he with rfl | rfl
       · show _ = some (gotV (.bad 1 s.data.toList.length))
         rw [size_list]; rfl
       · rfl
   · have d2' : ¬ (Qu.bt s.data.toList i : Int) = 92 := by omega
     simp only [d2, d2', if_false]
     cases g : Qu.safe s.data.toList i with
     | false =>
       have z : ¬ (0 : Int) < 0 := by decide
       simp only [cond_false, Bool.false_eq_true, if_false, Option.bind_some, z, if_true]; rfl
     | true =>
       have hr : 0 < Qu.rune s.data.toList i := by
        unfold Qu.safe at g
        simp only [Bool.and_eq_true, decide_eq_true_eq] at g
        exact g.1.1
       have hur : Qu.unit s.data.toList i = Qu.rune s.data.toList i := by unfold Qu.unit; rw [if_neg (by omega)]
       rw [hur] at hu ⊢
       have ea : ar .add .i64 (i : Int) (Qu.rune s.data.toList i : Int) = ((i + Qu.rune s.data.toList i : Nat) : Int) := by rw [ar_add (by omega) (by omega)]; omega
       have eb : ss s (i : Int) ((i + Qu.rune s.data.toList i : Nat) : Int) = ⟨((s.data.toList.drop i).take (Qu.rune s.data.toList i)).toArray⟩ := by
        apply ByteArray.ext
        apply Array.ext'
        rw [ss_list (by omega) (by omega), Nat.add_sub_cancel_left]
       have hl : ((s.data.toList.drop i).take (Qu.rune s.data.toList i)).length = Qu.rune s.data.toList i := by
        rw [List.length_take, List.length_drop, size_list]; omega
       have z1 : ¬ (Qu.rune s.data.toList i : Int) < 0 := by omega
       have z2 : ¬ (Qu.rune s.data.toList i : Int) = 0 := by omega
       simp only [_root_.cond_true, if_true, ea, ssin_nat (s := s) (show i ≤ i + Qu.rune s.data.toList i by omega) hu, eb, Option.bind_some, z1, z2, if_false, hct, hcat _ _ hu (Nat.le_of_eq hl)]
       exact ih (i + Qu.rune s.data.toList i) (out ++ (s.data.toList.drop i).take (Qu.rune s.data.toList i)) hu (by omega) (by rw [List.length_append, hl]; omega)
theorem qread_p {N : Nat} (hN : 200000 ≤ N) (hs : s.size ≤ 100000) (p : Int) : quote_Read_g N s p = some (gotV (Qu.read s.data.toList p)) := by
 unfold quote_Read_g Qu.read
 simp only [cm_lss, cm_gtr, cm_eql, cm_neq, cond_not, cond_dec, sl_eq, ite_or, Option.bind_some, size_list]
 by_cases c1 : p < 0 ∨ (s.size : Int) < p
 · rw [if_pos c1, if_pos c1]; rfl
 rw [if_neg c1, if_neg c1]
 obtain ⟨i, rfl⟩ : ∃ i : Nat, p = i := ⟨p.toNat, by omega⟩
 rw [Int.toNat_natCast]
 by_cases c2 : (i : Int) = s.size
 · rw [if_pos c2, if_pos c2]; rfl
 rw [if_neg c2, if_neg c2, sin_in (by omega), _root_.cond_true, sa_bt]
 by_cases c3 : Qu.bt s.data.toList i = 34
 · rw [if_pos (by omega), if_neg (by omega), inc1 (by omega), show s.size + 1 = s.data.toList.length + 1 by rw [size_list]]
   exact qread_from (by omega) hs N (i + 1) [] (by omega) (by omega) (by simp)
 · rw [if_neg (by omega), if_pos c3]; rfl
theorem rread_p {N : Nat} (hN : 200000 ≤ N) (hs : s.size ≤ 100000) (p : Int) : r10_Read_g N s p = some (gotV (Qu.read s.data.toList p)) := by
 unfold r10_Read_g Qu.read
 simp only [cm_lss, cm_gtr, cm_eql, cm_neq, cond_not, cond_dec, sl_eq, ite_or, Option.bind_some, size_list]
 by_cases c1 : p < 0 ∨ (s.size : Int) < p
 · rw [if_pos c1, if_pos c1]; rfl
 rw [if_neg c1, if_neg c1]
 obtain ⟨i, rfl⟩ : ∃ i : Nat, p = i := ⟨p.toNat, by omega⟩
 rw [Int.toNat_natCast]
 by_cases c2 : (i : Int) = s.size
 · rw [if_pos c2, if_pos c2]; rfl
 rw [if_neg c2, if_neg c2, sin_in (by omega), _root_.cond_true, sa_bt]
 by_cases c3 : Qu.bt s.data.toList i = 34
 · rw [if_pos (by omega), if_neg (by omega), inc1 (by omega), show s.size + 1 = s.data.toList.length + 1 by rw [size_list]]
   exact rread_from (by omega) hs N (i + 1) [] (by omega) (by omega) (by simp)
 · rw [if_neg (by omega), if_pos c3]; rfl
end
end Pl
end Go.Proofs.YtagppjldegblhaaGreatDoor
namespace Go.Proofs.YtagppjldegblhaaGreatDoor
open Go
open Sh Gn
namespace Pl
theorem ba_eq {s t : ByteArray} : s = t ↔ s.data.toList = t.data.toList :=
 ⟨fun h => by rw [h], fun h => ByteArray.ext (Array.ext' h)⟩
theorem prefix_p (t : ByteArray) (p : List UInt8) : strings_HasPrefix_g t (Mt.ofL p) = some (decide (t.data.toList.take p.length = p)) := by
 have hz : (Mt.ofL p).size = p.length := by rw [← size_list, Mt.ofL_list]
 unfold strings_HasPrefix_g internal_stringslite_HasPrefix_g
 rw [cm_geq, cond_dec, sl_eq, sl_eq, sc_eql, hz]
 by_cases c : p.length ≤ t.size
 · have e := ss_list (s := t) (i := 0) (j := p.length) (by omega) c
   have e : (ss t 0 (p.length : Int)).data.toList = (t.data.toList.drop 0).take (p.length - 0) := e
   have hin : ssinB t 0 (p.length : Int) = true := ssin_nat (s := t) (i := 0) (j := p.length) (by omega) c
   rw [if_pos (by omega), hin, _root_.cond_true, Option.bind_some, Option.bind_some]
   congr 1
   refine decide_eq_decide.2 ?_
   rw [ba_eq, e, Mt.ofL_list]; rfl
 · rw [if_neg (by omega)]
   refine congrArg some (decide_eq_false fun h => ?_).symm
   have := congrArg List.length h
   rw [List.length_take, size_list] at this
   omega
theorem take1 (l : List UInt8) (a : UInt8) (ha : a.toNat ≠ 0) : l.take 1 = [a] ↔ Qu.bt l 0 = a.toNat := by
 cases l with
 | nil => simp [Qu.bt]; omega
 | cons x r => simp [Qu.bt, UInt8.toNat_inj]
theorem take2 (l : List UInt8) (a b : UInt8) (ha : a.toNat ≠ 0) (hb : b.toNat ≠ 0) : l.take 2 = [a, b] ↔ Qu.bt l 0 = a.toNat ∧ Qu.bt l 1 = b.toNat := by
 match l with
 | [] => simp [Qu.bt]; omega
 | [x] => simp [Qu.bt]; omega
 | x :: y :: r => simp [Qu.bt, UInt8.toNat_inj]
section
variable {s : ByteArray} {i : Nat}
theorem op_p {N : Nat} (hN : 20 ≤ N) (hs : s.size ≤ 100000) (hi : i ≤ s.size) : matcher_op_g N s i = some (if Mt.opAt s.data.toList i = 0 then (0, ⟨((Mt.opBad s.data.toList i).1 : Int), ((Mt.opBad s.data.toList i).2 : Int)⟩) else ((Mt.opAt s.data.toList i : Int), ⟨0, 0⟩)) := by
 obtain ⟨m, rfl⟩ : ∃ m, N = m + 5 := ⟨N - 5, by omega⟩
 obtain ⟨t, ht⟩ : ∃ t, t = ss s (i : Int) (sl s) := ⟨_, rfl⟩
 have hb : ∀ j, Qu.bt t.data.toList j = Qu.bt s.data.toList (i + j) := fun j => by rw [ht, ss_end hi, Qu.bt_drop]
 have hz : t.size = s.size - i := by rw [ht]; exact size_end hi
 have l0 : ∀ m, matcher_op_l1 s i (m + 1) 0 = (strings_HasPrefix_g t (Mt.ofL [61, 126])).bind fun a => cond a (some (3, ⟨0, 0⟩)) (matcher_op_l1 s i m 1) := fun m => by rw [ht]; rfl
 have l1 : ∀ m, matcher_op_l1 s i (m + 1) 1 = (strings_HasPrefix_g t (Mt.ofL [33, 126])).bind fun a => cond a (some (4, ⟨0, 0⟩)) (matcher_op_l1 s i m 2) := fun m => by rw [ht]; rfl
 have l2 : ∀ m, matcher_op_l1 s i (m + 1) 2 = (strings_HasPrefix_g t (Mt.ofL [33, 61])).bind fun a => cond a (some (2, ⟨0, 0⟩)) (matcher_op_l1 s i m 3) := fun m => by rw [ht]; rfl
 have l3 : ∀ m, matcher_op_l1 s i (m + 1) 3 = (strings_HasPrefix_g t (Mt.ofL [61])).bind fun a => cond a (some (1, ⟨0, 0⟩)) (matcher_op_l1 s i m 4) := fun m => by rw [ht]; rfl
 have l4 : ∀ m, matcher_op_l1 s i (m + 1) 4 = cond (sc .eql t ByteArray.empty) (some (0, ⟨1, (i : Int)⟩)) (cond (sc .eql t (ByteArray.mk #[33])) (some (0, ⟨1, ar .add .i64 i 1⟩)) (some (0, ⟨2, (i : Int)⟩))) := fun m => by rw [ht]; rfl
 have a2 : ∀ a b : UInt8, a.toNat ≠ 0 → b.toNat ≠ 0 → strings_HasPrefix_g t (Mt.ofL [a, b]) = some (decide (Qu.bt s.data.toList i = a.toNat ∧ Qu.bt s.data.toList (i + 1) = b.toNat)) := fun a b ha hb' => by
  rw [prefix_p]
  have := take2 t.data.toList a b ha hb'
  rw [hb, hb] at this
  exact congrArg some (decide_eq_decide.2 this)
 have a1 : ∀ a : UInt8, a.toNat ≠ 0 → strings_HasPrefix_g t (Mt.ofL [a]) = some (decide (Qu.bt s.data.toList i = a.toNat)) := fun a ha => by
  rw [prefix_p]
  have := take1 t.data.toList a ha
  rw [hb] at this
  exact congrArg some (decide_eq_decide.2 this)
 unfold matcher_op_g
 rw [ssin_end hi, _root_.cond_true, l0, l1, l2, l3, l4, a2 61 126 (by decide) (by decide), a2 33 126 (by decide) (by decide), a2 33 61 (by decide) (by decide), a1 61 (by decide), inc1 (by omega)]
 simp only [Option.bind_some, cond_dec, sc_eql, show (61 : UInt8).toNat = 61 from rfl, show (33 : UInt8).toNat = 33 from rfl, show (126 : UInt8).toNat = 126 from rfl]
 unfold Mt.opAt
 by_cases c1 : Qu.bt s.data.toList i = 61
 · by_cases c2 : Qu.bt s.data.toList (i + 1) = 126
   · simp [c1, c2]
   · simp [c1, c2]
 · by_cases c3 : Qu.bt s.data.toList i = 33
   · by_cases c4 : Qu.bt s.data.toList (i + 1) = 61
     · simp [c3, c4]
     · by_cases c5 : Qu.bt s.data.toList (i + 1) = 126
       · simp [c3, c5]
       · have hlt : i < s.size := Nat.lt_of_not_le fun g => by
          have : Qu.bt s.data.toList i = 0 := by unfold Qu.bt; rw [List.getElem?_eq_none (by rw [size_list]; omega)]
          omega
         have hne : ¬ t = ByteArray.empty := fun e => by rw [e] at hz; have : ByteArray.empty.size = 0 := rfl; omega
         have hone : t = ByteArray.mk #[33] ↔ i + 1 = s.size := by
          constructor
          · intro e
            have : (ByteArray.mk #[33]).size = 1 := rfl
            rw [e] at hz; omega
          · intro e
            rw [ba_eq]
            have hl : t.data.toList.length = 1 := by rw [size_list]; omega
            obtain ⟨x, hx⟩ := List.length_eq_one_iff.1 hl
            have h0 := hb 0
            rw [hx] at h0
            have h0 : x.toNat = 33 := by rw [Nat.add_zero, c3] at h0; exact h0
            rw [hx]
            show [x] = [33]
            congr 1
            exact UInt8.toNat_inj.1 h0
         have hlen : ¬ i = s.data.toList.length := by rw [size_list]; omega
         unfold Mt.opBad
         simp only [c3, c4, c5, hne, if_false, hlen, if_true, true_and, false_and, and_false]
         by_cases c6 : i + 1 = s.size
         · have c6' : i + 1 = s.data.toList.length := by rw [size_list]; exact c6
           simp [hone.2 c6, c6']
         · have c6' : ¬ i + 1 = s.data.toList.length := by rw [size_list]; exact c6
           have : ¬ t = ByteArray.mk #[33] := fun e => c6 (hone.1 e)
           simp [this, c6]
   · unfold Mt.opBad
     simp only [c1, c3, if_false, false_and, if_true]
     have hone : ¬ t = ByteArray.mk #[33] := fun e => by
      have := hb 0
      rw [e] at this
      exact c3 this.symm
     simp only [hone, if_false]
     by_cases c4 : i = s.size
     · have : t = ByteArray.empty := by
        rw [ba_eq]
        have hl : t.data.toList.length = 0 := by rw [size_list]; omega
        rw [List.length_eq_zero_iff.1 hl]; rfl
       rw [if_pos this, if_pos (by rw [size_list]; exact c4)]; rfl
     · have : ¬ t = ByteArray.empty := fun e => by rw [e] at hz; have : ByteArray.empty.size = 0 := rfl; omega
       rw [if_neg this, if_neg (by rw [size_list]; exact c4)]; rfl
end
end Pl
end Go.Proofs.YtagppjldegblhaaGreatDoor
namespace Go.Proofs.YtagppjldegblhaaGreatDoor
open Go
open Sh Gn
namespace Pl
def takeV (g : Mt.Got) : GMatcher × Int × GFault := match g with | .ok m p => (⟨m.name, m.op, m.val⟩, (p : Int), ⟨0, 0⟩) | .bad e p => (⟨ByteArray.empty, 0, ByteArray.empty⟩, 0, ⟨e, (p : Int)⟩)
theorem run_take (g : Int → Bool → Bool) : ∀ (f : Bool) (l : List UInt8), Nm.run g f (l.take (Nm.run g f l)) = Nm.run g f l
 | f, [] => by simp [Nm.run]
 | f, c :: r => by
   by_cases h : g c.toNat f = true
   · have e : Nm.run g f (c :: r) = Nm.run g false r + 1 := by rw [Nm.run, if_pos h]
     rw [e, List.take_succ_cons, Nm.run, if_pos h, run_take g false r]
   · have e : Nm.run g f (c :: r) = 0 := by rw [Nm.run, if_neg h]
     rw [e]; rfl
section
variable {s : ByteArray}
theorem cut_p {N i : Nat} (hN : 200000 ≤ N) (hs : s.size ≤ 100000) (hi : i ≤ s.size) :
 name_Cut_g N s i = some (Mt.ofL ((s.data.toList.drop i).take (Nm.run Nm.signB true (s.data.toList.drop i))), ((i + Nm.run Nm.signB true (s.data.toList.drop i) : Nat) : Int)) := by
 have hz := size_end hi
 have hl := ss_end hi
 have hr := Nm.run_le Nm.signB true (s.data.toList.drop i)
 rw [List.length_drop, size_list] at hr
 unfold name_Cut_g
 rw [cm_lss, cm_gtr, cond_dec, sl_eq, if_neg (by omega), decide_eq_false (by omega)]
 simp only [Option.bind_some, cond_false]
 rw [← sl_eq, ssin_end hi, _root_.cond_true]
 have hr' : runAt (ss s (i : Int) (sl s)) true 0 = Nm.run Nm.signB true (s.data.toList.drop i) := by unfold runAt; rw [hl, List.drop_zero]
 have key := cut_from (p0 := s) (p1 := (i : Int)) rfl hr' N 0 (by omega) (by omega) (by rw [show ((0 : Nat) == 0) = true from rfl, hr']; omega)
 rw [show ((0 : Nat) : Int) = 0 from rfl] at key
 rw [key]
 generalize Nm.run Nm.signB true (s.data.toList.drop i) = R at *
 by_cases c : R = s.size - i
 · rw [if_pos (by omega)]
   congr 2
   · rw [← Mt.ofL_self (ss s (i : Int) (sl s)), hl, List.take_of_length_le (by rw [List.length_drop, size_list]; omega)]
   · rw [sl_eq]; omega
 · rw [if_neg (by omega), ar_add (by omega) (by omega)]
   congr 2
   rw [← Mt.ofL_self (ss (ss s (i : Int) (sl s)) 0 (R : Int))]
   have := ss_list (s := ss s (i : Int) (sl s)) (i := 0) (j := R) (by omega) (by omega)
   have this : (ss (ss s (i : Int) (sl s)) 0 (R : Int)).data.toList = (((ss s (i : Int) (sl s)).data.toList).drop 0).take (R - 0) := this
   rw [this, hl]; rfl
theorem lab_run (l : List UInt8) : Nm.labelB (l.take (Nm.run Nm.signB true l)) = decide (¬ (Nm.run Nm.signB true l < 1 ∨ 32 < Nm.run Nm.signB true l)) := by
 have h := run_take Nm.signB true l
 have hl := Nm.run_le Nm.signB true l
 unfold Nm.labelB Nm.allB
 rw [h, List.length_take, Nat.min_eq_left hl, Bool.eq_iff_iff]
 simp
 omega
theorem opAt_le (l : List UInt8) (i : Nat) : Mt.opAt l i ≤ 4 := by unfold Mt.opAt; (repeat' split) <;> omega
theorem opBad_ne (l : List UInt8) (i : Nat) : (Mt.opBad l i).1 ≠ 0 := by unfold Mt.opBad; (repeat' split) <;> (intro h; cases h)
theorem body_ne (l : List UInt8) : ∀ (f : Nat) (out : List UInt8) (i e p : Nat), Qu.body l f out i = .bad e p → e ≠ 0
 | 0, out, i, e, p, h => by unfold Qu.body at h; cases h; decide
 | f + 1, out, i, e, p, h => by
   unfold Qu.body at h
   split at h
   · split at h
     · cases h
     · cases hu : Qu.un l i with
       | ok t n => rw [hu] at h; exact body_ne l f _ _ e p h
       | bad e' p' =>
         rw [hu] at h
         cases h
         unfold Qu.un at hu
         split at hu
         · cases hE : Qu.esc l i with
           | ok b n => rw [hE] at hu; cases hu
           | bad e'' =>
             rw [hE] at hu
             cases hu
             rcases esc_bad hE with rfl | rfl <;> decide
         · split at hu
           · cases hu
           · cases hu; decide
   · cases h; decide
theorem read_ne {l : List UInt8} {a : Int} {e p : Nat} (h : Qu.read l a = .bad e p) : e ≠ 0 := by
 unfold Qu.read at h
 split at h
 · cases h; decide
 · split at h
   · cases h; decide
   · split at h
     · cases h; decide
     · exact body_ne _ _ _ _ _ _ h
theorem mtake_p {N : Nat} (hN : 200000 ≤ N) (hs : s.size ≤ 90000) (p : Int) : matcher_Take_g N s p = some (takeV (Mt.take s.data.toList p)) := by
 unfold matcher_Take_g Mt.take
 simp only [cm_lss, cm_gtr, cm_eql, cm_neq, cond_not, cond_dec, sl_eq, ite_or, Option.bind_some, size_list]
 by_cases c1 : p < 0 ∨ (s.size : Int) < p
 · simp only [c1, if_true]; rfl
 obtain ⟨i, rfl⟩ : ∃ i : Nat, p = i := ⟨p.toNat, by omega⟩
 simp only [c1, if_false, Int.toNat_natCast]
 by_cases c2 : (i : Int) = s.size
 · simp only [c2, if_true]
   have : i = s.size := by omega
   subst this; rfl
 simp only [c2, if_false]
 have hr := Nm.run_le Nm.signB true (s.data.toList.drop i)
 rw [List.length_drop, size_list] at hr
 rw [cut_p hN (by omega) (by omega), Option.bind_some, label_p (by omega), lab_eq, Mt.ofL_list, lab_run]
 simp only [Option.bind_some]
 obtain ⟨l, hl⟩ : ∃ l, l = s.data.toList.drop i := ⟨_, rfl⟩
 rw [← hl] at hr ⊢
 obtain ⟨R, hR⟩ : ∃ R, R = Nm.run Nm.signB true l := ⟨_, rfl⟩
 rw [← hR] at hr ⊢
 by_cases c3 : R < 1 ∨ 32 < R
 · simp only [c3, not_true_eq_false, decide_false, cond_false, if_true]; rfl
 simp only [c3, not_false_eq_true, decide_true, _root_.cond_true, if_false]
 rw [op_p (by omega) (by omega) (by omega), Option.bind_some]
 obtain ⟨o, ho⟩ : ∃ o, o = Mt.opAt s.data.toList (i + R) := ⟨_, rfl⟩
 rw [← ho]
 have ho4 : o ≤ 4 := by rw [ho]; exact opAt_le _ _
 by_cases c4 : o = 0
 · have hne := opBad_ne s.data.toList (i + R)
   have hne' : ¬ ((Mt.opBad s.data.toList (i + R)).1 : Int) = 0 := by omega
   simp only [c4, if_true, hne', if_false]; rfl
 simp only [c4, if_false, if_true, msign_p, Option.bind_some]
 have hz := sgn_size (o : Int)
 rw [hz.1, ar_add (by omega) (by omega), qread_p hN (by omega), Option.bind_some]
 have ea : ((i + R : Nat) : Int) + ((Mt.sgn (o : Int)).length : Int) = ((i + R + (Mt.sgn (o : Int)).length : Nat) : Int) := by omega
 rw [ea]
 cases hq : Qu.read s.data.toList ((i + R + (Mt.sgn (o : Int)).length : Nat) : Int) with
 | bad e q =>
   have he : ¬ (e : Int) = 0 := by
    have := read_ne hq
    omega
   simp only [gotV, he, if_false]; rfl
 | ok v q =>
   simp only [gotV, if_true, mright_p (N := N) (by omega), Option.bind_some, toM]
   by_cases c5 : Mt.right ⟨Mt.ofL (l.take R), (o : Int), ⟨v.toArray⟩⟩ = 0
   · have c5' : Mt.right ⟨Mt.ofL (l.take R), (o : Int), Mt.ofL v⟩ = 0 := c5
     simp only [c5, c5', if_true, ne_eq, not_true_eq_false, if_false]; rfl
   · have c5' : ¬ Mt.right ⟨Mt.ofL (l.take R), (o : Int), Mt.ofL v⟩ = 0 := c5
     simp only [c5, c5', ne_eq, not_false_eq_true, if_true, if_false]; rfl
theorem rsigns_from {i : Nat} (hs : s.size ≤ 100000) (hi : i ≤ s.size) : ∀ (m k : Nat), i + k ≤ s.size → s.size < i + k + m → r09_Signs_l1 s i m k = some ((k + runAt s (k == 0) (i + k) : Nat) : Int) := by
 intro m
 induction m with
 | zero => intro k h1 h2; omega
 | succ m ih =>
   intro k h1 h2
   unfold r09_Signs_l1
   have ea : ar .add .i64 (i : Int) (k : Int) = ((i + k : Nat) : Int) := by rw [ar_add (by omega) (by omega)]; omega
   rw [ea, cm_lss, sl_eq, cond_dec]
   by_cases c : i + k < s.size
   · have e0 : (cm .eql (k : Int) 0) = (k == 0) := by rw [cm_eql]; cases k <;> simp; omega
     have e1 := inc1 (show k ≤ 100000000 by omega)
     have eb : sa s ((i + k : Nat) : Int) = (s[i + k].toNat : Int) := by
      show ((s.data.getD _ 0).toNat : Int) = _
      rw [Int.toNat_natCast, Array.getD_eq_getD_getElem?, Array.getElem?_eq_getElem c]; rfl
     rw [if_pos (by omega), sin_in c, _root_.cond_true, rsign_p, e0, e1, eb, runAt_in c]
     cases g : Nm.signB (s[i + k].toNat) (k == 0) with
     | false => rfl
     | true =>
       simp only [Option.bind_some, _root_.cond_true, if_true]
       rw [ih (k + 1) (by omega) (by omega)]
       have e : (k + 1 == 0) = false := rfl
       rw [e, show i + (k + 1) = i + k + 1 by omega]
       congr 1; omega
   · rw [if_neg (by omega), runAt_end c]; rfl
theorem rsigns_p {N i : Nat} (hN : 200000 ≤ N) (hs : s.size ≤ 100000) (hi : i ≤ s.size) : r09_Signs_g N s i = some (Nm.run Nm.signB true (s.data.toList.drop i) : Int) := by
 unfold r09_Signs_g
 have := rsigns_from hs hi N 0 (by omega) (by omega)
 rw [show ((0 : Nat) : Int) = 0 from rfl] at this
 rw [this]
 show some ((0 + runAt s true (i + 0) : Nat) : Int) = _
 rw [Nat.zero_add]; rfl
theorem ris_p {i : Nat} {b : Nat} (hb : 0 < b) (hs : s.size ≤ 100000) : r22_is_g s i b = some (decide (Qu.bt s.data.toList i = b)) := by
 unfold r22_is_g
 rw [cm_lss, sl_eq, cond_dec, bind_self]
 by_cases c : i < s.size
 · rw [if_pos (by omega), sin_in c, _root_.cond_true, cm_eql, sa_bt]
   exact congrArg some (decide_eq_decide.2 (by omega))
 · rw [if_neg (by omega)]
   have : Qu.bt s.data.toList i = 0 := by unfold Qu.bt; rw [List.getElem?_eq_none (by rw [size_list]; omega)]
   rw [this, decide_eq_false (by omega)]
theorem rop_p {i : Nat} (hs : s.size ≤ 100000) (hi : i ≤ s.size) : r22_Op_g s i = some (Mt.opAt s.data.toList i : Int) := by
 have e : ∀ b : Nat, 0 < b → r22_is_g s ((i : Nat) : Int) (b : Int) = some (decide (Qu.bt s.data.toList i = b)) := fun b hb => ris_p hb hs
 have e' : ∀ b : Nat, 0 < b → r22_is_g s ((i + 1 : Nat) : Int) (b : Int) = some (decide (Qu.bt s.data.toList (i + 1) = b)) := fun b hb => ris_p hb hs
 unfold r22_Op_g Mt.opAt
 rw [inc1 (by omega), show r22_is_g s i 61 = _ from e 61 (by decide), show r22_is_g s i 33 = _ from e 33 (by decide), show r22_is_g s ((i + 1 : Nat) : Int) 61 = _ from e' 61 (by decide), show r22_is_g s ((i + 1 : Nat) : Int) 126 = _ from e' 126 (by decide)]
 simp only [Option.bind_some, cond_dec, ite_and]
 by_cases c1 : Qu.bt s.data.toList i = 61
 · by_cases c2 : Qu.bt s.data.toList (i + 1) = 126
   · simp [c1, c2]
   · simp [c1, c2]
 · by_cases c3 : Qu.bt s.data.toList i = 33
   · by_cases c4 : Qu.bt s.data.toList (i + 1) = 61
     · simp [c3, c4]
     · by_cases c5 : Qu.bt s.data.toList (i + 1) = 126
       · simp [c3, c5]
       · simp [c3, c4, c5]
   · simp [c1, c3]
theorem rtake_p {N : Nat} (hN : 200000 ≤ N) (hs : s.size ≤ 90000) (p : Int) : r22_Take_g N s p = some (takeV (Mt.take s.data.toList p)) := by
 unfold r22_Take_g Mt.take
 simp only [cm_lss, cm_gtr, cm_eql, cm_neq, cond_not, cond_dec, sl_eq, ite_or, ite_to, ite_and, Option.bind_some, size_list, r22_bad_g]
 by_cases c1 : p < 0 ∨ (s.size : Int) < p
 · simp only [c1, if_true]; rfl
 obtain ⟨i, rfl⟩ : ∃ i : Nat, p = i := ⟨p.toNat, by omega⟩
 simp only [c1, if_false, Int.toNat_natCast]
 by_cases c2 : (i : Int) = s.size
 · simp only [c2, if_true]
   have : i = s.size := by omega
   subst this; rfl
 simp only [c2, if_false]
 have hr := Nm.run_le Nm.signB true (s.data.toList.drop i)
 rw [List.length_drop, size_list] at hr
 rw [rsigns_p hN (by omega) (by omega), Option.bind_some]
 obtain ⟨l, hl⟩ : ∃ l, l = s.data.toList.drop i := ⟨_, rfl⟩
 have hname : ∀ R, R ≤ s.size - i → ss s (i : Int) ((i + R : Nat) : Int) = Mt.ofL (l.take R) := fun R hR => by
  rw [← Mt.ofL_self (ss s (i : Int) ((i + R : Nat) : Int)), ss_list (by omega) (by omega), Nat.add_sub_cancel_left, hl]
 rw [← hl] at hr ⊢
 obtain ⟨R, hR⟩ : ∃ R, R = Nm.run Nm.signB true l := ⟨_, rfl⟩
 rw [← hR] at hr ⊢
 by_cases c3 : R < 1 ∨ 32 < R
 · have c3' : (R : Int) < 1 ∨ (32 : Int) < (R : Int) := by omega
   simp only [c3, c3', if_true]; rfl
 have c3' : ¬ ((R : Int) < 1 ∨ (32 : Int) < (R : Int)) := by omega
 have ea : ar .add .i64 (i : Int) (R : Int) = ((i + R : Nat) : Int) := by rw [ar_add (by omega) (by omega)]; omega
 have ea1 := inc1 (show i + R ≤ 100000000 by omega)
 have his : r22_is_g s ((i + R : Nat) : Int) 33 = some (decide (Qu.bt s.data.toList (i + R) = 33)) := ris_p (b := 33) (by decide) (by omega)
 simp only [c3, c3', if_false, ea, ea1, rop_p (s := s) (i := i + R) (by omega) (by omega), Option.bind_some, his, cond_dec, ite_and]
 obtain ⟨o, ho⟩ : ∃ o, o = Mt.opAt s.data.toList (i + R) := ⟨_, rfl⟩
 rw [← ho]
 have ho4 : o ≤ 4 := by rw [ho]; exact opAt_le _ _
 by_cases c4 : o = 0
 · have c4' : (o : Int) = 0 := by omega
   simp only [c4, Int.natCast_zero, true_and, if_true, Mt.opBad, size_list, ea1]
   by_cases c5 : i + R = s.size
   · have c5' : ((i + R : Nat) : Int) = (s.size : Int) := by omega
     simp only [c5, c5', if_true]; rfl
   have c5' : ¬ ((i + R : Nat) : Int) = (s.size : Int) := by omega
   by_cases c6 : Qu.bt s.data.toList (i + R) = 33 ∧ i + R + 1 = s.size
   · have c6' : Qu.bt s.data.toList (i + R) = 33 ∧ ((i + R + 1 : Nat) : Int) = (s.size : Int) := ⟨c6.1, by omega⟩
     rw [if_neg c5', if_pos c6', if_neg c5, if_pos c6]; rfl
   · have c6' : ¬ (Qu.bt s.data.toList (i + R) = 33 ∧ ((i + R + 1 : Nat) : Int) = (s.size : Int)) := fun h => c6 ⟨h.1, by omega⟩
     rw [if_neg c5', if_neg c6', if_neg c5, if_neg c6]; rfl
 have c4' : ¬ (o : Int) = 0 := by omega
 have hz := sgn_size (o : Int)
 simp only [c4, c4', false_and, if_false, rsgn_p, Option.bind_some, hz.1]
 rw [ar_add (by omega) (by omega), rread_p hN (by omega), Option.bind_some, hname R hr, ssin_nat (by omega) (by omega), _root_.cond_true]
 have eb : ((i + R : Nat) : Int) + ((Mt.sgn (o : Int)).length : Int) = ((i + R + (Mt.sgn (o : Int)).length : Nat) : Int) := by omega
 rw [eb]
 cases hq : Qu.read s.data.toList ((i + R + (Mt.sgn (o : Int)).length : Nat) : Int) with
 | bad e q =>
   have he : ¬ (e : Int) = 0 := by
    have := read_ne hq
    omega
   simp only [gotV, he, if_false]; rfl
 | ok v q =>
   simp only [gotV, if_true, rright_p (N := N) (by omega), Option.bind_some, toM]
   by_cases c5 : Mt.right ⟨Mt.ofL (l.take R), (o : Int), ⟨v.toArray⟩⟩ = 0
   · have c5' : Mt.right ⟨Mt.ofL (l.take R), (o : Int), Mt.ofL v⟩ = 0 := c5
     simp only [c5, c5', if_true, ne_eq, not_true_eq_false, if_false]; rfl
   · have c5' : ¬ Mt.right ⟨Mt.ofL (l.take R), (o : Int), Mt.ofL v⟩ = 0 := c5
     simp only [c5, c5', ne_eq, not_false_eq_true, if_true, if_false]; rfl
end
end Pl
end Go.Proofs.YtagppjldegblhaaGreatDoor
namespace Go.Proofs.YtagppjldegblhaaGreatDoor
open Go Go.RowKit
open Ab Sh
namespace Gn
def porterbase_SameSel_s (R : RF) (r : Bool) : V := fB r
def porterbase_SameSel_g (N : Nat) (p0 : List GMatcher) (p1 : List GMatcher) : Option Bool :=
 cond (cm .neq (ll (rw _ cMatcher p0)) (ll (rw _ cMatcher p1)))
 (some false)
 (porterbase_SameSel_l1 p0 p1 N 0)
def r23_is_g (p0 : ByteArray) (p1 : Int) (p2 : Int) : Option Bool :=
 (cond (cm .lss p1 (sl p0))
 (cond (sinB p0 p1) (some (cm .eql (sa p0 p1) p2)) none)
 (some false) : Option Bool).bind fun j1 =>
 some j1
def r23_other_g (p0 : ByteArray) (p1 : Int) : Option GFault :=
 cond (cm .geq p1 (sl p0))
 (some (⟨1, sl p0⟩ : GFault))
 (some (⟨2, p1⟩ : GFault))
def r23_Take_l1 (N : Nat) (p0 : ByteArray) : Nat → Int → List GMatcher → Option ((List GMatcher) × Int × GFault)
| 0, _, _ => none
| m + 1, v4, v5 =>
 cond (cm .lss v4 (sl p0))
 (cond (cm .eql (ll (rw _ cMatcher v5)) 64)
 (some ([], 0, (⟨3, v4⟩ : GFault)))
 ((r22_Take_g N p0 v4).bind fun a6 =>
 cond (cm .neq a6.2.2.E 0)
 (some ([], 0, a6.2.2))
 ((app cMatcher v5 [a6.1]).bind fun l7 =>
 (r23_is_g p0 a6.2.1 125).bind fun a8 =>
 cond (a8)
 (some (l7, ar .add .i64 a6.2.1 1, (⟨0, 0⟩ : GFault)))
 ((r23_is_g p0 a6.2.1 44).bind fun a9 =>
 cond (!a9)
 ((r23_other_g p0 a6.2.1).bind fun a10 =>
 some ([], 0, a10))
 ((r23_is_g p0 (ar .add .i64 a6.2.1 1) 32).bind fun a11 =>
 cond (!a11)
 ((r23_other_g p0 (ar .add .i64 a6.2.1 1)).bind fun a12 =>
 some ([], 0, a12))
 ((r23_Take_l1 N p0 m) (ar .add .i64 a6.2.1 2) l7))))))
 (some ([], 0, (⟨1, sl p0⟩ : GFault)))
def r23_Take_g (N : Nat) (p0 : ByteArray) (p1 : Int) : Option ((List GMatcher) × Int × GFault) :=
 (cond (cm .lss p1 0)
 (some true)
 (some (cm .gtr p1 (sl p0))) : Option Bool).bind fun j1 =>
 cond (j1)
 (some ([], 0, (⟨7, 0⟩ : GFault)))
 ((r23_is_g p0 p1 123).bind fun a1 =>
 cond (!a1)
 ((r23_other_g p0 p1).bind fun a2 =>
 some ([], 0, a2))
 ((r23_is_g p0 (ar .add .i64 p1 1) 125).bind fun a3 =>
 cond (a3)
 (some ([], ar .add .i64 p1 2, (⟨0, 0⟩ : GFault)))
 (r23_Take_l1 N p0 N (ar .add .i64 p1 1) [])))
def r23_Parse_g (N : Nat) (p0 : ByteArray) : Option ((List GMatcher) × GFault) :=
 (r23_Take_g N p0 0).bind fun a1 =>
 (cond (cm .eql a1.2.2.E 0)
 (some (cm .lss a1.2.1 (sl p0)))
 (some false) : Option Bool).bind fun j1 =>
 cond (j1)
 (some ([], (⟨2, a1.2.1⟩ : GFault)))
 (some (a1.1, a1.2.2))
end Gn
end Go.Proofs.YtagppjldegblhaaGreatDoor
