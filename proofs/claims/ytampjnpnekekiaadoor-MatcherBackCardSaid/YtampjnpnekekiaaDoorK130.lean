/- Quoting, plainly: reading back. -/
import Derived.Test.YtampjnpnekekiaaDoorK129
import Derived.WalkKit
import Derived.Test.YtampjnpnekekiaaDoorK118
namespace Go.Proofs.YtampjnpnekekiaaDoor
open Go
set_option linter.unusedVariables false
set_option linter.unusedSimpArgs false
set_option maxRecDepth 10000
open Sh Gn
namespace Pl
theorem ite_and {p q : Prop} [Decidable p] [Decidable q] : (if p then some (decide q) else some false) = some (decide (p ∧ q)) := by by_cases p <;> by_cases q <;> simp_all
theorem ite_or {p q : Prop} [Decidable p] [Decidable q] : (if p then some true else some (decide q)) = some (decide (p ∨ q)) := by by_cases p <;> by_cases q <;> simp_all
theorem ite_gen {p q r : Prop} [Decidable p] [Decidable q] [Decidable r] : (if p then some (decide q) else some (decide r)) = some (decide ((p ∧ q) ∨ (¬ p ∧ r))) := by by_cases p <;> by_cases q <;> by_cases r <;> simp_all
theorem not_dec {p : Prop} [Decidable p] : (!decide p) = decide (¬ p) := by by_cases p <;> simp_all
theorem str_map (l : List UInt8) : strB (l.map fun b => (b.toNat : Int)) = some ⟨l.toArray⟩ := by
  have h1 : bokB (l.map fun b => (b.toNat : Int)) = true := by
    unfold bokB
    rw [List.all_eq_true]
    intro x hx
    obtain ⟨b, _, rfl⟩ := List.mem_map.1 hx
    have := b.toNat_lt
    simp; omega
  unfold strB
  rw [if_pos h1]
  unfold ofBytes
  rw [List.map_map]
  congr 2
  conv => rhs; rw [← List.map_id l]
  congr 1
  apply List.map_congr_left
  intro b _
  show UInt8.ofNat ((b.toNat : Int)).toNat = b
  rw [Int.toNat_natCast, UInt8.ofNat_toNat]
section
variable {s : ByteArray} {i : Nat}
def trailB (l : List UInt8) : Nat → Nat → Prop
  | _, 0 => True
  | q, k + 1 => (128 ≤ Qu.bt l q ∧ Qu.bt l q ≤ 191) ∧ trailB l (q + 1) k
instance trailD (l : List UInt8) : ∀ q k, Decidable (trailB l q k)
  | _, 0 => isTrue trivial
  | q, k + 1 => @instDecidableAnd _ _ _ (trailD l (q + 1) k)
theorem trail_from {p n : Int} (hs : s.size ≤ 100000) : ∀ (m q r : Nat), r < m → q + r ≤ s.size → ar .add .i64 p n = ((q + r : Nat) : Int) → r10_trail_l1 s p n m q = some (decide (trailB s.data.toList q r)) := by
  intro m
  induction m with
  | zero => intro q r h; omega
  | succ m ih =>
    intro q r h1 h2 h3
    unfold r10_trail_l1
    rw [h3, cm_lss, cond_dec]
    cases r with
    | zero => rw [if_neg (by omega)]; rfl
    | succ r =>
      rw [if_pos (by omega), sin_in (by omega), inc1 (by omega)]
      simp only [_root_.cond_true, cm_lss, cm_gtr, cond_dec, sa_bt, ite_or, Option.bind_some]
      rw [ih (q + 1) r (by omega) (by omega) (by rw [h3]; congr 1; omega)]
      by_cases g : 128 ≤ Qu.bt s.data.toList q ∧ Qu.bt s.data.toList q ≤ 191
      · rw [if_neg (by omega)]
        congr 1
        exact decide_eq_decide.2 ⟨fun h => ⟨g, h⟩, fun h => h.2⟩
      · rw [if_pos (by omega)]
        congr 1
        exact (decide_eq_false fun h => g h.1).symm
theorem trail_p {N p n : Nat} (hN : 20 ≤ N) (hn : n ≤ 3) (hs : s.size ≤ 100000) (hp : p ≤ s.size) : r10_trail_g N s p n = some (decide (n ≤ s.size - p ∧ trailB s.data.toList p n)) := by
  unfold r10_trail_g
  rw [cm_gtr, cond_dec, sl_eq, ar_sub (by omega) (by omega)]
  by_cases c : n ≤ s.size - p
  · rw [if_neg (by omega), trail_from hs N p n (by omega) (by omega) (by rw [ar_add (by omega) (by omega)]; omega)]
    congr 1
    exact decide_eq_decide.2 ⟨fun h => ⟨c, h⟩, fun h => h.2⟩
  · rw [if_pos (by omega)]
    congr 1
    exact (decide_eq_false fun h => c h.1).symm
theorem rrune_p {N : Nat} (hN : 20 ≤ N) (hs : s.size ≤ 100000) (hi : i < s.size) : r10_Rune_g N s i = some (Qu.rune s.data.toList i : Int) := by
  unfold r10_Rune_g Qu.rune
  have b0 := Qu.bt_lt s.data.toList i
  have b1 := Qu.bt_lt s.data.toList (i + 1)
  have t1 : r10_trail_g N s ((i + 1 : Nat) : Int) 1 = some (decide (1 ≤ s.size - (i + 1) ∧ trailB s.data.toList (i + 1) 1)) := trail_p (n := 1) hN (by omega) hs (by omega)
  have t2 : r10_trail_g N s ((i + 1 : Nat) : Int) 2 = some (decide (2 ≤ s.size - (i + 1) ∧ trailB s.data.toList (i + 1) 2)) := trail_p (n := 2) hN (by omega) hs (by omega)
  have t3 : r10_trail_g N s ((i + 1 : Nat) : Int) 3 = some (decide (3 ≤ s.size - (i + 1) ∧ trailB s.data.toList (i + 1) 3)) := trail_p (n := 3) hN (by omega) hs (by omega)
  have ej : (cond (cm .lss ((i + 1 : Nat) : Int) (sl s)) (cond (sinB s ((i + 1 : Nat) : Int)) (some (cv .i64 (sa s ((i + 1 : Nat) : Int)))) none) (some 0)) = some (Qu.bt s.data.toList (i + 1) : Int) := by
    rw [cm_lss, cond_dec, sl_eq]
    by_cases c : i + 1 < s.size
    · rw [if_pos (by omega), sin_in c, _root_.cond_true, sa_bt, cv_i64 (by omega) (by omega)]
    · rw [if_neg (by omega)]
      unfold Qu.bt
      rw [List.getElem?_eq_none (by rw [size_list]; omega)]; rfl
  have ec : cv .i64 (sa s (i : Int)) = (Qu.bt s.data.toList i : Int) := by rw [sa_bt, cv_i64 (by omega) (by omega)]
  rw [inc1 (show i ≤ 100000000 by omega), ej, ec, t1, t2, t3, sin_in hi, size_list]
  simp only [_root_.cond_true, cm_lss, cm_leq, cm_geq, cm_neq, cond_dec, Option.bind_some, not_dec, ite_and, ite_or, ite_gen, bind_self, trailB, and_true]
  generalize Qu.bt s.data.toList i = x0 at *
  generalize Qu.bt s.data.toList (i + 1) = x1 at *
  have e2 : i + 1 + 1 = i + 2 := rfl
  have e3 : i + 1 + 1 + 1 = i + 3 := rfl
  rw [e3, e2]
  generalize Qu.bt s.data.toList (i + 2) = x2
  generalize Qu.bt s.data.toList (i + 3) = x3
  unfold Qu.runeN
  by_cases c1 : x0 < 128
  · rw [if_pos (by omega), if_pos c1]; rfl
  rw [if_neg (by omega), if_neg c1]
  by_cases c2 : 194 ≤ x0 ∧ x0 ≤ 223 ∧ 1 < s.size - i ∧ 128 ≤ x1 ∧ x1 ≤ 191
  · rw [if_pos (by omega), if_pos c2]; rfl
  rw [if_neg (by omega), if_neg c2]
  by_cases c3 : 224 ≤ x0 ∧ x0 ≤ 239 ∧ (2 < s.size - i ∧ 128 ≤ x1 ∧ x1 ≤ 191 ∧ 128 ≤ x2 ∧ x2 ≤ 191) ∧ (x0 ≠ 224 ∨ 160 ≤ x1) ∧ (x0 ≠ 237 ∨ x1 < 160)
  · rw [if_pos (by omega), if_pos c3]; rfl
  rw [if_neg (by omega), if_neg c3]
  by_cases c4 : 240 ≤ x0 ∧ x0 ≤ 244 ∧ (3 < s.size - i ∧ 128 ≤ x1 ∧ x1 ≤ 191 ∧ 128 ≤ x2 ∧ x2 ≤ 191 ∧ 128 ≤ x3 ∧ x3 ≤ 191) ∧ (x0 ≠ 240 ∨ 144 ≤ x1) ∧ (x0 ≠ 244 ∨ x1 < 144)
  · rw [if_pos (by omega), if_pos c4]; rfl
  rw [if_neg (by omega), if_neg c4]; rfl
theorem rsafe_p {N : Nat} (hN : 20 ≤ N) (hs : s.size ≤ 100000) (hi : i < s.size) : r10_safe_g N s i = some (Qu.safe s.data.toList i) := by
  unfold r10_safe_g Qu.safe
  rw [rrune_p hN hs hi, sin_in hi, sa_bt]
  simp only [_root_.cond_true, cm_gtr, cm_geq, cm_neq, not_dec, cond_dec, Option.bind_some, ite_and, bind_self]
  congr 1
  rw [← Bool.decide_and, ← Bool.decide_and]
  exact decide_eq_decide.2 (by omega)
end
end Pl
end Go.Proofs.YtampjnpnekekiaaDoor
namespace Go.Proofs.YtampjnpnekekiaaDoor
open Go
set_option linter.unusedVariables false
set_option linter.unusedSimpArgs false
set_option maxRecDepth 10000
open Sh Gn
namespace Pl
def gotV (g : Qu.Got) : ByteArray × Int × GFault := match g with | .ok t p => (⟨t.toArray⟩, (p : Int), ⟨0, 0⟩) | .bad e p => (ByteArray.empty, 0, ⟨(e : Int), (p : Int)⟩)
def ints (l : List UInt8) : List Int := l.map fun b => (b.toNat : Int)
theorem esc_bad {l : List UInt8} {i e : Nat} (h : Qu.esc l i = .bad e) : e = 1 ∨ e = 2 := by
  unfold Qu.esc at h
  repeat' split at h
  all_goals first | cases h | skip
  all_goals first | exact .inl rfl | exact .inr rfl
section
variable {s : ByteArray}
theorem qread_from {N : Nat} (hN : 20 ≤ N) (hs : s.size ≤ 100000) : ∀ (m i : Nat) (out : List UInt8), i ≤ s.size → s.size < i + m → out.length ≤ i → quote_Read_l1 N s m i (ints out) = some (gotV (Qu.go s.data.toList out i)) := by
  intro m
  induction m with
  | zero => intro i out h1 h2; omega
  | succ m ih =>
    intro i out h1 h2 h3
    unfold quote_Read_l1
    rw [cm_lss, cond_dec, sl_eq]
    by_cases c : i < s.size
    case neg =>
      rw [if_neg (by omega), Qu.go_end (by rw [size_list]; omega), size_list]; rfl
    rw [if_pos (by omega), Qu.go_in (by rw [size_list]; exact c)]
    have hd := dec_cp (s := s) (i := i) c
    rw [sl_eq] at hd
    have hin := ssin_end (s := s) (i := i) (by omega)
    rw [sl_eq] at hin
    have hb := Qu.bt_lt s.data.toList i
    have h34 := Qu.cp_small s.data.toList i 34 (by decide)
    have h92 := Qu.cp_small s.data.toList i 92 (by decide)
    have hu := Qu.unit_le (l := s.data.toList) (i := i) (by rw [size_list]; exact c)
    have hu1 := Qu.unit_pos s.data.toList i
    rw [size_list] at hu
    have e1 := inc1 (show i ≤ 100000000 by omega)
    have hstr : strB (ints out) = some ⟨out.toArray⟩ := str_map out
    have hesc := qesc_p (s := s) (i := i) hN hs h1
    rw [sl_eq] at hesc
    simp only [hin, _root_.cond_true, hd, Option.bind_some, cm_eql, cm_neq, cond_not, cond_dec, plain_p, hstr, hesc, e1]
    by_cases d1 : Qu.bt s.data.toList i = 34
    · have d1' : (Qu.cp s.data.toList i : Int) = 34 := by have := h34.2 d1; omega
      simp only [d1, d1', if_true]; rfl
    have d1' : ¬ (Qu.cp s.data.toList i : Int) = 34 := fun e => d1 (h34.1 (by omega))
    simp only [d1, d1', if_false]
    by_cases d2 : Qu.bt s.data.toList i = 92
    · have d2' : (Qu.cp s.data.toList i : Int) = 92 := by have := h92.2 d2; omega
      simp only [d2', if_true]
      unfold Qu.un
      rw [if_pos d2]
      cases hE : Qu.esc s.data.toList i with
      | ok b n =>
        have hb := Qu.esc_two hE
        rw [size_list] at hb
        have ea : ar .add .i64 (i : Int) (n : Int) = ((i + n : Nat) : Int) := by rw [ar_add (by omega) (by omega)]; omega
        have z1 : ¬ (0 : Int) = 1 := by decide
        have eb : ((UInt8.ofNat b).toNat : Int) = (b : Int) := by rw [UInt8.toNat_ofNat']; omega
        simp only [escI, z1, if_false, if_true, app_eq (show (ints out).length + [(b : Int)].length ≤ 1000000000 by simp [ints]; omega), Option.bind_some, ea]
        have := ih (i + n) (out ++ [UInt8.ofNat b]) hb.2.1 (by omega) (by rw [List.length_append, List.length_singleton]; omega)
        rw [← this]
        unfold ints
        rw [List.map_append, List.map_cons, List.map_nil, eb]
      | bad e =>
        have he := esc_bad hE
        simp only [escI]
        rcases he with rfl | rfl
        · show _ = some (gotV (.bad 1 s.data.toList.length))
          rw [size_list]; rfl
        · rfl
    · have d2' : ¬ (Qu.cp s.data.toList i : Int) = 92 := fun e => d2 (h92.1 (by omega))
      simp only [d2', if_false]
      unfold Qu.un
      rw [if_neg d2]
      cases g : Qu.safe s.data.toList i with
      | false =>
        simp only [cond_false, Bool.false_eq_true, if_false]; rfl
      | true =>
        have ea : ar .add .i64 (i : Int) (Qu.unit s.data.toList i : Int) = ((i + Qu.unit s.data.toList i : Nat) : Int) := by rw [ar_add (by omega) (by omega)]; omega
        have eb : Sh.bytes (ss s (i : Int) ((i + Qu.unit s.data.toList i : Nat) : Int)) = ints ((s.data.toList.drop i).take (Qu.unit s.data.toList i)) := by
          unfold Sh.bytes ints
          rw [ss_list (by omega) (by omega), Nat.add_sub_cancel_left]
        have hl : ((s.data.toList.drop i).take (Qu.unit s.data.toList i)).length = Qu.unit s.data.toList i := by
          rw [List.length_take, List.length_drop, size_list]; omega
        simp only [_root_.cond_true, if_true, ea, ssin_nat (s := s) (show i ≤ i + Qu.unit s.data.toList i by omega) hu, eb, app_eq (show (ints out).length + (ints ((s.data.toList.drop i).take (Qu.unit s.data.toList i))).length ≤ 1000000000 by simp only [ints, List.length_map, hl]; omega), Option.bind_some]
        have := ih (i + Qu.unit s.data.toList i) (out ++ (s.data.toList.drop i).take (Qu.unit s.data.toList i)) hu (by omega) (by rw [List.length_append, hl]; omega)
        rw [← this]
        unfold ints
        rw [List.map_append]
theorem qread_p {N : Nat} (hN : 200000 ≤ N) (hs : s.size ≤ 100000) (p : Int) : quote_Read_g N s p = some (gotV (Qu.read s.data.toList p)) := by
  unfold quote_Read_g Qu.read
  simp only [cm_lss, cm_gtr, cm_eql, cm_neq, cond_not, cond_dec, sl_eq, ite_or, Option.bind_some, size_list]
  by_cases c1 : p < 0 ∨ (s.size : Int) < p
  · rw [if_pos c1, if_pos c1]; rfl
  rw [if_neg c1, if_neg c1]
  obtain ⟨i, rfl⟩ : ∃ i : Nat, p = i := ⟨p.toNat, by omega⟩
  rw [Int.toNat_natCast]
  by_cases c2 : (i : Int) = s.size
  · rw [if_pos c2, if_pos c2]; rfl
  rw [if_neg c2, if_neg c2, sin_in (by omega), _root_.cond_true, sa_bt]
  by_cases c3 : Qu.bt s.data.toList i = 34
  · rw [if_pos (by omega), if_neg (by omega), inc1 (by omega), show s.size + 1 = s.data.toList.length + 1 by rw [size_list]]
    exact qread_from (by omega) hs N (i + 1) [] (by omega) (by omega) (by simp)
  · rw [if_neg (by omega), if_pos c3]; rfl
end
end Pl
end Go.Proofs.YtampjnpnekekiaaDoor
namespace Go.Proofs.YtampjnpnekekiaaDoor.Nm
def letterB (c : Int) : Bool := c == 95 || (decide (97 ≤ c) && decide (c ≤ 122)) || (decide (65 ≤ c) && decide (c ≤ 90))
def digitB (c : Int) : Bool := decide (48 ≤ c) && decide (c ≤ 57)
def signB (c : Int) (first : Bool) : Bool := letterB c || (!first && digitB c)
theorem letterB_lt {c : Int} (h : letterB c = true) : 0 ≤ c ∧ c < 128 := by
  simp [letterB] at h; omega
theorem digitB_lt {c : Int} (h : digitB c = true) : 0 ≤ c ∧ c < 128 := by
  simp [digitB] at h; omega
theorem signB_lt {c : Int} {f : Bool} (h : signB c f = true) : 0 ≤ c ∧ c < 128 := by
  simp only [signB, Bool.or_eq_true, Bool.and_eq_true] at h
  rcases h with h | ⟨_, h⟩
  · exact letterB_lt h
  · exact digitB_lt h
def run (g : Int → Bool → Bool) : Bool → List UInt8 → Nat
  | _, [] => 0
  | f, c :: r => if g c.toNat f then run g false r + 1 else 0
def allB (g : Int → Bool → Bool) (l : List UInt8) : Bool := run g true l == l.length
def labelB (l : List UInt8) : Bool := decide (1 ≤ l.length) && decide (l.length ≤ 32) && allB signB l
theorem run_le (g : Int → Bool → Bool) : ∀ f l, run g f l ≤ l.length
  | _, [] => Nat.le_refl _
  | f, c :: r => by
    unfold run
    have := run_le g false r
    split <;> simp; omega
theorem run_app (g : Int → Bool → Bool) : ∀ (f : Bool) (l r : List UInt8), run g f l = l.length → (∀ c ∈ r.head?, g c.toNat false = false) → (f = true → l ≠ [] ) → run g f (l ++ r) = l.length
  | f, [], r, _, h, hf => by
    cases f
    · cases r with
      | nil => rfl
      | cons c r => simp [run, h c (by simp)]
    · exact absurd rfl (hf rfl)
  | f, c :: l, r, hl, h, _ => by
    simp only [run] at hl
    split at hl
    · rename_i hc
      simp only [List.cons_append, run, hc, if_true, List.length_cons]
      rw [run_app g false l r (by simpa using hl) h (by simp)]
    · simp at hl
theorem run_label {l : List UInt8} (h : labelB l = true) (r : List UInt8) (hr : ∀ c ∈ r.head?, signB c.toNat false = false) : run signB true (l ++ r) = l.length := by
  simp only [labelB, Bool.and_eq_true, decide_eq_true_eq, allB, beq_iff_eq] at h
  exact run_app _ _ _ _ h.2 hr (fun _ e => by subst e; simp at h)
end Go.Proofs.YtampjnpnekekiaaDoor.Nm
namespace Go.Proofs.YtampjnpnekekiaaDoor
open Go Go.RowKit
set_option linter.unusedVariables false
set_option linter.unusedSimpArgs false
set_option maxRecDepth 10000
open Sh Gn
namespace Pl
theorem letter_p (c : Int) : name_letter_g c = some (Nm.letterB c) := by
  unfold name_letter_g Nm.letterB
  simp only [cm_eql, cm_leq, cond_dec, bind_self]
  by_cases h1 : c = 95
  · subst h1; rfl
  · by_cases h2 : 97 ≤ c <;> by_cases h3 : c ≤ 122 <;> by_cases h4 : 65 ≤ c <;> by_cases h5 : c ≤ 90 <;> simp [h1, h2, h3, h4, h5]
theorem digit_p (c : Int) : name_digit_g c = some (Nm.digitB c) := by
  unfold name_digit_g Nm.digitB
  simp only [cm_eql, cm_leq, cond_dec, bind_self]
  by_cases h2 : 48 ≤ c <;> by_cases h3 : c ≤ 57 <;> simp [h2, h3]
def runAt (s : ByteArray) (f : Bool) (k : Nat) : Nat := Nm.run Nm.signB f (s.data.toList.drop k)
section
variable {s : ByteArray}
theorem runAt_end {k : Nat} {f : Bool} (h : ¬ k < s.size) : runAt s f k = 0 := by
  unfold runAt; rw [List.drop_of_length_le (by rw [size_list]; omega)]; rfl
theorem runAt_in {k : Nat} {f : Bool} (h : k < s.size) : runAt s f k = if Nm.signB (s[k].toNat) f then runAt s false (k + 1) + 1 else 0 := by
  unfold runAt
  rw [List.drop_eq_getElem_cons (by rw [size_list]; exact h)]
  rfl
theorem dec_p (k : Nat) (h : k < s.size) (f : Bool) : Nm.signB (s[k].toNat) f = Nm.signB (Utf8.decode s k).1 f ∧ (Nm.signB (Utf8.decode s k).1 f = true → (Utf8.decode s k).2 = 1) := by
  by_cases ha : (s[k]'h).toNat < 128
  · rw [decode_ascii s k h ha]; exact ⟨rfl, fun _ => rfl⟩
  · have hd := decode_high s k h (by omega)
    have e1 : Nm.signB (Utf8.decode s k).1 f = false := by
      cases e : Nm.signB (Utf8.decode s k).1 f with
      | false => rfl
      | true => have := Nm.signB_lt e; omega
    have e2 : Nm.signB (s[k].toNat) f = false := by
      cases e : Nm.signB (s[k].toNat) f with
      | false => rfl
      | true => have := Nm.signB_lt e; omega
    exact ⟨by rw [e1, e2], fun e => by rw [e1] at e; cases e⟩
theorem ask_p (c : Int) (k : Nat) : ((name_letter_g c).bind fun a4 => cond (!a4) (cond (cm .eql (k : Int) 0) (some true) ((name_digit_g c).bind fun a5 => some !a5)) (some false)) = some (!Nm.signB c (k == 0)) := by
  rw [letter_p, digit_p]
  simp only [Option.bind_some, cond_not, cm_eql, cond_dec]
  unfold Nm.signB
  cases k with
  | zero => cases Nm.letterB c <;> rfl
  | succ k =>
    have : ¬ ((k + 1 : Nat) : Int) = 0 := by omega
    simp only [this, if_false]
    have e : (k + 1 == 0) = false := rfl
    rw [e]
    cases Nm.letterB c <;> rfl
theorem label_from : ∀ (m k : Nat), k ≤ s.size → s.size < k + m → name_Label_l1 s m k = some (decide (runAt s (k == 0) k = s.size - k)) := by
  intro m
  induction m with
  | zero => intro k h1 h2; omega
  | succ m ih =>
    intro k h1 h2
    unfold name_Label_l1 nx
    rw [Int.toNat_natCast]
    by_cases c : k < s.size
    · rw [if_pos c]; dsimp only; rw [ask_p, runAt_in c]
      obtain ⟨e1, e2⟩ := dec_p (s := s) k c (k == 0)
      rw [e1]
      cases g : Nm.signB (Utf8.decode s k).1 (k == 0) with
      | false =>
        simp only [Option.bind_some, Bool.not_false, _root_.cond_true, Bool.false_eq_true, if_false]
        have : ¬ 0 = s.size - k := by omega
        rw [decide_eq_false this]
      | true =>
        have h3 : (k : Int) + ((Utf8.decode s k).2 : Int) = ((k + 1 : Nat) : Int) := by rw [e2 g]; rfl
        simp only [Option.bind_some, Bool.not_true, cond_false, if_true]
        rw [h3, ih (k + 1) (by omega) (by omega)]
        have e : (k + 1 == 0) = false := rfl
        rw [e]
        congr 1
        exact decide_eq_decide.2 (by omega)
    · rw [if_neg c, runAt_end c, decide_eq_true (by omega)]
theorem cut_from {p0 : ByteArray} {p1 : Int} {r : Nat} (hs : ss p0 p1 (sl p0) = s) (hr : runAt s true 0 = r) : ∀ (m k : Nat), k ≤ s.size → s.size < k + m → k + runAt s (k == 0) k = r →
    name_Cut_l1 p0 p1 m k = some (if r = s.size then (s, sl p0) else (ss s 0 (r : Int), ar .add .i64 p1 (r : Int))) := by
  intro m
  induction m with
  | zero => intro k h1 h2; omega
  | succ m ih =>
    intro k h1 h2 h3
    unfold name_Cut_l1 nx
    rw [hs, Int.toNat_natCast]
    by_cases c : k < s.size
    · rw [if_pos c]; dsimp only; rw [ask_p]
      rw [runAt_in c] at h3
      obtain ⟨e1, e2⟩ := dec_p (s := s) k c (k == 0)
      rw [e1] at h3
      cases g : Nm.signB (Utf8.decode s k).1 (k == 0) with
      | false =>
        rw [g] at h3
        have h3 : k = r := by simpa using h3
        have hin : ssinB s 0 (k : Int) = true := by simp [ssinB]; omega
        simp only [Option.bind_some, Bool.not_false, _root_.cond_true, hin]
        rw [h3, if_neg (by omega)]
      | true =>
        rw [g] at h3
        have h4 : (k : Int) + ((Utf8.decode s k).2 : Int) = ((k + 1 : Nat) : Int) := by rw [e2 g]; rfl
        simp only [Option.bind_some, Bool.not_true, cond_false]
        rw [h4]
        have e : (k + 1 == 0) = false := rfl
        exact ih (k + 1) (by omega) (by omega) (by rw [e]; simp only [if_true] at h3; omega)
    · rw [if_neg c]
      rw [runAt_end c] at h3
      rw [if_pos (by omega)]
def lab (s : ByteArray) : Bool := decide (1 ≤ s.size ∧ s.size ≤ 32 ∧ runAt s true 0 = s.size)
theorem label_p {N : Nat} (hN : 1000 ≤ N) : name_Label_g N s = some (lab s) := by
  unfold name_Label_g lab
  rw [sc_eql, cm_gtr, cond_dec, sl_eq]
  by_cases c : 1 ≤ s.size
  · have c' : ¬ s = ByteArray.empty := fun e => by subst e; exact absurd c (by decide)
    rw [if_neg c']
    by_cases c2 : s.size ≤ 32
    · have : ¬ (32 : Int) < (s.size : Int) := by omega
      rw [decide_eq_false this]
      simp only [Option.bind_some, cond_false]
      rw [show (0 : Int) = ((0 : Nat) : Int) from rfl, label_from N 0 (by omega) (by omega)]
      simp [c, c2]
    · have : (32 : Int) < (s.size : Int) := by omega
      rw [decide_eq_true this]
      simp [c2]
  · have c' : s = ByteArray.empty := by
      apply ByteArray.ext
      apply Array.eq_empty_of_size_eq_zero
      show s.size = 0
      omega
    rw [if_pos c']
    simp [c]
end
end Pl
end Go.Proofs.YtampjnpnekekiaaDoor
namespace Go.Proofs.YtampjnpnekekiaaDoor
open Go
namespace Mx
abbrev Pos := Nat → Bool
def zr : Pos := fun _ => false
def orP (a b : Pos) : Pos := fun j => a j || b j
def single (i : Nat) : Pos := fun j => j == i
def one (S : CSet) (s : List UInt8) (x : Pos) : Pos := fun j => match j with
  | 0 => false
  | i + 1 => x i && (match s[i]? with | some c => S.has c.toNat | _ => false)
def iter (f : Pos → Pos) : Nat → Pos → Pos
  | 0, x => x
  | k + 1, x => iter f k (f x)
def upto (f : Pos → Pos) : Nat → Pos → Pos
  | 0, x => x
  | k + 1, x => orP x (f (upto f k x))
def more (long : Nat) (mn mx : Int) : Nat := if mx = -1 then long else (mx - mn).toNat
mutual
def sp (s : List UInt8) : Node → Pos → Pos
  | .mk k S kids mn mx => fun x => if k = 1 then one S s x else if k = 2 then spCat s kids x else if k = 3 then spAlt s kids x else spRep s kids mn mx x
def spCat (s : List UInt8) : List Node → Pos → Pos
  | [] => fun x => x
  | n :: r => fun x => spCat s r (sp s n x)
def spAlt (s : List UInt8) : List Node → Pos → Pos
  | [] => fun _ => zr
  | n :: r => fun x => orP (sp s n x) (spAlt s r x)
def spRep (s : List UInt8) (kids : List Node) (mn mx : Int) : Pos → Pos := match kids with
  | [] => fun _ => zr
  | n :: _ => fun x => upto (sp s n) (more s.length mn mx) (iter (sp s n) mn.toNat x)
end
structure Adds (f : Pos → Pos) : Prop where
  or_ : ∀ a b, f (orP a b) = orP (f a) (f b)
  none_ : f zr = zr
theorem or_none (a : Pos) : orP a zr = a := by funext j; simp [orP, zr]
theorem none_or (a : Pos) : orP zr a = a := by funext j; simp [orP, zr]
theorem or_self (a : Pos) : orP a a = a := by funext j; simp [orP]
theorem or_assoc (a b c : Pos) : orP (orP a b) c = orP a (orP b c) := by funext j; simp [orP, Bool.or_assoc]
theorem or_four (a b c d : Pos) : orP (orP a b) (orP c d) = orP (orP a c) (orP b d) := by
  funext j; simp only [orP]; cases a j <;> cases b j <;> cases c j <;> cases d j <;> rfl
theorem adds_one (S : CSet) (s : List UInt8) : Adds (one S s) where
  or_ a b := by
    funext j
    cases j with
    | zero => rfl
    | succ i => simp only [one, orP]; cases a i <;> cases b i <;> simp
  none_ := by funext j; cases j <;> simp [one, zr]
theorem Adds.comp {f g : Pos → Pos} (hf : Adds f) (hg : Adds g) : Adds (fun x => g (f x)) := ⟨fun a b => by rw [hf.or_, hg.or_], by rw [hf.none_, hg.none_]⟩
theorem Adds.id : Adds (fun x => x) := ⟨fun _ _ => rfl, rfl⟩
theorem Adds.zr : Adds (fun _ => zr) := ⟨fun _ _ => (or_self _).symm, rfl⟩
theorem Adds.orP {f g : Pos → Pos} (hf : Adds f) (hg : Adds g) : Adds (fun x => orP (f x) (g x)) := ⟨fun a b => by rw [hf.or_, hg.or_, or_four], by rw [hf.none_, hg.none_, or_self]⟩
theorem Adds.iter {f : Pos → Pos} (hf : Adds f) : ∀ k, Adds (iter f k)
  | 0 => Adds.id
  | k + 1 => hf.comp (Adds.iter hf k)
theorem Adds.upto {f : Pos → Pos} (hf : Adds f) : ∀ k, Adds (upto f k)
  | 0 => Adds.id
  | k + 1 => Adds.orP Adds.id ((Adds.upto hf k).comp hf)
mutual
theorem adds_sp (s : List UInt8) : ∀ n, Adds (sp s n)
  | .mk k S kids mn mx => by
    unfold sp
    by_cases h1 : k = 1
    · simp only [h1, if_true]; exact adds_one S s
    · by_cases h2 : k = 2
      · simp only [h2]; exact adds_cat s kids
      · by_cases h3 : k = 3
        · simp only [h3]; exact adds_alt s kids
        · simp only [h1, h2, h3, if_false]; exact adds_rep s kids mn mx
theorem adds_cat (s : List UInt8) : ∀ l, Adds (spCat s l)
  | [] => by unfold spCat; exact Adds.id
  | n :: r => by unfold spCat; exact (adds_sp s n).comp (adds_cat s r)
theorem adds_alt (s : List UInt8) : ∀ l, Adds (spAlt s l)
  | [] => by unfold spAlt; exact Adds.zr
  | n :: r => by unfold spAlt; exact Adds.orP (adds_sp s n) (adds_alt s r)
theorem adds_rep (s : List UInt8) : ∀ (kids : List Node) (mn mx : Int), Adds (spRep s kids mn mx)
  | [], _, _ => by unfold spRep; exact Adds.zr
  | n :: _, mn, mx => by unfold spRep; exact ((adds_sp s n).iter _).comp ((adds_sp s n).upto _)
end
def Sup (N : Nat) (x : Pos) : Prop := ∀ j, N ≤ j → x j = false
def Keeps (N : Nat) (f : Pos → Pos) : Prop := ∀ x, Sup N x → Sup N (f x)
theorem sup_none (N : Nat) : Sup N zr := fun _ _ => rfl
theorem Sup.orP {N : Nat} {a b : Pos} (ha : Sup N a) (hb : Sup N b) : Sup N (orP a b) := fun j hj => by simp [Mx.orP, ha j hj, hb j hj]
theorem sup_single {N i : Nat} (h : i < N) : Sup N (single i) := fun j hj => by simp [single]; omega
theorem keeps_one (S : CSet) (s : List UInt8) : Keeps (s.length + 1) (one S s) := fun x _ j hj => by
  cases j with
  | zero => omega
  | succ i => simp only [one]; rw [List.getElem?_eq_none (by omega)]; simp
theorem Keeps.iter {N : Nat} {f : Pos → Pos} (hf : Keeps N f) : ∀ k, Keeps N (iter f k)
  | 0 => fun _ h => h
  | k + 1 => fun x h => Keeps.iter hf k _ (hf x h)
theorem Keeps.upto {N : Nat} {f : Pos → Pos} (hf : Keeps N f) : ∀ k, Keeps N (upto f k)
  | 0 => fun _ h => h
  | k + 1 => fun x h => h.orP (hf _ (Keeps.upto hf k x h))
mutual
theorem keeps_sp (s : List UInt8) : ∀ n, Keeps (s.length + 1) (sp s n)
  | .mk k S kids mn mx => by
    unfold sp
    by_cases h1 : k = 1
    · simp only [h1, if_true]; exact keeps_one S s
    · by_cases h2 : k = 2
      · simp only [h2]; exact keeps_cat s kids
      · by_cases h3 : k = 3
        · simp only [h3]; exact keeps_alt s kids
        · simp only [h1, h2, h3, if_false]; exact keeps_rep s kids mn mx
theorem keeps_cat (s : List UInt8) : ∀ l, Keeps (s.length + 1) (spCat s l)
  | [] => by unfold spCat; exact fun _ h => h
  | n :: r => by unfold spCat; exact fun x h => keeps_cat s r _ (keeps_sp s n x h)
theorem keeps_alt (s : List UInt8) : ∀ l, Keeps (s.length + 1) (spAlt s l)
  | [] => by unfold spAlt; exact fun _ _ => sup_none _
  | n :: r => by unfold spAlt; exact fun x h => (keeps_sp s n x h).orP (keeps_alt s r x h)
theorem keeps_rep (s : List UInt8) : ∀ (kids : List Node) (mn mx : Int), Keeps (s.length + 1) (spRep s kids mn mx)
  | [], _, _ => by unfold spRep; exact fun _ _ => sup_none _
  | n :: _, mn, mx => by unfold spRep; exact fun x h => (keeps_sp s n).upto _ _ ((keeps_sp s n).iter _ _ h)
end
def Le (a b : Pos) : Prop := ∀ j, a j = true → b j = true
theorem le_or_left (a b : Pos) : Le a (orP a b) := fun j h => by simp [orP, h]
theorem or_of_le {a b : Pos} (h : Le b a) : orP a b = a := by
  funext j
  simp only [orP]
  cases hb : b j
  · simp
  · simp [h j hb]
theorem Le.antisymm {a b : Pos} (h : Le a b) (h' : Le b a) : a = b := by
  funext j
  cases ha : a j
  · cases hb : b j
    · rfl
    · rw [h' j hb] at ha; cases ha
  · rw [h j ha]
theorem iter_succ (f : Pos → Pos) : ∀ k x, iter f (k + 1) x = f (iter f k x)
  | 0, _ => rfl
  | k + 1, x => iter_succ f k (f x)
theorem upto_succ {f : Pos → Pos} (hf : Adds f) : ∀ k x, upto f (k + 1) x = orP (upto f k x) (iter f (k + 1) x)
  | 0, x => rfl
  | k + 1, x => by
    show orP x (f (upto f (k + 1) x)) = orP (orP x (f (upto f k x))) (iter f (k + 2) x)
    rw [upto_succ hf k x, hf.or_, ← or_assoc, ← iter_succ f (k + 1) x]
theorem upto_le {f : Pos → Pos} (hf : Adds f) (k : Nat) (x : Pos) : Le (upto f k x) (upto f (k + 1) x) := by rw [upto_succ hf]; exact le_or_left _ _
theorem upto_stop {f : Pos → Pos} {k : Nat} {x : Pos} (h : upto f (k + 1) x = upto f k x) : ∀ m, k ≤ m → upto f m x = upto f k x := by
  intro m hm
  induction m with
  | zero => obtain rfl : k = 0 := by omega
            rfl
  | succ m ih =>
    rcases Nat.lt_or_ge k (m + 1) with h1 | h1
    · have h2 := ih (by omega)
      show orP x (f (upto f m x)) = _
      rw [h2]
      exact h
    · obtain rfl : k = m + 1 := by omega
      rfl
def cnt (N : Nat) (x : Pos) : Nat := (List.range N).countP x
theorem cnt_le (N : Nat) (x : Pos) : cnt N x ≤ N := by unfold cnt; have := List.countP_le_length (p := x) (l := List.range N); simpa using this
theorem cnt_lt {N : Nat} {a b : Pos} (h : Le a b) (hb : Sup N b) (hne : a ≠ b) : cnt N a < cnt N b := by
  have hex : ∃ j, a j = false ∧ b j = true := Classical.byContradiction fun hno => hne (h.antisymm fun j hj => by
    cases ha : a j
    · exact absurd ⟨j, ha, hj⟩ hno
    · rfl)
  obtain ⟨j, h1, h2⟩ := hex
  have hj : j < N := Nat.lt_of_not_le fun h3 => by rw [hb j h3] at h2; cases h2
  unfold cnt
  have key : ∀ (l : List Nat), l.countP a ≤ l.countP b ∧ (j ∈ l → l.countP a < l.countP b) := by
    intro l
    induction l with
    | nil => exact ⟨Nat.le_refl _, fun h => by cases h⟩
    | cons i r ih =>
      rw [List.countP_cons, List.countP_cons]
      refine ⟨?_, fun hm => ?_⟩
      · cases hai : a i
        · have := ih.1; simp; omega
        · rw [h i hai]; have := ih.1; simp; omega
      · rcases List.mem_cons.1 hm with rfl | hm
        · rw [h1, h2]; have := ih.1; simp; omega
        · have := ih.2 hm
          cases hai : a i
          · simp; omega
          · rw [h i hai]; simp; omega
  exact (key _).2 (by simpa using hj)
theorem cnt_upto {f : Pos → Pos} {N : Nat} (hf : Adds f) (hk : Keeps N f) {x : Pos} (hx : Sup N x) (hne : x ≠ zr) : ∀ k, upto f (k + 1) x ≠ upto f k x → k + 2 ≤ cnt N (upto f (k + 1) x)
  | 0, h => by
    have h1 : 0 < cnt N x := by have := cnt_lt (a := zr) (b := x) (fun j h => by cases h) hx (Ne.symm hne); omega
    have h2 := cnt_lt (upto_le hf 0 x) (hk.upto 1 x hx) (Ne.symm h)
    have h3 : upto f 0 x = x := rfl
    rw [h3] at h2
    omega
  | k + 1, h => by
    by_cases h0 : upto f (k + 1) x = upto f k x
    · exact absurd ((upto_stop h0 (k + 2) (by omega)).trans (upto_stop h0 (k + 1) (by omega)).symm) h
    · have h1 := cnt_upto hf hk hx hne k h0
      have h2 := cnt_lt (upto_le hf (k + 1) x) (hk.upto (k + 2) x hx) (Ne.symm h)
      omega
theorem sp_any {f : Pos → Pos} (hf : Adds f) {N : Nat} {x : Pos} (hx : Sup N x) (j : Nat) : f x j = (List.range N).any (fun i => x i && f (single i) j) := by
  have key : ∀ k, f (fun i => decide (i < k) && x i) j = (List.range k).any (fun i => x i && f (single i) j) := by
    intro k
    induction k with
    | zero => rw [show (fun i => decide (i < 0) && x i) = zr by funext i; simp [zr], hf.none_]; rfl
    | succ k ih =>
      rw [List.range_succ, List.any_append, ← ih]
      have e : (fun i => decide (i < k + 1) && x i) = orP (fun i => decide (i < k) && x i) (if x k then single k else zr) := by
        funext i
        simp only [orP]
        by_cases h1 : i = k
        · subst h1; cases hx : x i <;> simp [single, zr]
        · have h2 : decide (i < k + 1) = decide (i < k) := by rw [decide_eq_decide]; omega
          rw [h2]
          cases hx : x k <;> simp [single, zr, h1]
      rw [e, hf.or_]
      simp only [orP, List.any_cons, List.any_nil, Bool.or_false]
      cases x k
      · simp [hf.none_, zr]
      · simp
  rw [← key N]
  congr 1
  funext i
  by_cases h : i < N
  · simp [h]
  · simp [h, hx i (by omega)]
end Mx
end Go.Proofs.YtampjnpnekekiaaDoor
namespace Go.Proofs.YtampjnpnekekiaaDoor
open Go
namespace Rx
section
variable {l m : List UInt8} {k : Nat} {c : Int}
def Sim {α : Type} (k : Nat) (L : Prop) (r r' : Res α) : Prop := ∀ a p, r = .ok a p → r' = .ok a (p + k) ∨ (L ∧ ∃ q, r' = .bad 3 q)
variable {at1 at2 : Nat → Res Node} {L : Prop}
variable (hf : ∀ i, i ≤ l.length → Fine l i (at1 i)) (ha : ∀ i, i ≤ l.length → Sim k L (at1 i) (at2 (i + k)))
include hf ha
end
end Rx
namespace Rx
def Bads {α : Type} (l : List UInt8) (r : Res α) : Prop := ∀ e p, r = .bad e p → (e = 1 ∨ e = 2 ∨ e = 3) ∧ p ≤ l.length
variable {l : List UInt8}
end Rx
end Go.Proofs.YtampjnpnekekiaaDoor
namespace Go.Proofs.YtampjnpnekekiaaDoor
set_option linter.unusedSimpArgs false
open Go
namespace Rx
def timesB (lo hi : Int) : Bool := if lo < 0 || lo > 16 || hi > 16 || hi < -1 || hi == 0 then false else hi == -1 || hi ≥ lo
def topB (kind : Int) (S : CSet) (many : Nat) (mn mx : Int) : Bool :=
  (kind == 1 || kind == 2 || kind == 3 || kind == 4) && (kind == 1 || decide (S = CSet.empty)) && (kind == 4 || mn == 0 && mx == 0) &&
  (if kind == 1 then many == 0 else if kind == 2 then many != 1 else if kind == 3 then decide (many > 1) else many == 1 && timesB mn mx)
mutual
def right : Node → Bool
  | .mk kind S kids mn mx => topB kind S kids.length mn mx && rights kind kids
def rights (kind : Int) : List Node → Bool
  | [] => true
  | n :: r => (right n && !(n.kind == kind && kind != 4)) && rights kind r
end
theorem right_eq (n : Node) : right n = (topB n.kind n.set n.kids.length n.min n.max && rights n.kind n.kids) := by cases n; rw [right] <;> rfl
theorem rights_iff (kind : Int) (ns : List Node) : rights kind ns = true ↔ ∀ n ∈ ns, right n = true ∧ ¬ (n.kind = kind ∧ kind ≠ 4) := by
  induction ns with
  | nil => simp [rights]
  | cons a r ih => rw [rights, Bool.and_eq_true, ih]; simp; intro _; omega
variable {l : List UInt8}
end Rx
end Go.Proofs.YtampjnpnekekiaaDoor
