/- Texts that the proof leans on. -/
import Derived.Test.YtagppjldegblhaaGreatDoorK225
import Derived.Test.YtagppjldegblhaaGreatDoorK229
set_option linter.unusedVariables false
set_option linter.unusedSimpArgs false
set_option maxRecDepth 100000
set_option maxHeartbeats 4000000
namespace Go.Proofs.YtagppjldegblhaaGreatDoor
open Go Go.RowKit Go.Lib
open Ab Sh
namespace Lw
theorem flat_rep {x : Value} (h : oneV x = true) (cx : Cx) (w : World) : VRep cx w (.t (.flat x)) x := .t _ _ (.flat _ h)
end Lw
end Go.Proofs.YtagppjldegblhaaGreatDoor
namespace Go.Proofs.YtagppjldegblhaaGreatDoor
open Go Go.RowKit
open Ab Sh
namespace Gn
def r22_bad_g (p0 : Int) (p1 : Int) : Option (GMatcher × Int × GFault) :=
 some ((⟨ByteArray.empty, 0, ByteArray.empty⟩ : GMatcher), 0, (⟨p0, p1⟩ : GFault))
def r09_Signs_l1 (p0 : ByteArray) (p1 : Int) : Nat → Int → Option Int
| 0, _ => none
| m + 1, v1 =>
 (cond (cm .lss (ar .add .i64 p1 v1) (sl p0))
 (cond (sinB p0 (ar .add .i64 p1 v1)) ((r09_sign_g (sa p0 (ar .add .i64 p1 v1)) (cm .eql v1 0)).bind fun a2 =>
 some a2) none)
 (some false) : Option Bool).bind fun j1 =>
 cond (j1)
 ((r09_Signs_l1 p0 p1 m) (ar .add .i64 v1 1))
 (some v1)
def r09_Signs_g (N : Nat) (p0 : ByteArray) (p1 : Int) : Option Int :=
 r09_Signs_l1 p0 p1 N 0
def r22_is_g (p0 : ByteArray) (p1 : Int) (p2 : Int) : Option Bool :=
 (cond (cm .lss p1 (sl p0))
 (cond (sinB p0 p1) (some (cm .eql (sa p0 p1) p2)) none)
 (some false) : Option Bool).bind fun j1 =>
 some j1
def r22_Op_g (p0 : ByteArray) (p1 : Int) : Option Int :=
 ((r22_is_g p0 p1 61).bind fun a1 =>
 cond (a1)
 ((r22_is_g p0 (ar .add .i64 p1 1) 126).bind fun a2 =>
 some a2)
 (some false) : Option Bool).bind fun j1 =>
 cond (j1)
 (some 3)
 ((r22_is_g p0 p1 61).bind fun a3 =>
 cond (a3)
 (some 1)
 (((r22_is_g p0 p1 33).bind fun a4 =>
 cond (a4)
 ((r22_is_g p0 (ar .add .i64 p1 1) 61).bind fun a5 =>
 some a5)
 (some false) : Option Bool).bind fun j2 =>
 cond (j2)
 (some 2)
 (((r22_is_g p0 p1 33).bind fun a6 =>
 cond (a6)
 ((r22_is_g p0 (ar .add .i64 p1 1) 126).bind fun a7 =>
 some a7)
 (some false) : Option Bool).bind fun j3 =>
 cond (j3)
 (some 4)
 (some 0))))
def r10_Read_g (N : Nat) (p0 : ByteArray) (p1 : Int) : Option (ByteArray × Int × GFault) :=
 (cond (cm .lss p1 0)
 (some true)
 (some (cm .gtr p1 (sl p0))) : Option Bool).bind fun j1 =>
 cond (j1)
 (some (ByteArray.empty, 0, (⟨7, 0⟩ : GFault)))
 (cond (cm .eql p1 (sl p0))
 (some (ByteArray.empty, 0, (⟨1, p1⟩ : GFault)))
 (cond (sinB p0 p1) (cond (cm .neq (sa p0 p1) 34)
 (some (ByteArray.empty, 0, (⟨2, p1⟩ : GFault)))
 (r10_Read_l1 N p0 N ByteArray.empty (ar .add .i64 p1 1))) none))
def r22_Take_g (N : Nat) (p0 : ByteArray) (p1 : Int) : Option (GMatcher × Int × GFault) :=
 (cond (cm .lss p1 0)
 (some true)
 (some (cm .gtr p1 (sl p0))) : Option Bool).bind fun j1 =>
 cond (j1)
 ((r22_bad_g 7 0).bind fun a1 =>
 some (a1.1, a1.2.1, a1.2.2))
 (cond (cm .eql p1 (sl p0))
 ((r22_bad_g 1 p1).bind fun a2 =>
 some (a2.1, a2.2.1, a2.2.2))
 ((r09_Signs_g N p0 p1).bind fun a3 =>
 (cond (cm .lss a3 1)
 (some true)
 (some (cm .gtr a3 32)) : Option Bool).bind fun j2 =>
 cond (j2)
 ((r22_bad_g 4 p1).bind fun a4 =>
 some (a4.1, a4.2.1, a4.2.2))
 ((r22_Op_g p0 (ar .add .i64 p1 a3)).bind fun a5 =>
 (cond (cm .eql a5 0)
 (some (cm .eql (ar .add .i64 p1 a3) (sl p0)))
 (some false) : Option Bool).bind fun j3 =>
 cond (j3)
 ((r22_bad_g 1 (ar .add .i64 p1 a3)).bind fun a6 =>
 some (a6.1, a6.2.1, a6.2.2))
 ((cond (cm .eql a5 0)
 ((r22_is_g p0 (ar .add .i64 p1 a3) 33).bind fun a7 =>
 cond (a7)
 (some (cm .eql (ar .add .i64 (ar .add .i64 p1 a3) 1) (sl p0)))
 (some false))
 (some false) : Option Bool).bind fun j4 =>
 cond (j4)
 ((r22_bad_g 1 (ar .add .i64 (ar .add .i64 p1 a3) 1)).bind fun a8 =>
 some (a8.1, a8.2.1, a8.2.2))
 (cond (cm .eql a5 0)
 ((r22_bad_g 2 (ar .add .i64 p1 a3)).bind fun a9 =>
 some (a9.1, a9.2.1, a9.2.2))
 ((r22_Sign_g a5).bind fun a10 =>
 (r10_Read_g N p0 (ar .add .i64 (ar .add .i64 p1 a3) (sl a10))).bind fun a11 =>
 cond (cm .neq a11.2.2.E 0)
 ((r22_bad_g a11.2.2.E a11.2.2.At).bind fun a12 =>
 some (a12.1, a12.2.1, a12.2.2))
 (cond (ssinB p0 p1 (ar .add .i64 p1 a3)) ((r22_Right_g N (⟨ss p0 p1 (ar .add .i64 p1 a3), a5, a11.1⟩ : GMatcher)).bind fun a13 =>
 cond (cm .neq a13 0)
 ((r22_Right_g N (⟨ss p0 p1 (ar .add .i64 p1 a3), a5, a11.1⟩ : GMatcher)).bind fun a14 =>
 (r22_bad_g a14 (ar .add .i64 (ar .add .i64 p1 a3) (sl a10))).bind fun a15 =>
 some (a15.1, a15.2.1, a15.2.2))
 (some ((⟨ss p0 p1 (ar .add .i64 p1 a3), a5, a11.1⟩ : GMatcher), a11.2.1, (⟨0, 0⟩ : GFault)))) none)))))))
end Gn
end Go.Proofs.YtagppjldegblhaaGreatDoor
namespace Go.Proofs.YtagppjldegblhaaGreatDoor.Nm
theorem run_le (g : Int → Bool → Bool) : ∀ f l, run g f l ≤ l.length
 | _, [] => Nat.le_refl _
 | f, c :: r => by
   unfold run
   have := run_le g false r
   split <;> simp; omega
theorem run_app (g : Int → Bool → Bool) : ∀ (f : Bool) (l r : List UInt8), run g f l = l.length → (∀ c ∈ r.head?, g c.toNat false = false) → (f = true → l ≠ [] ) → run g f (l ++ r) = l.length
 | f, [], r, _, h, hf => by
   cases f
   · cases r with
     | nil => rfl
     | cons c r => simp [run, h c (by simp)]
   · exact absurd rfl (hf rfl)
 | f, c :: l, r, hl, h, _ => by
   simp only [run] at hl
   split at hl
   · rename_i hc
     simp only [List.cons_append, run, hc, if_true, List.length_cons]
     rw [run_app g false l r (by simpa using hl) h (by simp)]
   · simp at hl
theorem run_label {l : List UInt8} (h : labelB l = true) (r : List UInt8) (hr : ∀ c ∈ r.head?, signB c.toNat false = false) : run signB true (l ++ r) = l.length := by
 simp only [labelB, Bool.and_eq_true, decide_eq_true_eq, allB, beq_iff_eq] at h
 exact run_app _ _ _ _ h.2 hr (fun _ e => by subst e; simp at h)
end Go.Proofs.YtagppjldegblhaaGreatDoor.Nm
namespace Go.Proofs.YtagppjldegblhaaGreatDoor
open Go Go.RowKit
open Sh Gn
namespace Pl
section
variable {s : ByteArray}
theorem cut_from {p0 : ByteArray} {p1 : Int} {r : Nat} (hs : ss p0 p1 (sl p0) = s) (hr : runAt s true 0 = r) : ∀ (m k : Nat), k ≤ s.size → s.size < k + m → k + runAt s (k == 0) k = r →
 name_Cut_l1 p0 p1 m k = some (if r = s.size then (s, sl p0) else (ss s 0 (r : Int), ar .add .i64 p1 (r : Int))) := by
 intro m
 induction m with
 | zero => intro k h1 h2; omega
 | succ m ih =>
   intro k h1 h2 h3
   unfold name_Cut_l1 nx
   rw [hs, Int.toNat_natCast]
   by_cases c : k < s.size
   · rw [if_pos c]; dsimp only; rw [ask_p]
     rw [runAt_in c] at h3
     obtain ⟨e1, e2⟩ := dec_p (s := s) k c (k == 0)
     rw [e1] at h3
     cases g : Nm.signB (Utf8.decode s k).1 (k == 0) with
     | false =>
       rw [g] at h3
       have h3 : k = r := by simpa using h3
       have hin : ssinB s 0 (k : Int) = true := by simp [ssinB]; omega
       simp only [Option.bind_some, Bool.not_false, _root_.cond_true, hin]
       rw [h3, if_neg (by omega)]
     | true =>
       rw [g] at h3
       have h4 : (k : Int) + ((Utf8.decode s k).2 : Int) = ((k + 1 : Nat) : Int) := by rw [e2 g]; rfl
       simp only [Option.bind_some, Bool.not_true, cond_false]
       rw [h4]
       have e : (k + 1 == 0) = false := rfl
       exact ih (k + 1) (by omega) (by omega) (by rw [e]; simp only [if_true] at h3; omega)
   · rw [if_neg c]
     rw [runAt_end c] at h3
     rw [if_pos (by omega)]
end
end Pl
end Go.Proofs.YtagppjldegblhaaGreatDoor
namespace Go.Proofs.YtagppjldegblhaaGreatDoor
open Go
namespace Cv
def fold (a : Nat) (l : List UInt8) : Nat := l.foldl (fun a b => 10 * a + (b.toNat - 48)) a
def dig (b : UInt8) : Prop := 48 ≤ b.toNat ∧ b.toNat ≤ 57
theorem dig_of {n : Nat} (h : n < 10) : dig (UInt8.ofNat (48 + n)) ∧ (UInt8.ofNat (48 + n)).toNat - 48 = n := by
 have : (UInt8.ofNat (48 + n)).toNat = 48 + n := by rw [UInt8.toNat_ofNat']; omega
 unfold dig
 rw [this]
 omega
theorem fold_le (l : List UInt8) : ∀ a, a ≤ fold a l := by
 induction l with
 | nil => intro a; exact Nat.le_refl _
 | cons b l ih =>
   intro a
   have := ih (10 * a + (b.toNat - 48))
   show a ≤ fold (10 * a + (b.toNat - 48)) l
   omega
theorem dec_all (u : Nat) : (∀ b ∈ Lib.decDigits u, dig b) ∧ fold 0 (Lib.decDigits u) = u ∧ Lib.decDigits u ≠ [] := by
 induction u using Nat.strongRecOn with
 | _ u ih =>
   rw [Lib.decDigits]
   split
   · rename_i h
     obtain ⟨h1, h2⟩ := dig_of h
     refine ⟨fun b hb => ?_, ?_, by simp⟩
     · obtain rfl := List.mem_singleton.1 hb; exact h1
     · show 10 * 0 + _ = u
       omega
   · rename_i h
     obtain ⟨i1, i2, i3⟩ := ih (u / 10) (by omega)
     obtain ⟨h1, h2⟩ := dig_of (n := u % 10) (by omega)
     refine ⟨fun b hb => ?_, ?_, by simp⟩
     · rcases List.mem_append.1 hb with hb | hb
       · exact i1 b hb
       · obtain rfl := List.mem_singleton.1 hb; exact h1
     · unfold fold at i2 ⊢
       rw [List.foldl_append, i2]
       show 10 * (u / 10) + _ = u
       omega
theorem parse_fold : ∀ (l : List UInt8) (a : Nat), (∀ b ∈ l, dig b) → fold a l < 18446744073709551616 → Lib.parseUint10 a l = .ok (fold a l)
 | [], a, _, _ => rfl
 | b :: l, a, hd, hf => by
   have hb := hd b List.mem_cons_self
   have hf' : fold (10 * a + (b.toNat - 48)) l < 18446744073709551616 := hf
   have hle := fold_le l (10 * a + (b.toNat - 48))
   unfold dig at hb
   rw [Lib.parseUint10, if_pos hb, if_neg (by omega), if_neg (by omega)]
   have e : a * 10 + (b.toNat - 48) = 10 * a + (b.toNat - 48) := by omega
   rw [e]
   exact parse_fold l _ (fun x hx => hd x (List.mem_cons_of_mem _ hx)) hf'
theorem atoi_itoa {n : Int} (h0 : 0 ≤ n) (h1 : n ≤ 1099511627776) : Lib.atoiAll (Lib.itoa n) = .ok n := by
 obtain ⟨u, rfl⟩ := Int.eq_ofNat_of_zero_le h0
 have hu : u ≤ 1099511627776 := by omega
 obtain ⟨d1, d2, d3⟩ := dec_all u
 have e : Lib.itoa (u : Int) = Lib.decDigits u := by
  unfold Lib.itoa
  rw [if_neg (by omega), Int.toNat_natCast]
 rw [e]
 have hp := parse_fold (Lib.decDigits u) 0 d1 (by rw [d2]; omega)
 rw [d2] at hp
 generalize Lib.decDigits u = l at *
 cases l with
 | nil => exact absurd rfl d3
 | cons c r =>
   have hc := d1 c List.mem_cons_self
   unfold dig at hc
   have hm : Lib.parseMag (c :: r) = .ok u := by
    unfold Lib.parseMag
    rw [if_neg (by simp)]
    exact hp
   unfold Lib.atoiAll
   simp only
   rw [if_neg (by omega), hm]
   simp only
   rw [if_neg (by omega), if_neg (by omega), if_neg (by omega)]
end Cv
end Go.Proofs.YtagppjldegblhaaGreatDoor
namespace Go.Proofs.YtagppjldegblhaaGreatDoor.Nm
open Go
theorem splitL_ne (l : List UInt8) : splitL l ≠ [] := by
 cases l with
 | nil => simp [splitL]
 | cons c r =>
   unfold splitL
   split
   · simp
   · cases splitL r <;> simp [attach]
theorem attach_nil {x : List (List UInt8)} (h : x ≠ []) : attach [] x = x := by
 cases x with
 | nil => exact absurd rfl h
 | cons => rfl
theorem attach_attach (p q : List UInt8) (x : List (List UInt8)) (h : x ≠ []) : attach p (attach q x) = attach (p ++ q) x := by
 cases x with
 | nil => exact absurd rfl h
 | cons => simp [attach]
theorem splitL_no : ∀ (l : List UInt8), (∀ c ∈ l, c ≠ 32) → splitL l = [l]
 | [], _ => rfl
 | c :: r, h => by
   unfold splitL
   rw [if_neg (h c (by simp)), splitL_no r (fun d hd => h d (by simp [hd]))]
   rfl
theorem splitL_at : ∀ (p r : List UInt8), (∀ c ∈ p, c ≠ 32) → splitL (p ++ 32 :: r) = p :: splitL r
 | [], r, _ => by simp [splitL]
 | c :: p, r, h => by
   simp only [List.cons_append, splitL]
   rw [if_neg (h c (by simp)), splitL_at p r (fun d hd => h d (by simp [hd]))]
   rfl
theorem splitL_join : ∀ (ls : List (List UInt8)), ls ≠ [] → (∀ x ∈ ls, ∀ c ∈ x, c ≠ 32) → splitL (Lib.join ls [32]) = ls
 | [], h, _ => absurd rfl h
 | [x], _, h => by rw [Lib.join_one]; exact splitL_no x (h x (by simp))
 | x :: y :: r, _, h => by
   rw [join_cons2]
   simp only [List.append_assoc, List.singleton_append]
   rw [splitL_at x _ (h x (by simp)), splitL_join (y :: r) (by simp) (fun z hz => h z (by simp [hz]))]
theorem index_at (p r : List UInt8) (h : ∀ c ∈ p, c ≠ 32) : Lib.index (p ++ 32 :: r) [32] = p.length := by
 refine Lib.index_first (by simp) (by simp [Lib.occAt]) (fun j hj => ?_)
 unfold Lib.occAt
 rw [List.drop_append_of_le_length (by omega)]
 have e : p.drop j = p[j] :: p.drop (j + 1) := List.drop_eq_getElem_cons hj
 have h1 := h p[j] (List.getElem_mem hj)
 rw [e]
 show ((32 == p[j]) && _) = false
 have h2 : ((32 : UInt8) == p[j]) = false := by simpa using fun e => h1 e.symm
 rw [h2]
 rfl
theorem splitK_splitL : ∀ (n : Nat) (l : List UInt8), l.length ≤ n → Lib.splitK [32] 0 (Lib.count l [32]) l = splitL l
 | n, l, hn => by
   by_cases h : (32 : UInt8) ∈ l
   · obtain ⟨p, r, rfl, hp⟩ := List.eq_append_cons_of_mem h
     have hp' : ∀ c ∈ p, c ≠ 32 := fun c hc e => hp (e ▸ hc)
     have hc : Lib.count (p ++ 32 :: r) [32] = Lib.count r [32] + 1 := by
      rw [Lib.count_one, Lib.count_one, List.count_append, List.count_eq_zero.2 hp]
      simp
     rw [hc, splitL_at p r hp']
     match n, hn with
     | 0, hn => simp at hn
     | n + 1, hn =>
       unfold Lib.splitK
       rw [index_at p r hp', if_neg (by simp)]
       have e1 : ((p.length : Int)).toNat = p.length := by omega
       rw [e1]
       have e2 : (p ++ 32 :: r).drop (p.length + ([32] : List UInt8).length) = r := by
        rw [List.drop_append]
        simp
       rw [e2, splitK_splitL n r (by simp at hn; omega)]
       simp
   · have hl : ∀ c ∈ l, c ≠ 32 := fun c hc e => h (e ▸ hc)
     have hc : Lib.count l [32] = 0 := by
      rw [Lib.count_one]
      exact List.count_eq_zero.2 h
     rw [hc, splitL_no l hl]
     rfl
end Go.Proofs.YtagppjldegblhaaGreatDoor.Nm
namespace Go.Proofs.YtagppjldegblhaaGreatDoor
open Go Go.Lib
namespace Qu
theorem esc_two {l : List UInt8} {i b n : Nat} (h : esc l i = .ok b n) : 2 ≤ n ∧ i + n ≤ l.length ∧ b < 256 := by
 have h1 := bt_lt l (i + 1)
 have hd : ∀ b, dig b ≤ 16 := fun b => by unfold dig; (repeat' split) <;> omega
 have h2 := hd (bt l (i + 2))
 have h3 := hd (bt l (i + 3))
 unfold esc at h
 (repeat' split at h) <;> first | (cases h; done) | (obtain ⟨rfl, rfl⟩ := Esc.ok.inj h; omega)
theorem un_pos {l : List UInt8} {i n : Nat} {t : List UInt8} (hi : i < l.length) (h : un l i = .ok t n) : 1 ≤ n ∧ i + n ≤ l.length := by
 unfold un at h
 split at h
 · cases he : esc l i with
   | ok b m =>
     rw [he] at h
     obtain ⟨rfl, rfl⟩ := Un.ok.inj h
     have := esc_two he
     omega
   | bad e => rw [he] at h; cases h
 · split at h
   · obtain ⟨rfl, rfl⟩ := Un.ok.inj h
     exact ⟨unit_pos l i, unit_le hi⟩
   · cases h
theorem body_fuel (l : List UInt8) : ∀ (f g : Nat) (out : List UInt8) (i : Nat), l.length < i + f → l.length < i + g → body l f out i = body l g out i
 | 0, 0, _, _, _, _ => rfl
 | 0, g + 1, out, i, h, _ => by rw [body, body, if_neg (by omega)]
 | f + 1, 0, out, i, _, h => by rw [body, body, if_neg (by omega)]
 | f + 1, g + 1, out, i, h, h' => by
   rw [body, body]
   by_cases c : i < l.length
   · rw [if_pos c, if_pos c]
     by_cases d : bt l i = 34
     · rw [if_pos d, if_pos d]
     · rw [if_neg d, if_neg d]
       cases hu : un l i with
       | ok t n =>
         have := un_pos c hu
         exact body_fuel l f g (out ++ t) (i + n) (by omega) (by omega)
       | bad e p => rfl
   · rw [if_neg c, if_neg c]
theorem go_in {l out : List UInt8} {i : Nat} (h : i < l.length) : go l out i = if bt l i = 34 then .ok out (i + 1) else match un l i with | .ok t n => go l (out ++ t) (i + n) | .bad e p => .bad e p := by
 unfold go
 rw [body, if_pos h]
 split
 · rfl
 · cases hu : un l i with
   | ok t n =>
     have := un_pos h hu
     exact body_fuel l l.length (l.length + 1) _ _ (by omega) (by omega)
   | bad e p => rfl
theorem go_end {l out : List UInt8} {i : Nat} (h : l.length ≤ i) : go l out i = .bad 1 l.length := by unfold go; rw [body, if_neg (by omega)]
end Qu
end Go.Proofs.YtagppjldegblhaaGreatDoor
namespace Go.Proofs.YtagppjldegblhaaGreatDoor
open Go Go.Lib
namespace Qu
theorem runeN_same {n n' b0 b1 b2 b3 c1 c2 c3 k : Nat} (h : runeN n b0 b1 b2 b3 = k) (hk : 0 < k) (hn : k ≤ n') (h1 : 1 < k → c1 = b1) (h2 : 2 < k → c2 = b2) (h3 : 3 < k → c3 = b3) : runeN n' b0 c1 c2 c3 = k := by
 unfold runeN at h ⊢
 by_cases d1 : b0 < 128
 · rw [if_pos d1] at h ⊢; exact h
 rw [if_neg d1] at h ⊢
 by_cases d2 : 194 ≤ b0 ∧ b0 ≤ 223 ∧ 1 < n ∧ 128 ≤ b1 ∧ b1 ≤ 191
 · rw [if_pos d2] at h
   have := h1 (by omega)
   rw [if_pos (by omega)]; exact h
 rw [if_neg d2] at h
 by_cases d3 : 224 ≤ b0 ∧ b0 ≤ 239 ∧ (2 < n ∧ 128 ≤ b1 ∧ b1 ≤ 191 ∧ 128 ≤ b2 ∧ b2 ≤ 191) ∧ (b0 ≠ 224 ∨ 160 ≤ b1) ∧ (b0 ≠ 237 ∨ b1 < 160)
 · rw [if_pos d3] at h
   have := h1 (by omega)
   have := h2 (by omega)
   rw [if_neg (by omega), if_pos (by omega)]; exact h
 rw [if_neg d3] at h
 by_cases d4 : 240 ≤ b0 ∧ b0 ≤ 244 ∧ (3 < n ∧ 128 ≤ b1 ∧ b1 ≤ 191 ∧ 128 ≤ b2 ∧ b2 ≤ 191 ∧ 128 ≤ b3 ∧ b3 ≤ 191) ∧ (b0 ≠ 240 ∨ 144 ≤ b1) ∧ (b0 ≠ 244 ∨ b1 < 144)
 · rw [if_pos d4] at h
   have := h1 (by omega)
   have := h2 (by omega)
   have := h3 (by omega)
   rw [if_neg (by omega), if_neg (by omega), if_pos (by omega)]; exact h
 · rw [if_neg d4] at h; omega
theorem bt_app {a : List UInt8} {j : Nat} (h : j < a.length) (b : List UInt8) : bt (a ++ b) j = bt a j := by unfold bt; rw [List.getElem?_append_left h]
theorem bt_take {l : List UInt8} {j k : Nat} (h : j < k) : bt (l.take k) j = bt l j := by unfold bt; rw [List.getElem?_take_of_lt h]
theorem dig_hexd (n : Nat) (h : n < 16) : dig (hexd n).toNat = n := by
 have key : ∀ n : Fin 16, dig (hexd n.val).toNat = n.val := by decide
 exact key ⟨n, h⟩
theorem take_unit (l : List UInt8) (i : Nat) : l.take i ++ (l.drop i).take (unit l i) = l.take (i + unit l i) := by rw [List.take_add]
theorem rune_one {l : List UInt8} {i : Nat} (h : bt l i < 128) : rune l i = 1 := by unfold rune runeN; rw [if_pos h]
theorem go_back (l m post : List UInt8) : ∀ (f i p : Nat) (out : List UInt8), l.length ≤ i + f → i ≤ l.length → out = l.take i → m.drop p = rest l i ++ 34 :: post → go m out p = .ok l (p + (rest l i).length + 1) := by
 intro f
 induction f with
 | zero =>
   intro i p out hf hi ho hd
   rw [rest_end (by omega), List.nil_append] at hd
   have hp : p < m.length := by
    rcases Nat.lt_or_ge p m.length with h | h
    · exact h
    · rw [List.drop_eq_nil_of_le h] at hd; cases hd
   have hb : bt m p = 34 := by
    have := bt_drop m p 0
    rw [hd] at this
    exact this
   rw [go_in hp, if_pos hb, rest_end (by omega), ho, List.take_of_length_le (by omega)]
   rfl
 | succ f ih =>
   intro i p out hf hi ho hd
   by_cases hlt : i < l.length
   case neg =>
    have hz : rest l i = [] := rest_end (by omega)
    rw [hz, List.nil_append] at hd
    have hp : p < m.length := by
     rcases Nat.lt_or_ge p m.length with h | h
     · exact h
     · rw [List.drop_eq_nil_of_le h] at hd; cases hd
    have hb : bt m p = 34 := by
     have := bt_drop m p 0
     rw [hd] at this
     exact this
    rw [go_in hp, if_pos hb, hz, ho, List.take_of_length_le (by omega)]
    rfl
   have hu := unit_pos l i
   have hul := unit_le hlt
   have hre := rest_in hlt
   have hml : m.length = p + (rest l i).length + 1 + post.length := by
    have h1 := congrArg List.length hd
    rw [List.length_drop, List.length_append, List.length_cons] at h1
    omega
   have hen : 1 ≤ (enc l i).length := by
    unfold enc
    (repeat' split)
    · simp
    · rw [List.length_take, List.length_drop]; omega
    · simp
   have hrl : (rest l i).length = (enc l i).length + (rest l (i + unit l i)).length := by rw [hre, List.length_append]
   have hp : p < m.length := by omega
   have hat : ∀ j, j < (enc l i).length → bt m (p + j) = bt (enc l i) j := fun j hj => by
    rw [bt_drop, hd, hre, List.append_assoc, bt_app hj]
   have hnext : m.drop (p + (enc l i).length) = rest l (i + unit l i) ++ 34 :: post := by
    rw [← List.drop_drop, hd, hre, List.append_assoc, List.drop_left]
   have step : ∀ t, un m p = .ok t (enc l i).length → t = (l.drop i).take (unit l i) → bt m p ≠ 34 → go m out p = .ok l (p + (rest l i).length + 1) := fun t h1 h2 h3 => by
    rw [go_in hp, if_neg h3, h1]
    dsimp only
    rw [ih (i + unit l i) (p + (enc l i).length) (out ++ t) (by omega) (by omega) (by rw [ho, h2, take_unit]) hnext, hrl]
    congr 1
    omega
   have h00 := hat 0 (by omega)
   rw [Nat.add_zero] at h00
   by_cases c1 : bt l i = 34 ∨ bt l i = 92
   · have he : enc l i = [92, UInt8.ofNat (bt l i)] := by unfold enc; rw [if_pos c1]
     have hone : unit l i = 1 := by unfold unit; rw [rune_one (by omega)]; rfl
     have h0 : bt m p = 92 := by rw [h00, he]; rfl
     have h1 : bt m (p + 1) = bt l i := by
      rw [hat 1 (by rw [he]; simp), he]
      show (UInt8.ofNat (bt l i)).toNat = _
      rw [UInt8.toNat_ofNat', Nat.mod_eq_of_lt (bt_lt l i)]
     refine step [UInt8.ofNat (bt l i)] ?_ (by rw [hone, take_byte hlt]) (by omega)
     unfold un
     rw [if_pos h0]
     have hes : esc m p = .ok (bt l i) 2 := by
      unfold esc
      rw [he] at hrl
      simp at hrl
      rw [if_neg (by omega), h1, if_pos c1]
     rw [hes, he]
     rfl
   by_cases c2 : safe l i = true
   · have he : enc l i = (l.drop i).take (unit l i) := by unfold enc; rw [if_neg c1, if_pos c2]
     have hel : (enc l i).length = unit l i := by rw [he, List.length_take, List.length_drop]; omega
     have hb : ∀ j, j < unit l i → bt m (p + j) = bt l (i + j) := fun j hj => by
      rw [hat j (by omega), he, bt_take hj, ← bt_drop]
     have hb0 := hb 0 (by omega)
     rw [Nat.add_zero, Nat.add_zero] at hb0
     have c2' := c2
     unfold safe at c2'
     simp only [Bool.and_eq_true, decide_eq_true_eq] at c2'
     have hru : rune l i = unit l i := by unfold unit; rw [if_neg (by omega)]
     have hrm : rune m p = unit l i := by
      have hr := hru
      unfold rune at hr ⊢
      rw [hb0]
      exact runeN_same hr (by omega) (by omega) (fun h => hb 1 h) (fun h => hb 2 h) (fun h => hb 3 h)
     have hum : unit m p = unit l i := by unfold unit; rw [hrm, hru, if_neg (by omega)]
     have hsm : safe m p = true := by
      unfold safe
      simp only [Bool.and_eq_true, decide_eq_true_eq]
      rw [hrm, hb0]
      exact ⟨⟨by omega, c2'.1.2⟩, c2'.2⟩
     refine step ((m.drop p).take (unit l i)) ?_ ?_ (by rw [hb0]; omega)
     · unfold un
       rw [if_neg (by rw [hb0]; omega), if_pos hsm, hum, hel]
     · rw [hd, hre, he, List.append_assoc, List.take_append_of_le_length (by rw [List.length_take, List.length_drop]; omega), List.take_take, Nat.min_self]
   · have he : enc l i = [92, 120, hexd (bt l i / 16), hexd (bt l i % 16)] := by unfold enc; rw [if_neg c1, if_neg c2]
     have hlt256 := bt_lt l i
     have hone : unit l i = 1 := by
      unfold unit
      by_cases d : rune l i = 0
      · rw [if_pos d]
      · rw [if_neg d]
        rcases Nat.lt_or_ge (bt l i) 128 with h | h
        · exact rune_one h
        · exfalso
          apply c2
          unfold safe
          simp only [Bool.and_eq_true, decide_eq_true_eq]
          omega
     have h0 : bt m p = 92 := by rw [h00, he]; rfl
     have h1 : bt m (p + 1) = 120 := by rw [hat 1 (by rw [he]; simp), he]; rfl
     have h2 : bt m (p + 2) = (hexd (bt l i / 16)).toNat := by rw [hat 2 (by rw [he]; simp), he]; rfl
     have h3 : bt m (p + 3) = (hexd (bt l i % 16)).toNat := by rw [hat 3 (by rw [he]; simp), he]; rfl
     refine step [UInt8.ofNat (bt l i)] ?_ (by rw [hone, take_byte hlt]) (by omega)
     unfold un
     rw [if_pos h0]
     have hes : esc m p = .ok (bt l i) 4 := by
      unfold esc
      rw [he] at hrl
      simp at hrl
      rw [if_neg (by omega), if_neg (by omega), if_neg (by omega), if_neg (by omega), h2, dig_hexd _ (by omega), if_neg (by omega), if_neg (by omega), h3, dig_hexd _ (by omega), if_neg (by omega)]
      congr 1
      omega
     rw [hes, he]
     rfl
theorem read_back (pre l post : List UInt8) : read (pre ++ text l ++ post) pre.length = .ok l (pre.length + (text l).length) := by
 have hl : (pre ++ text l ++ post).length = pre.length + (rest l 0).length + 2 + post.length := by rw [text_eq]; simp; omega
 have hd : (pre ++ text l ++ post).drop pre.length = 34 :: (rest l 0 ++ 34 :: post) := by rw [List.append_assoc, List.drop_left, text_eq]; simp
 have hb : bt (pre ++ text l ++ post) pre.length = 34 := by
  have := bt_drop (pre ++ text l ++ post) pre.length 0
  rw [hd] at this
  exact this
 have hd2 : (pre ++ text l ++ post).drop (pre.length + 1) = rest l 0 ++ 34 :: post := by rw [← List.drop_drop, hd]; rfl
 unfold read
 rw [if_neg (by omega), if_neg (by omega), Int.toNat_natCast, if_neg (by omega)]
 have := go_back l (pre ++ text l ++ post) post l.length 0 (pre.length + 1) [] (by omega) (by omega) (by simp) hd2
 unfold go at this
 rw [this, text_eq]
 simp
 omega
end Qu
end Go.Proofs.YtagppjldegblhaaGreatDoor
namespace Go.Proofs.YtagppjldegblhaaGreatDoor
open Go
namespace Mt
theorem right_ok {m : M} (h : right m = 0) : Nm.labelB m.name.data.toList = true ∧ 1 ≤ m.op ∧ m.op ≤ 4 := by
 unfold right at h
 by_cases c : Nm.labelB m.name.data.toList = false
 · rw [if_pos c] at h; omega
 · rw [if_neg c] at h
   by_cases d : m.op < 1 ∨ 4 < m.op
   · rw [if_pos d] at h; omega
   · exact ⟨by simpa using c, by omega, by omega⟩
theorem take_back {m : M} (h : right m = 0) (pre post : List UInt8) : take (pre ++ text m ++ post) pre.length = .ok m (pre.length + (text m).length) := by
 obtain ⟨hl, h1, h4⟩ := right_ok h
 have hq : Qu.text m.val.data.toList = 34 :: (Qu.rest m.val.data.toList 0 ++ [34]) := rfl
 have hsl : 1 ≤ (sgn m.op).length := by unfold sgn; (repeat' split) <;> simp
 have hd : (pre ++ text m ++ post).drop pre.length = m.name.data.toList ++ (sgn m.op ++ (Qu.text m.val.data.toList ++ post)) := by
  rw [List.append_assoc, List.drop_left]; simp [text]
 have hrun : Nm.run Nm.signB true ((pre ++ text m ++ post).drop pre.length) = m.name.data.toList.length := by
  rw [hd]
  refine Nm.run_label hl _ (fun c hc => ?_)
  have : c = 61 ∨ c = 33 := by
   have h14 : m.op = 1 ∨ m.op = 2 ∨ m.op = 3 ∨ m.op = 4 := by omega
   unfold sgn at hc
   rcases h14 with e | e | e | e <;> (rw [e] at hc; simp at hc) <;> first | exact Or.inl hc.symm | exact Or.inr hc.symm
  rcases this with rfl | rfl <;> decide
 have hlen := hl
 simp only [Nm.labelB, Bool.and_eq_true, decide_eq_true_eq] at hlen
 have hk : ∀ j, Qu.bt (pre ++ text m ++ post) (pre.length + m.name.data.toList.length + j) = Qu.bt (sgn m.op ++ (34 :: (Qu.rest m.val.data.toList 0 ++ [34] ++ post))) j := fun j => by
  rw [Qu.bt_drop, ← List.drop_drop, hd, List.drop_left, hq]
  simp
 have h0 := hk 0
 have hk1 := hk 1
 rw [Nat.add_zero] at h0
 have hop : (opAt (pre ++ text m ++ post) (pre.length + m.name.data.toList.length) : Int) = m.op := by
  have h14 : m.op = 1 ∨ m.op = 2 ∨ m.op = 3 ∨ m.op = 4 := by omega
  unfold opAt
  rw [h0, hk1]
  rcases h14 with e | e | e | e <;> (rw [e]; rfl)
 have hrd : Qu.read (pre ++ text m ++ post) ((pre.length + m.name.data.toList.length + (sgn m.op).length : Nat) : Int) = .ok m.val.data.toList (pre.length + m.name.data.toList.length + (sgn m.op).length + (Qu.text m.val.data.toList).length) := by
  have := Qu.read_back (pre ++ m.name.data.toList ++ sgn m.op) m.val.data.toList post
  have e1 : pre ++ m.name.data.toList ++ sgn m.op ++ Qu.text m.val.data.toList ++ post = pre ++ text m ++ post := by simp [text]
  have e2 : (pre ++ m.name.data.toList ++ sgn m.op).length = pre.length + m.name.data.toList.length + (sgn m.op).length := by simp; omega
  rw [e1, e2] at this
  exact this
 have htl : (pre ++ text m ++ post).length = pre.length + (text m).length + post.length := by simp; omega
 have htx : (text m).length = m.name.data.toList.length + (sgn m.op).length + (Qu.text m.val.data.toList).length := by simp [text]; omega
 have hm : (⟨ofL (((pre ++ text m ++ post).drop pre.length).take m.name.data.toList.length), opAt (pre ++ text m ++ post) (pre.length + m.name.data.toList.length), ofL m.val.data.toList⟩ : M) = m := by
  rw [hop, hd, List.take_left, ofL_self, ofL_self]
 have ho1 : opAt (pre ++ text m ++ post) (pre.length + m.name.data.toList.length) ≠ 0 := by omega
 have hex : (↑(pre.length + m.name.data.toList.length + (sgn (↑(opAt (pre ++ text m ++ post) (pre.length + m.name.data.toList.length)))).length) : Int) = ((pre.length + m.name.data.toList.length + (sgn m.op).length : Nat) : Int) := by rw [hop]
 unfold take
 rw [if_neg (by omega), if_neg (by omega), Int.toNat_natCast, hrun, if_neg (by omega), if_neg ho1, hex, hrd]
 dsimp only
 rw [hm, if_neg (by rw [h]; simp), htx]
 congr 1
 omega
end Mt
end Go.Proofs.YtagppjldegblhaaGreatDoor
namespace Go.Proofs.YtagppjldegblhaaGreatDoor
open Go
namespace Sl
open Mt (M)
def parse (s : List UInt8) : List M × Int × Nat := match take s 0 with
 | .bad e p => ([], e, p)
 | .ok l p => if p < s.length then ([], 2, p) else (l, 0, 0)
theorem bt_in {s : List UInt8} {p : Nat} (h : Qu.bt s p ≠ 0) : p < s.length := Nat.lt_of_not_le fun g => h (by unfold Qu.bt; rw [List.getElem?_eq_none g])
theorem body_end (l : List UInt8) : ∀ (f : Nat) (out : List UInt8) (i p : Nat) (t : List UInt8), Qu.body l f out i = .ok t p → i < p ∧ p ≤ l.length
 | 0, out, i, p, t, h => by unfold Qu.body at h; cases h
 | f + 1, out, i, p, t, h => by
   unfold Qu.body at h
   split at h
   · rename_i c
     split at h
     · cases h; omega
     · cases hu : Qu.un l i with
       | ok t' n =>
         rw [hu] at h
         have := Qu.un_pos c hu
         have := body_end l f _ _ _ _ h
         omega
       | bad e' p' => rw [hu] at h; cases h
   · cases h
theorem read_end {l : List UInt8} {a : Int} {t : List UInt8} {p : Nat} (h : Qu.read l a = .ok t p) : a < p ∧ p ≤ l.length := by
 unfold Qu.read at h
 split at h
 · cases h
 · split at h
   · cases h
   · split at h
     · cases h
     · have := body_end _ _ _ _ _ _ h
       omega
theorem take_end {s : List UInt8} {i : Nat} {m : M} {p : Nat} (h : Mt.take s i = .ok m p) : i < p ∧ p ≤ s.length := by
 unfold Mt.take at h
 split at h
 · cases h
 · split at h
   · cases h
   · split at h
     · cases h
     · split at h
       · cases h
       · split at h
         · cases h
         · rename_i hr
           split at h
           · cases h
           · cases h
             have := read_end hr
             omega
theorem take_end_of {s : List UInt8} : Mt.take s (s.length : Nat) = .bad 1 s.length := by
 unfold Mt.take
 rw [if_neg (by omega), if_pos rfl, Int.toNat_natCast]
end Sl
end Go.Proofs.YtagppjldegblhaaGreatDoor
namespace Go.Proofs.YtagppjldegblhaaGreatDoor
open Go
namespace Sl
open Mt (M)
theorem drop_bt {s t : List UInt8} {i j : Nat} (h : s.drop i = t) : Qu.bt s (i + j) = Qu.bt t j := by rw [Qu.bt_drop, h]
theorem label_first {l : List UInt8} (h : Nm.labelB l = true) : ∃ c r, l = c :: r ∧ c ≠ 125 := by
 cases l with
 | nil => simp [Nm.labelB] at h
 | cons c r =>
   refine ⟨c, r, rfl, fun e => ?_⟩
   subst e
   unfold Nm.labelB Nm.allB at h
   have e : Nm.run Nm.signB true ((125 : UInt8) :: r) = 0 := by
    rw [Nm.run, if_neg (by decide)]
   simp [e] at h
theorem loop_back {s post : List UInt8} : ∀ (r : List M) (f : Nat) (out : List M) (i : Nat), r ≠ [] → (∀ m ∈ r, Mt.right m = 0) → out.length + r.length ≤ 64 → r.length ≤ f → i ≤ s.length → s.drop i = body r ++ 125 :: post →
 loop s f out i = .ok (out ++ r) (i + (body r).length + 1)
 | [], f, out, i, h, _, _, _, _, _ => absurd rfl h
 | m :: r, 0, out, i, _, _, _, hf, _, _ => by simp at hf
 | m :: r, f + 1, out, i, _, hr, h64, hf, hi, hd => by
   simp at h64 hf
   have hm := hr m (by simp)
   rw [loop, if_neg (by omega)]
   obtain ⟨rest, hrest⟩ : ∃ rest, rest = tl r ++ 125 :: post := ⟨_, rfl⟩
   have hs : s = s.take i ++ Mt.text m ++ rest := by
    have e := List.take_append_drop i s
    rw [hd, body, List.append_assoc, ← hrest] at e
    rw [List.append_assoc]
    exact e.symm
   have hl : (s.take i).length = i := by rw [List.length_take]; omega
   have hb := Mt.take_back hm (s.take i) rest
   rw [← hs, hl] at hb
   rw [hb]
   dsimp only
   have hd2 : s.drop (i + (Mt.text m).length) = rest := by
    rw [← List.drop_drop, hd, body, List.append_assoc, ← hrest, List.drop_left]
   have b0 : Qu.bt s (i + (Mt.text m).length) = Qu.bt rest 0 := drop_bt (j := 0) hd2
   have b1 : Qu.bt s (i + (Mt.text m).length + 1) = Qu.bt rest 1 := drop_bt (j := 1) hd2
   cases r with
   | nil =>
     have : Qu.bt rest 0 = 125 := by rw [hrest]; rfl
     rw [b0, this, if_pos rfl, body, tl]
     simp
   | cons m2 r =>
     have e0 : Qu.bt rest 0 = 44 := by rw [hrest]; rfl
     have e1 : Qu.bt rest 1 = 32 := by rw [hrest]; rfl
     rw [b0, b1, e0, e1, if_neg (by decide), if_neg (by decide), if_neg (by decide)]
     have hd3 : s.drop (i + (Mt.text m).length + 2) = body (m2 :: r) ++ 125 :: post := by
      rw [← List.drop_drop, hd2, hrest]; rfl
     have hlen : i + (Mt.text m).length + 2 ≤ s.length := by
      have h1 := congrArg List.length hd2
      rw [List.length_drop] at h1
      have h2 : 2 ≤ rest.length := by rw [hrest, tl]; simp
      omega
     rw [loop_back (m2 :: r) f (out ++ [m]) (i + (Mt.text m).length + 2) (by simp) (fun x hx => hr x (by simp at hx ⊢; exact .inr hx)) (by simp at h64 ⊢; omega) (by simpa using hf) hlen hd3]
     have e2 : (body (m :: m2 :: r)).length = (Mt.text m).length + 2 + (body (m2 :: r)).length := by
      rw [body, body, tl]; simp; omega
     rw [e2, List.append_assoc]
     congr 1
     omega
theorem take_back {l : List M} (hr : ∀ m ∈ l, Mt.right m = 0) (h64 : l.length ≤ 64) (pre post : List UInt8) : take (pre ++ text l ++ post) pre.length = .ok l (pre.length + (text l).length) := by
 have hd : (pre ++ text l ++ post).drop pre.length = 123 :: (body l ++ 125 :: post) := by
  rw [List.append_assoc, List.drop_left, text]; simp
 have hl : (pre ++ text l ++ post).length = pre.length + ((body l).length + 2) + post.length := by rw [text]; simp; omega
 have b0 : Qu.bt (pre ++ text l ++ post) pre.length = 123 := drop_bt (j := 0) hd
 have b1 : Qu.bt (pre ++ text l ++ post) (pre.length + 1) = Qu.bt (body l ++ 125 :: post) 0 := drop_bt (j := 1) hd
 unfold take
 rw [if_neg (by omega), Int.toNat_natCast, b0, if_neg (by decide), b1]
 cases l with
 | nil => rfl
 | cons m r =>
   obtain ⟨hlab, -, -⟩ := Mt.right_ok (hr m (by simp))
   obtain ⟨c, t, e, hc⟩ := label_first hlab
   have hne : Qu.bt (body (m :: r) ++ 125 :: post) 0 ≠ 125 := by
    rw [body, Mt.text, e]
    show c.toNat ≠ 125
    intro h
    exact hc (UInt8.toNat_inj.1 h)
   rw [if_neg hne]
   have hd2 : (pre ++ text (m :: r) ++ post).drop (pre.length + 1) = body (m :: r) ++ 125 :: post := by rw [← List.drop_drop, hd]; rfl
   have hz : (m :: r).length ≤ 64 := h64
   have hbl : (m :: r).length ≤ (body (m :: r)).length := by
    have key : ∀ l : List M, l.length ≤ (tl l).length := by
     intro l
     induction l with
     | nil => exact Nat.le_refl _
     | cons x y ih => rw [tl]; simp; omega
    have := key r
    rw [body, Mt.text, e]
    simp
    omega
   rw [loop_back (m :: r) _ [] (pre.length + 1) (by simp) hr (by simpa using h64) (by omega) (by omega) hd2]
   rw [List.nil_append, text]
   congr 1
   simp
   omega
end Sl
end Go.Proofs.YtagppjldegblhaaGreatDoor
namespace Go.Proofs.YtagppjldegblhaaGreatDoor
open Go
open Sh Gn
namespace Pl
section
variable {s : ByteArray} {i : Nat}
theorem index_dig : ∀ c : Fin 256, Lib.indexByte [48, 49, 50, 51, 52, 53, 54, 55, 56, 57, 97, 98, 99, 100, 101, 102] (UInt8.ofNat c.val) = if Qu.dig c.val = 16 then -1 else (Qu.dig c.val : Int) := by decide +kernel
theorem index_p {c : Nat} (h : c < 256) : strings_IndexByte_g (ByteArray.mk #[48, 49, 50, 51, 52, 53, 54, 55, 56, 57, 97, 98, 99, 100, 101, 102]) (c : Int) = some (if Qu.dig c = 16 then -1 else (Qu.dig c : Int)) := by
 unfold strings_IndexByte_g
 rw [← index_dig ⟨c, h⟩]
 rfl
theorem dig_le (c : Nat) : Qu.dig c ≤ 16 := by unfold Qu.dig; (repeat' split) <;> omega
def escI (e : Qu.Esc) : Int × Int × Int := match e with | .ok b n => ((b : Int), (n : Int), 0) | .bad e => (0, 0, (e : Int))
theorem qesc_p {N : Nat} (hN : 20 ≤ N) (hs : s.size ≤ 100000) (hi : i ≤ s.size) : quote_escape_g N (ss s i (sl s)) = some (escI (Qu.esc s.data.toList i)) := by
 obtain ⟨N, rfl⟩ : ∃ M, N = M + 3 := ⟨N - 3, by omega⟩
 have hz := size_end (s := s) (i := i) hi
 have hb : ∀ j : Nat, sa (ss s i (sl s)) (j : Int) = (Qu.bt s.data.toList (i + j) : Int) := fun j => by rw [sa_bt, ss_end hi, Qu.bt_drop]
 have h1 := hb 1
 have h2 := hb 2
 have h3 := hb 3
 have hin : ∀ j : Nat, i + j < s.size → sinB (ss s i (sl s)) (j : Int) = true := fun j hj => sin_in (by omega)
 unfold quote_escape_g Qu.esc
 simp only [cm_lss, cm_eql, cm_neq, cond_not, cond_dec, sl_eq]
 rw [show ((ss s i s.size).size) = s.size - i from hz, size_list]
 by_cases c : s.size < i + 2
 · have c' : ((s.size - i : Nat) : Int) < 2 := by omega
   simp only [c, c', if_true]; rfl
 have c' : ¬ ((s.size - i : Nat) : Int) < 2 := by omega
 simp only [c, c', if_false]
 have i1 : sinB (ss s i (s.size : Int)) 1 = true := hin 1 (by omega)
 have h1 : sa (ss s i (s.size : Int)) 1 = (Qu.bt s.data.toList (i + 1) : Int) := h1
 simp only [i1, h1, _root_.cond_true]
 have b1 := Qu.bt_lt s.data.toList (i + 1)
 have b2 := Qu.bt_lt s.data.toList (i + 2)
 have b3 := Qu.bt_lt s.data.toList (i + 3)
 by_cases c1 : Qu.bt s.data.toList (i + 1) = 34
 · simp only [c1, true_or, if_true, Option.bind_some, _root_.cond_true]; simp; rfl
 by_cases c2 : Qu.bt s.data.toList (i + 1) = 92
 · simp only [c2, or_true, if_true]; simp; rfl
 have c1' : ¬ (Qu.bt s.data.toList (i + 1) : Int) = 34 := by omega
 have c2' : ¬ (Qu.bt s.data.toList (i + 1) : Int) = 92 := by omega
 simp only [c1, c2, c1', c2', or_false, if_false, Option.bind_some, decide_false, cond_false]
 by_cases c3 : Qu.bt s.data.toList (i + 1) = 120
 · have c3' : (Qu.bt s.data.toList (i + 1) : Int) = 120 := by omega
   simp only [c3', if_true, c3, ne_eq, not_true_eq_false, if_false]
   unfold quote_escape_l1
   simp only [cm_lss, cm_geq, cond_dec, sl_eq]
   simp only [show ((2 : Int) < 4) from by decide, if_true, show ((ss s i s.size).size) = s.size - i from hz]
   by_cases d : s.size < i + 3
   · have d' : ((s.size - i : Nat) : Int) ≤ 2 := by omega
     simp only [d, d', if_true]; rfl
   have d' : ¬ ((s.size - i : Nat) : Int) ≤ 2 := by omega
   simp only [d, d', if_false]
   have i2 : sinB (ss s i (s.size : Int)) 2 = true := hin 2 (by omega)
   have h2 : sa (ss s i (s.size : Int)) 2 = (Qu.bt s.data.toList (i + 2) : Int) := h2
   simp only [i2, h2, _root_.cond_true, index_p b2, Option.bind_some]
   have g2 := dig_le (Qu.bt s.data.toList (i + 2))
   by_cases d2 : Qu.dig (Qu.bt s.data.toList (i + 2)) = 16
   · simp only [d2, if_true]; rfl
   have d2' : ¬ (Qu.dig (Qu.bt s.data.toList (i + 2)) : Int) < 0 := by omega
   simp only [d2, d2', if_false]
   have e1 : ar .add .i64 (ar .mul .i64 16 0) (Qu.dig (Qu.bt s.data.toList (i + 2)) : Int) = (Qu.dig (Qu.bt s.data.toList (i + 2)) : Int) := by
    rw [ar_mul (by decide) (by decide), ar_add (by omega) (by omega)]; omega
   have e2 : ar .add .i64 (2 : Int) 1 = 3 := by rw [ar_add (by decide) (by decide)]; rfl
   rw [e1, e2]
   unfold quote_escape_l1
   simp only [cm_lss, cm_geq, cond_dec, sl_eq]
   simp only [show ((3 : Int) < 4) from by decide, if_true, show ((ss s i s.size).size) = s.size - i from hz]
   by_cases d : s.size < i + 4
   · have d' : ((s.size - i : Nat) : Int) ≤ 3 := by omega
     simp only [d, d', if_true]; rfl
   have d' : ¬ ((s.size - i : Nat) : Int) ≤ 3 := by omega
   simp only [d, d', if_false]
   have i3 : sinB (ss s i (s.size : Int)) 3 = true := hin 3 (by omega)
   have h3 : sa (ss s i (s.size : Int)) 3 = (Qu.bt s.data.toList (i + 3) : Int) := h3
   simp only [i3, h3, _root_.cond_true, index_p b3, Option.bind_some]
   have g3 := dig_le (Qu.bt s.data.toList (i + 3))
   by_cases d3 : Qu.dig (Qu.bt s.data.toList (i + 3)) = 16
   · simp only [d3, if_true]; rfl
   have d3' : ¬ (Qu.dig (Qu.bt s.data.toList (i + 3)) : Int) < 0 := by omega
   simp only [d3, d3', if_false]
   have e3 : ar .add .i64 (ar .mul .i64 16 (Qu.dig (Qu.bt s.data.toList (i + 2)) : Int)) (Qu.dig (Qu.bt s.data.toList (i + 3)) : Int) = ((16 * Qu.dig (Qu.bt s.data.toList (i + 2)) + Qu.dig (Qu.bt s.data.toList (i + 3)) : Nat) : Int) := by
    rw [ar_mul (by omega) (by omega), ar_add (by omega) (by omega)]; omega
   have e4 : ar .add .i64 (3 : Int) 1 = 4 := by rw [ar_add (by decide) (by decide)]; rfl
   rw [e3, e4]
   unfold quote_escape_l1
   simp only [cm_lss, cond_dec]
   simp only [show ¬ ((4 : Int) < 4) from by decide, if_false]
   show some (cv .u8 _, (4 : Int), (0 : Int)) = some (((16 * _ + _ : Nat) : Int), (4 : Int), (0 : Int))
   congr 2
   show IntKind.u8.wrap _ = _
   rw [IntKind.wrap_u8]; omega
 · have c3' : ¬ (Qu.bt s.data.toList (i + 1) : Int) = 120 := by omega
   simp only [c3', if_false, ne_eq, c3, not_false_eq_true, if_true]
   rfl
end
end Pl
end Go.Proofs.YtagppjldegblhaaGreatDoor
