/- Quoting, plainly: the text; matchers' texts and order. -/
import Derived.Test.YtampjnpnekekiaaDoorK131
namespace Go.Proofs.YtampjnpnekekiaaDoor
open Go
set_option linter.unusedVariables false
set_option linter.unusedSimpArgs false
set_option maxRecDepth 100000
open Sh Gn
namespace Pl
theorem ofL_ct (a b : List UInt8) : ct (Mt.ofL a) (Mt.ofL b) = Mt.ofL (a ++ b) := by
  apply ByteArray.ext
  show (Mt.ofL a ++ Mt.ofL b).data = _
  rw [ByteArray.data_append]
  simp [Mt.ofL]
theorem ofL_size (a : List UInt8) : (Mt.ofL a).size = a.length := by rw [← size_list, Mt.ofL_list]
theorem ofL_ctB {a b : List UInt8} (h : a.length + b.length ≤ 1000000000) : ctB (Mt.ofL a) (Mt.ofL b) = true := by
  unfold ctB; rw [ofL_size, ofL_size]; exact decide_eq_true h
theorem rhex_p : ∀ c : Fin 256, r02_Hex_g 200000 ⟨#[UInt8.ofNat c.val]⟩ = some ⟨#[Qu.hexd (c.val / 16), Qu.hexd (c.val % 16)]⟩ := by decide +kernel
def hexS : ByteArray := ByteArray.mk #[48, 49, 50, 51, 52, 53, 54, 55, 56, 57, 97, 98, 99, 100, 101, 102]
theorem qhex_p : ∀ c : Fin 256, sinB hexS (ar .shr .u8 (c.val : Int) 4) = true ∧ sa hexS (ar .shr .u8 (c.val : Int) 4) = ((Qu.hexd (c.val / 16)).toNat : Int) ∧ sinB hexS (ar .and .u8 (c.val : Int) 15) = true ∧ sa hexS (ar .and .u8 (c.val : Int) 15) = ((Qu.hexd (c.val % 16)).toNat : Int) := by decide +kernel
def bis (l : List UInt8) : List Int := l.map fun b => (b.toNat : Int)
theorem bis_app {l m : List UInt8} (h : l.length + m.length ≤ 1000000000) : app (cI .u8) (bis l) (bis m) = some (bis (l ++ m)) := by
  unfold app bis
  rw [List.length_map, List.length_map, if_pos h, List.map_append]
section
variable {s : ByteArray} {i : Nat}
theorem qunit_p (hi : i < s.size) : quote_Unit_g s i = some (Qu.unit s.data.toList i : Int) := by
  unfold quote_Unit_g
  rw [dec_cp hi, ssin_end (by omega)]
  simp only [cm_lss, cm_geq, cond_dec, sl_eq, ite_or, Option.bind_some, _root_.cond_true]
  rw [if_neg (by omega)]
theorem runit_p {N : Nat} (hN : 20 ≤ N) (hs : s.size ≤ 100000) (hi : i < s.size) : r10_Unit_g N s i = some (Qu.unit s.data.toList i : Int) := by
  unfold r10_Unit_g
  rw [rrune_p hN hs hi]
  simp only [cm_lss, cm_geq, cm_eql, cond_dec, sl_eq, ite_or, Option.bind_some]
  rw [if_neg (by omega)]
  unfold Qu.unit
  by_cases c : Qu.rune s.data.toList i = 0
  · rw [if_pos (by omega), if_pos c]; rfl
  · rw [if_neg (by omega), if_neg c]
theorem decode_p (hi : i < s.size) : Utf8.decode s i = (Qu.cp s.data.toList i, Qu.unit s.data.toList i) := by
  rw [Lib.decode_at, get_bt, get_bt, get_bt, get_bt, ← Qu.cp_unit, size_list]
theorem ss_of (h : i + (Qu.unit s.data.toList i) ≤ s.size) : ss s (i : Int) ((i + Qu.unit s.data.toList i : Nat) : Int) = Mt.ofL ((s.data.toList.drop i).take (Qu.unit s.data.toList i)) := by
  apply ByteArray.ext
  apply Array.ext'
  rw [ss_list (by omega) (by omega), Nat.add_sub_cancel_left, Mt.ofL_list]
theorem ss_one (h : i < s.size) : ss s (i : Int) ((i + 1 : Nat) : Int) = Mt.ofL [UInt8.ofNat (Qu.bt s.data.toList i)] := by
  apply ByteArray.ext
  apply Array.ext'
  rw [ss_list (by omega) (by omega), Nat.add_sub_cancel_left, Mt.ofL_list, Qu.take_byte (by rw [size_list]; exact h)]
theorem enc_len (l : List UInt8) (i : Nat) : (Qu.enc l i).length ≤ 4 := by
  have h : Qu.unit l i ≤ 4 := by
    unfold Qu.unit Qu.rune Qu.runeN
    (repeat' split) <;> omega
  unfold Qu.enc
  (repeat' split)
  · simp
  · rw [List.length_take]; omega
  · simp
theorem rtext_from (hs : s.size ≤ 10000) : ∀ (m i : Nat) (out : List UInt8), i ≤ s.size → s.size < i + m → out.length ≤ 4 * i + 1 → r10_Text_l1 200000 s m (Mt.ofL out) i = some (Mt.ofL (out ++ (Qu.rest s.data.toList i ++ [34]))) := by
  intro m
  induction m with
  | zero => intro i out h1 h2; omega
  | succ m ih =>
    intro i out h1 h2 h3
    unfold r10_Text_l1
    simp only [cm_lss, cond_dec, sl_eq]
    by_cases c : i < s.size
    case neg =>
      rw [if_neg (by omega), Qu.rest_end (by rw [size_list]; omega), List.nil_append]
      show cond (ctB (Mt.ofL out) (Mt.ofL [34])) (some (ct (Mt.ofL out) (Mt.ofL [34]))) none = _
      rw [ofL_ctB (by simp; omega), ofL_ct]; rfl
    rw [if_pos (by omega), Qu.rest_in (by rw [size_list]; exact c), runit_p (by omega) (by omega) c]
    have hb := Qu.bt_lt s.data.toList i
    have hu := Qu.unit_le (l := s.data.toList) (i := i) (by rw [size_list]; exact c)
    have hu1 := Qu.unit_pos s.data.toList i
    have he := enc_len s.data.toList i
    rw [size_list] at hu
    have ea : ar .add .i64 (i : Int) (Qu.unit s.data.toList i : Int) = ((i + Qu.unit s.data.toList i : Nat) : Int) := by rw [ar_add (by omega) (by omega)]; omega
    have next := ih (i + Qu.unit s.data.toList i) (out ++ Qu.enc s.data.toList i) hu (by omega) (by rw [List.length_append]; omega)
    rw [List.append_assoc, ← List.append_assoc (Qu.enc _ _)] at next
    have e1 := inc1 (show i ≤ 100000000 by omega)
    have hsi := rsafe_p (s := s) (i := i) (N := 200000) (by omega) (by omega) c
    simp only [sin_in c, _root_.cond_true, sa_bt, Option.bind_some, cm_eql, cond_dec, ite_or, hsi, e1, ea]
    rw [← next]
    by_cases d1 : Qu.bt s.data.toList i = 34 ∨ Qu.bt s.data.toList i = 92
    · have d1' : (Qu.bt s.data.toList i : Int) = 34 ∨ (Qu.bt s.data.toList i : Int) = 92 := by omega
      have e : Qu.enc s.data.toList i = [92, UInt8.ofNat (Qu.bt s.data.toList i)] := by unfold Qu.enc; rw [if_pos d1]
      rw [if_pos d1', e, ss_one c, show (ByteArray.mk #[92]) = Mt.ofL [92] from rfl, ofL_ctB (by simp; omega), ssin_nat (by omega) (by omega), ofL_ct, ofL_ctB (by simp; omega), ofL_ct]
      simp
    have d1' : ¬ ((Qu.bt s.data.toList i : Int) = 34 ∨ (Qu.bt s.data.toList i : Int) = 92) := by omega
    rw [if_neg d1']
    cases g : Qu.safe s.data.toList i with
    | true =>
      have e : Qu.enc s.data.toList i = (s.data.toList.drop i).take (Qu.unit s.data.toList i) := by unfold Qu.enc; rw [if_neg d1, if_pos g]
      simp only [_root_.cond_true]
      rw [e, ss_of hu, ssin_nat (by omega) hu, ofL_ctB (by rw [← e]; omega), ofL_ct]
      simp
    | false =>
      have e : Qu.enc s.data.toList i = [92, 120, Qu.hexd (Qu.bt s.data.toList i / 16), Qu.hexd (Qu.bt s.data.toList i % 16)] := by unfold Qu.enc; rw [if_neg d1, if_neg (by rw [g]; simp)]
      have hh : r02_Hex_g 200000 (Mt.ofL [UInt8.ofNat (Qu.bt s.data.toList i)]) = some (Mt.ofL [Qu.hexd (Qu.bt s.data.toList i / 16), Qu.hexd (Qu.bt s.data.toList i % 16)]) := rhex_p ⟨_, hb⟩
      simp only [_root_.cond_false]
      rw [e, ss_one c, show (ByteArray.mk #[92, 120]) = Mt.ofL [92, 120] from rfl, ofL_ctB (by simp; omega), ssin_nat (j := i + 1) (by omega) (by omega), hh, ofL_ct]
      simp only [Option.bind_some, _root_.cond_false, _root_.cond_true]
      rw [ofL_ctB (by simp; omega), ofL_ct]
      simp
theorem rtext_p (hs : s.size ≤ 10000) : r10_Text_g 200000 s = some (Mt.ofL (Qu.text s.data.toList)) := rtext_from hs 200000 0 [34] (by omega) (by omega) (by simp)
theorem qtext_from (hs : s.size ≤ 10000) : ∀ (m i : Nat) (out : List UInt8), i ≤ s.size → s.size < i + m → out.length ≤ 4 * i + 1 → quote_Text_l2 s m (bis out) i = some (Mt.ofL (out ++ (Qu.rest s.data.toList i ++ [34]))) := by
  intro m
  induction m with
  | zero => intro i out h1 h2; omega
  | succ m ih =>
    intro i out h1 h2 h3
    unfold quote_Text_l2 nx
    rw [Int.toNat_natCast]
    by_cases c : i < s.size
    case neg =>
      rw [if_neg c, Qu.rest_end (by rw [size_list]; omega), List.nil_append]
      show ((app (cI .u8) (bis out) (bis [34])).bind fun l => (strB l).bind fun s => some s) = _
      rw [bis_app (by simp; omega), Option.bind_some]
      show ((strB (bis (out ++ [34]))).bind fun s => some s) = _
      rw [show strB (bis (out ++ [34])) = _ from str_map _]; rfl
    rw [if_pos c, decode_p c, Qu.rest_in (by rw [size_list]; exact c), qunit_p c]
    have hb := Qu.bt_lt s.data.toList i
    have hu := Qu.unit_le (l := s.data.toList) (i := i) (by rw [size_list]; exact c)
    have hu1 := Qu.unit_pos s.data.toList i
    have he := enc_len s.data.toList i
    rw [size_list] at hu
    have ea : ar .add .i64 (i : Int) (Qu.unit s.data.toList i : Int) = ((i + Qu.unit s.data.toList i : Nat) : Int) := by rw [ar_add (by omega) (by omega)]; omega
    have next := ih (i + Qu.unit s.data.toList i) (out ++ Qu.enc s.data.toList i) hu (by omega) (by rw [List.length_append]; omega)
    rw [List.append_assoc, ← List.append_assoc (Qu.enc _ _)] at next
    have en : (i : Int) + (Qu.unit s.data.toList i : Int) = ((i + Qu.unit s.data.toList i : Nat) : Int) := by omega
    have k34 := Qu.cp_small s.data.toList i 34 (by decide)
    have k92 := Qu.cp_small s.data.toList i 92 (by decide)
    simp only [Option.bind_some, cm_eql, cm_leq, cond_dec, ite_or, plain_p, ea, en, sin_in c, sa_bt]
    rw [← next]
    by_cases d1 : Qu.bt s.data.toList i = 34 ∨ Qu.bt s.data.toList i = 92
    · have d2 : Qu.cp s.data.toList i = Qu.bt s.data.toList i := by
        rcases d1 with d | d
        · rw [d]; exact k34.2 d
        · rw [d]; exact k92.2 d
      have d1' : (Qu.cp s.data.toList i : Int) = 34 ∨ (Qu.cp s.data.toList i : Int) = 92 := by omega
      have e : Qu.enc s.data.toList i = [92, UInt8.ofNat (Qu.bt s.data.toList i)] := by unfold Qu.enc; rw [if_pos d1]
      have w1 : cv .u32 (Qu.cp s.data.toList i : Int) = (Qu.bt s.data.toList i : Int) := by
        show IntKind.u32.wrap _ = _
        rw [IntKind.wrap_u32]; omega
      have w2 : cv .u8 (Qu.cp s.data.toList i : Int) = ((UInt8.ofNat (Qu.bt s.data.toList i)).toNat : Int) := by
        show IntKind.u8.wrap _ = _
        rw [IntKind.wrap_u8, UInt8.toNat_ofNat']; omega
      rw [if_pos d1', e, w1, w2]
      have a1 : app (cI .u8) (bis out) [92] = some (bis (out ++ [92])) := bis_app (m := [92]) (by simp; omega)
      have a2 : app (cI .u8) (bis (out ++ [92])) [((UInt8.ofNat (Qu.bt s.data.toList i)).toNat : Int)] = some (bis ((out ++ [92]) ++ [UInt8.ofNat (Qu.bt s.data.toList i)])) := bis_app (m := [UInt8.ofNat (Qu.bt s.data.toList i)]) (by simp; omega)
      rw [a1, Option.bind_some, a2, if_pos (by omega)]
      simp
    have d1' : ¬ ((Qu.cp s.data.toList i : Int) = 34 ∨ (Qu.cp s.data.toList i : Int) = 92) := by
      intro h
      rcases h with h | h
      · exact d1 (.inl (k34.1 (by omega)))
      · exact d1 (.inr (k92.1 (by omega)))
    rw [if_neg d1']
    cases g : Qu.safe s.data.toList i with
    | true =>
      have e : Qu.enc s.data.toList i = (s.data.toList.drop i).take (Qu.unit s.data.toList i) := by unfold Qu.enc; rw [if_neg d1, if_pos g]
      have eb : Sh.bytes (Mt.ofL ((s.data.toList.drop i).take (Qu.unit s.data.toList i))) = bis ((s.data.toList.drop i).take (Qu.unit s.data.toList i)) := by unfold Sh.bytes bis; rw [Mt.ofL_list]
      rw [e, ss_of hu, ssin_nat (by omega) hu, eb, bis_app (by rw [← e]; omega)]
      simp
    | false =>
      have e : Qu.enc s.data.toList i = [92, 120, Qu.hexd (Qu.bt s.data.toList i / 16), Qu.hexd (Qu.bt s.data.toList i % 16)] := by unfold Qu.enc; rw [if_neg d1, if_neg (by rw [g]; simp)]
      obtain ⟨q1, q2, q3, q4⟩ := qhex_p ⟨_, hb⟩
      unfold hexS at q1 q2 q3 q4
      dsimp only at q1 q2 q3 q4
      have a1 : app (cI .u8) (bis out) (Sh.bytes (ByteArray.mk #[92, 120])) = some (bis (out ++ [92, 120])) := bis_app (m := [92, 120]) (by simp; omega)
      have a2 : app (cI .u8) (bis (out ++ [92, 120])) [((Qu.hexd (Qu.bt s.data.toList i / 16)).toNat : Int)] = some (bis ((out ++ [92, 120]) ++ [Qu.hexd (Qu.bt s.data.toList i / 16)])) := bis_app (m := [_]) (by simp; omega)
      have a3 : app (cI .u8) (bis ((out ++ [92, 120]) ++ [Qu.hexd (Qu.bt s.data.toList i / 16)])) [((Qu.hexd (Qu.bt s.data.toList i % 16)).toNat : Int)] = some (bis (((out ++ [92, 120]) ++ [Qu.hexd (Qu.bt s.data.toList i / 16)]) ++ [Qu.hexd (Qu.bt s.data.toList i % 16)])) := bis_app (m := [_]) (by simp; omega)
      rw [q1, q2, q3, q4, a1, Option.bind_some, a2, Option.bind_some, a3, e]
      simp [ge0B]
theorem qtext_p (hs : s.size ≤ 10000) : quote_Text_g 200000 s = some (Mt.ofL (Qu.text s.data.toList)) := by
  unfold quote_Text_g
  have a1 : app (cI .u8) [] [34] = some (bis [34]) := bis_app (l := []) (m := [34]) (by simp)
  rw [a1]
  exact qtext_from hs 200000 0 [34] (by omega) (by omega) (by simp)
end
theorem rest_len (l : List UInt8) : ∀ (n i : Nat), l.length ≤ i + n → (Qu.rest l i).length ≤ 4 * n := by
  intro n
  induction n with
  | zero => intro i h; rw [Qu.rest_end (by omega)]; simp
  | succ n ih =>
    intro i h
    by_cases c : i < l.length
    · rw [Qu.rest_in c, List.length_append]
      have := Qu.unit_pos l i
      have := enc_len l i
      have := ih (i + Qu.unit l i) (by omega)
      omega
    · rw [Qu.rest_end (by omega)]; simp
theorem text_len (l : List UInt8) : (Qu.text l).length ≤ 4 * l.length + 2 := by
  rw [Qu.text_eq]
  have := rest_len l l.length 0 (by omega)
  simp; omega
theorem mtext_p (g : GMatcher) (hv : g.Value.size ≤ 1200) (hn : g.Name.size ≤ 100) : matcher_Text_g 200000 g = some (Mt.ofL (Mt.text (toM g))) ∧ r22_Text_g 200000 g = some (Mt.ofL (Mt.text (toM g))) ∧ (Mt.text (toM g)).length ≤ 6000 := by
  have hz := (sgn_size g.Op).2
  have h1 := text_len g.Value.data.toList
  rw [size_list] at h1
  have h2 := size_list g.Name
  have e1 : ct g.Name (Mt.ofL (Mt.sgn g.Op)) = Mt.ofL (g.Name.data.toList ++ Mt.sgn g.Op) := by
    have := ofL_ct g.Name.data.toList (Mt.sgn g.Op)
    rwa [Mt.ofL_self] at this
  have e2 : ctB g.Name (Mt.ofL (Mt.sgn g.Op)) = true := by
    have := ofL_ctB (a := g.Name.data.toList) (b := Mt.sgn g.Op) (by omega)
    rwa [Mt.ofL_self] at this
  have e3 : (Mt.text (toM g)) = g.Name.data.toList ++ Mt.sgn g.Op ++ Qu.text g.Value.data.toList := rfl
  refine ⟨?_, ?_, by rw [e3, List.length_append, List.length_append]; omega⟩
  · unfold matcher_Text_g
    rw [msign_p, Option.bind_some, e2, e1, _root_.cond_true, qtext_p (by omega), Option.bind_some, ofL_ctB (by rw [List.length_append]; omega), ofL_ct, e3]; rfl
  · unfold r22_Text_g
    rw [rsgn_p, Option.bind_some, e2, e1, _root_.cond_true, rtext_p (by omega), Option.bind_some, ofL_ctB (by rw [List.length_append]; omega), ofL_ct, e3]; rfl
end Pl
end Go.Proofs.YtampjnpnekekiaaDoor
namespace Go.Proofs.YtampjnpnekekiaaDoor
open Go
set_option linter.unusedVariables false
set_option linter.unusedSimpArgs false
set_option maxRecDepth 100000
open Sh Gn
namespace Pl
theorem setz_p (S : CSet) : conj [cm .eql (S.a.toNat : Int) 0, cm .eql (S.b.toNat : Int) 0, cm .eql (S.c.toNat : Int) 0, cm .eql (S.d.toNat : Int) 0] = decide (S = CSet.empty) := by
  have h : ∀ x : BitVec 64, ((x.toNat : Int) = 0) = (x = 0) := fun x => propext ⟨fun h => by
    apply BitVec.eq_of_toNat_eq
    have : x.toNat = 0 := by omega
    rw [this]; rfl, fun h => by rw [h]; rfl⟩
  rw [cm_eql, cm_eql, cm_eql, cm_eql]
  simp only [h]
  cases S
  rw [Bool.eq_iff_iff]
  simp [conj, CSet.empty]
theorem times_p (lo hi : Int) : regex_times_g lo hi = some (Rx.timesB lo hi) := by
  unfold regex_times_g Rx.timesB mx
  simp only [cm_lss, cm_gtr, cm_eql, cm_geq, cm_leq, cond_dec, ite_or, ite_and, Option.bind_some]
  by_cases c : lo < 0 ∨ 16 < lo
  · rw [if_pos c]
    have : lo < 0 ∨ lo > 16 := c
    congr 1
    rcases this with h | h <;> simp [h]
  · rw [if_neg c]
    have e : ∃ M : Int, (if (1 : Int) > lo then (1 : Int) else lo) = M ∧ (lo = 0 ∧ M = 1 ∨ lo ≠ 0 ∧ M = lo) := by
      refine ⟨_, rfl, ?_⟩
      split <;> omega
    obtain ⟨M, e, hM⟩ := e
    rw [e]
    congr 1
    have c1 : ¬ lo < 0 := fun h => c (.inl h)
    have c2 : ¬ lo > 16 := fun h => c (.inr h)
    simp only [c1, c2, decide_false, Bool.false_or]
    by_cases h : (hi > 16 ∨ hi < -1) ∨ hi = 0
    · have hd : (decide (hi > 16) || decide (hi < -1) || hi == 0) = true := by simpa using h
      rw [hd, if_pos rfl]
      exact decide_eq_false (by omega)
    · have hd : (decide (hi > 16) || decide (hi < -1) || hi == 0) = false := by
        rw [Bool.eq_false_iff]; intro h'; exact h (by simpa using h')
      rw [hd, if_neg (by simp), Bool.eq_iff_iff]
      simp only [Bool.or_eq_true, beq_iff_eq, decide_eq_true_eq]
      omega
theorem rtimes_p (lo hi : Int) : r13_times_g lo hi = some (Rx.timesB lo hi) := by
  unfold r13_times_g Rx.timesB
  simp only [cm_lss, cm_gtr, cm_eql, cm_geq, cm_leq, cond_dec, ite_or, ite_and, Option.bind_some]
  by_cases c : lo < 0 ∨ 16 < lo ∨ 16 < hi ∨ hi < -1 ∨ hi = 0
  · rw [if_pos c, if_pos (by simpa [or_assoc] using c)]
  · rw [if_neg c, if_neg (by simpa [or_assoc] using c)]
    congr 1
    rw [Bool.eq_iff_iff]
    simp
theorem at_get {α : Type} {l : List α} {k : Nat} (h : k < l.length) : at_ l (k : Int) = some l[k] := by
  unfold at_
  rw [if_pos (by omega), Int.toNat_natCast, List.getElem?_eq_getElem h]
theorem mkids_p (rec : Node → Option Bool) (n : Node) (hl : n.kids.length ≤ 100000) (hr : ∀ c ∈ n.kids, rec c = some (Rx.right c)) : ∀ (m k : Nat), k ≤ n.kids.length → n.kids.length < k + m → regex_Right_l1 rec n m k = some (Rx.topB n.kind n.set n.kids.length n.min n.max && Rx.rights n.kind (n.kids.drop k)) := by
  intro m
  induction m with
  | zero => intro k h1 h2; omega
  | succ m ih =>
    intro k h1 h2
    rw [regex_Right_l1]
    simp only [setz_p]
    simp only [cm_lss, cm_eql, cm_neq, cm_gtr, cond_not, cond_dec, ll_eq, setz_p, not_dec, times_p, ite_or, ite_and, ite_gen, Option.bind_some, bind_self]
    by_cases c : k < n.kids.length
    · rw [if_pos (by omega), at_get c, inc1 (by omega), Option.bind_some, hr _ (List.getElem_mem c), Option.bind_some, ih (k + 1) (by omega) (by omega)]
      rw [List.drop_eq_getElem_cons c, Rx.rights]
      generalize n.kids[k] = y
      cases Rx.right y with
      | false => simp
      | true =>
        have e1 : (y.kind == n.kind) = decide (y.kind = n.kind) := Bool.beq_eq_decide_eq _ _
        have e2 : (n.kind != 4) = !decide (n.kind = 4) := by rw [← Bool.beq_eq_decide_eq]; rfl
        rw [e1, e2]
        by_cases g : y.kind = n.kind <;> by_cases g4 : n.kind = 4 <;> simp [g, g4]
    · rw [if_neg (by omega), List.drop_of_length_le (by omega), Rx.rights, Bool.and_true]
      obtain ⟨kind, S, kids, mn, mx⟩ := n
      simp only [Node.kind, Node.set, Node.kids, Node.min, Node.max] at *
      unfold Rx.topB
      generalize kids.length = L
      have q0 : ((L : Int) = 0) = (L = 0) := propext (by omega)
      have q1 : ((L : Int) = 1) = (L = 1) := propext (by omega)
      have q2 : ((1 : Int) < L) = (1 < L) := propext (by omega)
      simp only [q0, q1, q2]
      generalize Rx.timesB mn mx = T
      by_cases k1 : kind = 1
      · subst k1
        by_cases a1 : mn = 0 <;> by_cases a2 : mx = 0 <;> by_cases a3 : L = 0 <;> simp [a1, a2, a3]
      by_cases k2 : kind = 2
      · subst k2
        by_cases a0 : S = CSet.empty <;> by_cases a1 : mn = 0 <;> by_cases a2 : mx = 0 <;> by_cases a3 : L = 1 <;> simp [a0, a1, a2, a3]
      by_cases k3 : kind = 3
      · subst k3
        by_cases a0 : S = CSet.empty <;> by_cases a1 : mn = 0 <;> by_cases a2 : mx = 0 <;> by_cases a3 : 1 < L <;> simp [a0, a1, a2, a3]
      by_cases k4 : kind = 4
      · subst k4
        by_cases a0 : S = CSet.empty <;> by_cases a3 : L = 1 <;> cases T <;> simp [a0, a3]
      by_cases a0 : S = CSet.empty <;> by_cases a1 : mn = 0 <;> by_cases a2 : mx = 0 <;> simp [k1, k2, k3, k4, a0, a1, a2]
theorem kid_size {n c : Node} (h : c ∈ n.kids) : c.size + 1 ≤ n.size := by
  rw [Node.size_eq n]
  have key : ∀ l : List Node, c ∈ l → c.size ≤ Node.sizes l := by
    intro l
    induction l with
    | nil => intro h; cases h
    | cons a r ih =>
      intro h
      rw [Node.sizes_cons]
      rcases List.mem_cons.1 h with rfl | h
      · omega
      · have := ih h; omega
  have := key _ h
  omega
theorem xright_p : ∀ (m : Nat) (n : Node), n.size ≤ m → m ≤ 1000 → ∀ N, m + 2000 ≤ N → regex_Right_g N n = some (Rx.right n) := by
  intro m
  induction m with
  | zero => intro n h; have := n.size_pos; omega
  | succ m ih =>
    intro n h hm N hN
    obtain ⟨N, rfl⟩ : ∃ M, N = M + 1 := ⟨N - 1, by omega⟩
    have hk := n.kids_le
    rw [regex_Right_g]
    have := mkids_p (regex_Right_g N) n (by omega) (fun c hc => ih c (by have := kid_size hc; omega) (by omega) N (by omega)) N 0 (by omega) (by omega)
    rw [Rx.right_eq]
    exact this
theorem rkids_p (rec : Node → Option Bool) (n : Node) (hl : n.kids.length ≤ 100000) (h14 : 1 ≤ n.kind ∧ n.kind ≤ 4) (hr : ∀ c ∈ n.kids, rec c = some (Rx.right c)) : ∀ (m k : Nat), k ≤ n.kids.length → n.kids.length < k + m → r13_Right_l1 rec n m k = some (Rx.rights n.kind (n.kids.drop k)) := by
  intro m
  induction m with
  | zero => intro k h1 h2; omega
  | succ m ih =>
    intro k h1 h2
    rw [r13_Right_l1]
    simp only [cm_lss, cm_eql, cm_neq, cm_gtr, cond_dec, ll_eq]
    by_cases c : k < n.kids.length
    · rw [if_pos (by omega), at_get c, inc1 (by omega), Option.bind_some, hr _ (List.getElem_mem c), Option.bind_some, ih (k + 1) (by omega) (by omega)]
      rw [List.drop_eq_getElem_cons c, Rx.rights]
      generalize n.kids[k] = y
      cases Rx.right y with
      | false => simp
      | true =>
        by_cases g : y.kind = n.kind <;> by_cases g4 : n.kind = 4
        · have : ¬ n.kind < 4 := by omega
          simp [g, g4]
        · have : n.kind < 4 := by omega
          simp [g, g4, this]
        · have g' : ¬ y.kind = 4 := by omega
          simp [g, g4, g']
        · simp [g, g4]
    · rw [if_neg (by omega), List.drop_of_length_le (by omega), Rx.rights]
theorem rright13_p : ∀ (m : Nat) (n : Node), n.size ≤ m → m ≤ 1000 → ∀ N, m + 2000 ≤ N → r13_Right_g N n = some (Rx.right n) := by
  intro m
  induction m with
  | zero => intro n h; have := n.size_pos; omega
  | succ m ih =>
    intro n h hm N hN
    obtain ⟨N, rfl⟩ : ∃ M, N = M + 1 := ⟨N - 1, by omega⟩
    have hk := n.kids_le
    rw [r13_Right_g, Rx.right_eq]
    simp only [setz_p]
    simp only [cm_lss, cm_eql, cm_neq, cm_gtr, cond_not, cond_dec, ll_eq, setz_p, not_dec, rtimes_p, ite_or, ite_and, Option.bind_some, bind_self]
    by_cases h14 : 1 ≤ n.kind ∧ n.kind ≤ 4
    case neg =>
      rw [if_pos (by omega)]
      unfold Rx.topB
      have a1 : ¬ n.kind = 1 := by omega
      have a2 : ¬ n.kind = 2 := by omega
      have a3 : ¬ n.kind = 3 := by omega
      have a4 : ¬ n.kind = 4 := by omega
      simp [a1, a2, a3, a4]
    rw [if_neg (by omega)]
    have key := rkids_p (r13_Right_g N) n (by omega) h14 (fun c hc => ih c (by have := kid_size hc; omega) (by omega) N (by omega)) N 0 (by omega) (by omega)
    rw [List.drop_zero] at key
    rw [show ((0 : Nat) : Int) = 0 from rfl] at key
    rw [key]
    generalize Rx.rights n.kind n.kids = U
    obtain ⟨kind, S, kids, mn, mx⟩ := n
    simp only [Node.kind, Node.set, Node.kids, Node.min, Node.max] at *
    unfold Rx.topB
    generalize kids.length = L
    have q0 : ((L : Int) = 0) = (L = 0) := propext (by omega)
    have q1 : ((L : Int) = 1) = (L = 1) := propext (by omega)
    have q3 : ((L : Int) < 2) = ¬ (1 < L) := propext (by omega)
    simp only [q0, q1, q3]
    generalize Rx.timesB mn mx = T
    have h4 : kind = 1 ∨ kind = 2 ∨ kind = 3 ∨ kind = 4 := by omega
    rcases h4 with rfl | rfl | rfl | rfl
    · by_cases a1 : mn = 0 <;> by_cases a2 : mx = 0 <;> by_cases a3 : L = 0 <;> simp [a1, a2, a3]
    · by_cases a0 : S = CSet.empty <;> by_cases a1 : mn = 0 <;> by_cases a2 : mx = 0 <;> by_cases a3 : L = 1 <;> simp [a0, a1, a2, a3]
    · by_cases a0 : S = CSet.empty <;> by_cases a1 : mn = 0 <;> by_cases a2 : mx = 0 <;> by_cases a3 : 1 < L <;> simp [a0, a1, a2, a3]
    · by_cases a0 : S = CSet.empty <;> by_cases a3 : L = 1 <;> cases T <;> simp [a0, a3]
end Pl
end Go.Proofs.YtampjnpnekekiaaDoor
