/- Texts that the proof leans on. -/
import Derived.Test.YtagppjldegblhaaGreatDoorK229
set_option linter.unusedVariables false
set_option linter.unusedSimpArgs false
set_option maxRecDepth 100000
set_option maxHeartbeats 4000000
namespace Go.Proofs.YtagppjldegblhaaGreatDoor
open Go
open Sh Gn
namespace Pl
theorem ofL_ct (a b : List UInt8) : ct (Mt.ofL a) (Mt.ofL b) = Mt.ofL (a ++ b) := by
 apply ByteArray.ext
 show (Mt.ofL a ++ Mt.ofL b).data = _
 rw [ByteArray.data_append]
 simp [Mt.ofL]
theorem ofL_size (a : List UInt8) : (Mt.ofL a).size = a.length := by rw [← size_list, Mt.ofL_list]
theorem ofL_ctB {a b : List UInt8} (h : a.length + b.length ≤ 1000000000) : ctB (Mt.ofL a) (Mt.ofL b) = true := by
 unfold ctB; rw [ofL_size, ofL_size]; exact decide_eq_true h
theorem rhex_p : ∀ c : Fin 256, r02_Hex_g 200000 ⟨#[UInt8.ofNat c.val]⟩ = some ⟨#[Qu.hexd (c.val / 16), Qu.hexd (c.val % 16)]⟩ := by decide +kernel
def hexS : ByteArray := ByteArray.mk #[48, 49, 50, 51, 52, 53, 54, 55, 56, 57, 97, 98, 99, 100, 101, 102]
theorem qhex_p : ∀ c : Fin 256, sinB hexS (ar .shr .u8 (c.val : Int) 4) = true ∧ sa hexS (ar .shr .u8 (c.val : Int) 4) = ((Qu.hexd (c.val / 16)).toNat : Int) ∧ sinB hexS (ar .and .u8 (c.val : Int) 15) = true ∧ sa hexS (ar .and .u8 (c.val : Int) 15) = ((Qu.hexd (c.val % 16)).toNat : Int) := by decide +kernel
def bis (l : List UInt8) : List Int := l.map fun b => (b.toNat : Int)
theorem bis_app {l m : List UInt8} (h : l.length + m.length ≤ 1000000000) : app (cI .u8) (bis l) (bis m) = some (bis (l ++ m)) := by
 unfold app bis
 rw [List.length_map, List.length_map, if_pos h, List.map_append]
section
variable {s : ByteArray} {i : Nat}
theorem qunit_p (hi : i < s.size) : quote_Unit_g s i = some (Qu.unit s.data.toList i : Int) := by
 unfold quote_Unit_g
 rw [dec_cp hi, ssin_end (by omega)]
 simp only [cm_lss, cm_geq, cond_dec, sl_eq, ite_or, Option.bind_some, _root_.cond_true]
 rw [if_neg (by omega)]
theorem runit_p {N : Nat} (hN : 20 ≤ N) (hs : s.size ≤ 100000) (hi : i < s.size) : r10_Unit_g N s i = some (Qu.unit s.data.toList i : Int) := by
 unfold r10_Unit_g
 rw [rrune_p hN hs hi]
 simp only [cm_lss, cm_geq, cm_eql, cond_dec, sl_eq, ite_or, Option.bind_some]
 rw [if_neg (by omega)]
 unfold Qu.unit
 by_cases c : Qu.rune s.data.toList i = 0
 · rw [if_pos (by omega), if_pos c]; rfl
 · rw [if_neg (by omega), if_neg c]
theorem decode_p (hi : i < s.size) : Utf8.decode s i = (Qu.cp s.data.toList i, Qu.unit s.data.toList i) := by
 rw [Lib.decode_at, get_bt, get_bt, get_bt, get_bt, ← Qu.cp_unit, size_list]
theorem ss_of (h : i + (Qu.unit s.data.toList i) ≤ s.size) : ss s (i : Int) ((i + Qu.unit s.data.toList i : Nat) : Int) = Mt.ofL ((s.data.toList.drop i).take (Qu.unit s.data.toList i)) := by
 apply ByteArray.ext
 apply Array.ext'
 rw [ss_list (by omega) (by omega), Nat.add_sub_cancel_left, Mt.ofL_list]
theorem ss_one (h : i < s.size) : ss s (i : Int) ((i + 1 : Nat) : Int) = Mt.ofL [UInt8.ofNat (Qu.bt s.data.toList i)] := by
 apply ByteArray.ext
 apply Array.ext'
 rw [ss_list (by omega) (by omega), Nat.add_sub_cancel_left, Mt.ofL_list, Qu.take_byte (by rw [size_list]; exact h)]
theorem enc_len (l : List UInt8) (i : Nat) : (Qu.enc l i).length ≤ 4 := by
 have h : Qu.unit l i ≤ 4 := by
  unfold Qu.unit Qu.rune Qu.runeN
  (repeat' split) <;> omega
 unfold Qu.enc
 (repeat' split)
 · simp
 · rw [List.length_take]; omega
 · simp
theorem rtext_from (hs : s.size ≤ 10000) : ∀ (m i : Nat) (out : List UInt8), i ≤ s.size → s.size < i + m → out.length ≤ 4 * i + 1 → r10_Text_l1 200000 s m (Mt.ofL out) i = some (Mt.ofL (out ++ (Qu.rest s.data.toList i ++ [34]))) := by
 intro m
 induction m with
 | zero => intro i out h1 h2; omega
 | succ m ih =>
   intro i out h1 h2 h3
   unfold r10_Text_l1
   simp only [cm_lss, cond_dec, sl_eq]
   by_cases c : i < s.size
   case neg =>
    rw [if_neg (by omega), Qu.rest_end (by rw [size_list]; omega), List.nil_append]
    show cond (ctB (Mt.ofL out) (Mt.ofL [34])) (some (ct (Mt.ofL out) (Mt.ofL [34]))) none = _
    rw [ofL_ctB (by simp; omega), ofL_ct]; rfl
   rw [if_pos (by omega), Qu.rest_in (by rw [size_list]; exact c), runit_p (by omega) (by omega) c]
   have hb := Qu.bt_lt s.data.toList i
   have hu := Qu.unit_le (l := s.data.toList) (i := i) (by rw [size_list]; exact c)
   have hu1 := Qu.unit_pos s.data.toList i
   have he := enc_len s.data.toList i
   rw [size_list] at hu
   have ea : ar .add .i64 (i : Int) (Qu.unit s.data.toList i : Int) = ((i + Qu.unit s.data.toList i : Nat) : Int) := by rw [ar_add (by omega) (by omega)]; omega
   have next := ih (i + Qu.unit s.data.toList i) (out ++ Qu.enc s.data.toList i) hu (by omega) (by rw [List.length_append]; omega)
   rw [List.append_assoc, ← List.append_assoc (Qu.enc _ _)] at next
   have e1 := inc1 (show i ≤ 100000000 by omega)
   have hsi := rsafe_p (s := s) (i := i) (N := 200000) (by omega) (by omega) c
   simp only [sin_in c, _root_.cond_true, sa_bt, Option.bind_some, cm_eql, cond_dec, ite_or, hsi, e1, ea]
   rw [← next]
   by_cases d1 : Qu.bt s.data.toList i = 34 ∨ Qu.bt s.data.toList i = 92
   · have d1' : (Qu.bt s.data.toList i : Int) = 34 ∨ (Qu.bt s.data.toList i : Int) = 92 := by omega
     have e : Qu.enc s.data.toList i = [92, UInt8.ofNat (Qu.bt s.data.toList i)] := by unfold Qu.enc; rw [if_pos d1]
     rw [if_pos d1', e, ss_one c, show (ByteArray.mk #[92]) = Mt.ofL [92] from rfl, ofL_ctB (by simp; omega), ssin_nat (by omega) (by omega), ofL_ct, ofL_ctB (by simp; omega), ofL_ct]
     simp
   have d1' : ¬ ((Qu.bt s.data.toList i : Int) = 34 ∨ (Qu.bt s.data.toList i : Int) = 92) := by omega
   rw [if_neg d1']
   cases g : Qu.safe s.data.toList i with
   | true =>
     have e : Qu.enc s.data.toList i = (s.data.toList.drop i).take (Qu.unit s.data.toList i) := by unfold Qu.enc; rw [if_neg d1, if_pos g]
     simp only [_root_.cond_true]
     rw [e, ss_of hu, ssin_nat (by omega) hu, ofL_ctB (by rw [← e]; omega), ofL_ct]
     simp
   | false =>
     have e : Qu.enc s.data.toList i = [92, 120, Qu.hexd (Qu.bt s.data.toList i / 16), Qu.hexd (Qu.bt s.data.toList i % 16)] := by unfold Qu.enc; rw [if_neg d1, if_neg (by rw [g]; simp)]
     have hh : r02_Hex_g 200000 (Mt.ofL [UInt8.ofNat (Qu.bt s.data.toList i)]) = some (Mt.ofL [Qu.hexd (Qu.bt s.data.toList i / 16), Qu.hexd (Qu.bt s.data.toList i % 16)]) := rhex_p ⟨_, hb⟩
     simp only [_root_.cond_false]
     rw [e, ss_one c, show (ByteArray.mk #[92, 120]) = Mt.ofL [92, 120] from rfl, ofL_ctB (by simp; omega), ssin_nat (j := i + 1) (by omega) (by omega), hh, ofL_ct]
     simp only [Option.bind_some, _root_.cond_false, _root_.cond_true]
     rw [ofL_ctB (by simp; omega), ofL_ct]
     simp
theorem rtext_p (hs : s.size ≤ 10000) : r10_Text_g 200000 s = some (Mt.ofL (Qu.text s.data.toList)) := rtext_from hs 200000 0 [34] (by omega) (by omega) (by simp)
theorem qtext_from (hs : s.size ≤ 10000) : ∀ (m i : Nat) (out : List UInt8), i ≤ s.size → s.size < i + m → out.length ≤ 4 * i + 1 → quote_Text_l2 s m (bis out) i = some (Mt.ofL (out ++ (Qu.rest s.data.toList i ++ [34]))) := by
 intro m
 induction m with
 | zero => intro i out h1 h2; omega
 | succ m ih =>
   intro i out h1 h2 h3
   unfold quote_Text_l2 nx
   rw [Int.toNat_natCast]
   by_cases c : i < s.size
   case neg =>
    rw [if_neg c, Qu.rest_end (by rw [size_list]; omega), List.nil_append]
    show ((app (cI .u8) (bis out) (bis [34])).bind fun l => (strB l).bind fun s => some s) = _
    rw [bis_app (by simp; omega), Option.bind_some]
    show ((strB (bis (out ++ [34]))).bind fun s => some s) = _
    rw [show strB (bis (out ++ [34])) = _ from str_map _]; rfl
   rw [if_pos c, decode_p c, Qu.rest_in (by rw [size_list]; exact c), qunit_p c]
   have hb := Qu.bt_lt s.data.toList i
   have hu := Qu.unit_le (l := s.data.toList) (i := i) (by rw [size_list]; exact c)
   have hu1 := Qu.unit_pos s.data.toList i
   have he := enc_len s.data.toList i
   rw [size_list] at hu
   have ea : ar .add .i64 (i : Int) (Qu.unit s.data.toList i : Int) = ((i + Qu.unit s.data.toList i : Nat) : Int) := by rw [ar_add (by omega) (by omega)]; omega
   have next := ih (i + Qu.unit s.data.toList i) (out ++ Qu.enc s.data.toList i) hu (by omega) (by rw [List.length_append]; omega)
   rw [List.append_assoc, ← List.append_assoc (Qu.enc _ _)] at next
   have en : (i : Int) + (Qu.unit s.data.toList i : Int) = ((i + Qu.unit s.data.toList i : Nat) : Int) := by omega
   have k34 := Qu.cp_small s.data.toList i 34 (by decide)
   have k92 := Qu.cp_small s.data.toList i 92 (by decide)
   simp only [Option.bind_some, cm_eql, cm_leq, cond_dec, ite_or, plain_p, ea, en, sin_in c, sa_bt]
   rw [← next]
   by_cases d1 : Qu.bt s.data.toList i = 34 ∨ Qu.bt s.data.toList i = 92
   · have d2 : Qu.cp s.data.toList i = Qu.bt s.data.toList i := by
      rcases d1 with d | d
      · rw [d]; exact k34.2 d
      · rw [d]; exact k92.2 d
     have d1' : (Qu.cp s.data.toList i : Int) = 34 ∨ (Qu.cp s.data.toList i : Int) = 92 := by omega
     have e : Qu.enc s.data.toList i = [92, UInt8.ofNat (Qu.bt s.data.toList i)] := by unfold Qu.enc; rw [if_pos d1]
     have w1 : cv .u32 (Qu.cp s.data.toList i : Int) = (Qu.bt s.data.toList i : Int) := by
      show IntKind.u32.wrap _ = _
      rw [IntKind.wrap_u32]; omega
     have w2 : cv .u8 (Qu.cp s.data.toList i : Int) = ((UInt8.ofNat (Qu.bt s.data.toList i)).toNat : Int) := by
      show IntKind.u8.wrap _ = _
      rw [IntKind.wrap_u8, UInt8.toNat_ofNat']; omega
     rw [if_pos d1', e, w1, w2]
     have a1 : app (cI .u8) (bis out) [92] = some (bis (out ++ [92])) := bis_app (m := [92]) (by simp; omega)
     have a2 : app (cI .u8) (bis (out ++ [92])) [((UInt8.ofNat (Qu.bt s.data.toList i)).toNat : Int)] = some (bis ((out ++ [92]) ++ [UInt8.ofNat (Qu.bt s.data.toList i)])) := bis_app (m := [UInt8.ofNat (Qu.bt s.data.toList i)]) (by simp; omega)
     rw [a1, Option.bind_some, a2, if_pos (by omega)]
     simp
   have d1' : ¬ ((Qu.cp s.data.toList i : Int) = 34 ∨ (Qu.cp s.data.toList i : Int) = 92) := by
    intro h
    rcases h with h | h
    · exact d1 (.inl (k34.1 (by omega)))
    · exact d1 (.inr (k92.1 (by omega)))
   rw [if_neg d1']
   cases g : Qu.safe s.data.toList i with
   | true =>
     have e : Qu.enc s.data.toList i = (s.data.toList.drop i).take (Qu.unit s.data.toList i) := by unfold Qu.enc; rw [if_neg d1, if_pos g]
     have eb : Sh.bytes (Mt.ofL ((s.data.toList.drop i).take (Qu.unit s.data.toList i))) = bis ((s.data.toList.drop i).take (Qu.unit s.data.toList i)) := by unfold Sh.bytes bis; rw [Mt.ofL_list]
     rw [e, ss_of hu, ssin_nat (by omega) hu, eb, bis_app (by rw [← e]; omega)]
     simp
   | false =>
     have e : Qu.enc s.data.toList i = [92, 120, Qu.hexd (Qu.bt s.data.toList i / 16), Qu.hexd (Qu.bt s.data.toList i % 16)] := by unfold Qu.enc; rw [if_neg d1, if_neg (by rw [g]; simp)]
     obtain ⟨q1, q2, q3, q4⟩ := qhex_p ⟨_, hb⟩
     unfold hexS at q1 q2 q3 q4
     dsimp only at q1 q2 q3 q4
     have a1 : app (cI .u8) (bis out) (Sh.bytes (ByteArray.mk #[92, 120])) = some (bis (out ++ [92, 120])) := bis_app (m := [92, 120]) (by simp; omega)
     have a2 : app (cI .u8) (bis (out ++ [92, 120])) [((Qu.hexd (Qu.bt s.data.toList i / 16)).toNat : Int)] = some (bis ((out ++ [92, 120]) ++ [Qu.hexd (Qu.bt s.data.toList i / 16)])) := bis_app (m := [_]) (by simp; omega)
     have a3 : app (cI .u8) (bis ((out ++ [92, 120]) ++ [Qu.hexd (Qu.bt s.data.toList i / 16)])) [((Qu.hexd (Qu.bt s.data.toList i % 16)).toNat : Int)] = some (bis (((out ++ [92, 120]) ++ [Qu.hexd (Qu.bt s.data.toList i / 16)]) ++ [Qu.hexd (Qu.bt s.data.toList i % 16)])) := bis_app (m := [_]) (by simp; omega)
     rw [q1, q2, q3, q4, a1, Option.bind_some, a2, Option.bind_some, a3, e]
     simp [ge0B]
theorem qtext_p (hs : s.size ≤ 10000) : quote_Text_g 200000 s = some (Mt.ofL (Qu.text s.data.toList)) := by
 unfold quote_Text_g
 have a1 : app (cI .u8) [] [34] = some (bis [34]) := bis_app (l := []) (m := [34]) (by simp)
 rw [a1]
 exact qtext_from hs 200000 0 [34] (by omega) (by omega) (by simp)
end
theorem rest_len (l : List UInt8) : ∀ (n i : Nat), l.length ≤ i + n → (Qu.rest l i).length ≤ 4 * n := by
 intro n
 induction n with
 | zero => intro i h; rw [Qu.rest_end (by omega)]; simp
 | succ n ih =>
   intro i h
   by_cases c : i < l.length
   · rw [Qu.rest_in c, List.length_append]
     have := Qu.unit_pos l i
     have := enc_len l i
     have := ih (i + Qu.unit l i) (by omega)
     omega
   · rw [Qu.rest_end (by omega)]; simp
theorem text_len (l : List UInt8) : (Qu.text l).length ≤ 4 * l.length + 2 := by
 rw [Qu.text_eq]
 have := rest_len l l.length 0 (by omega)
 simp; omega
theorem mtext_p (g : GMatcher) (hv : g.Value.size ≤ 1200) (hn : g.Name.size ≤ 100) : matcher_Text_g 200000 g = some (Mt.ofL (Mt.text (toM g))) ∧ r22_Text_g 200000 g = some (Mt.ofL (Mt.text (toM g))) ∧ (Mt.text (toM g)).length ≤ 6000 := by
 have hz := (sgn_size g.Op).2
 have h1 := text_len g.Value.data.toList
 rw [size_list] at h1
 have h2 := size_list g.Name
 have e1 : ct g.Name (Mt.ofL (Mt.sgn g.Op)) = Mt.ofL (g.Name.data.toList ++ Mt.sgn g.Op) := by
  have := ofL_ct g.Name.data.toList (Mt.sgn g.Op)
  rwa [Mt.ofL_self] at this
 have e2 : ctB g.Name (Mt.ofL (Mt.sgn g.Op)) = true := by
  have := ofL_ctB (a := g.Name.data.toList) (b := Mt.sgn g.Op) (by omega)
  rwa [Mt.ofL_self] at this
 have e3 : (Mt.text (toM g)) = g.Name.data.toList ++ Mt.sgn g.Op ++ Qu.text g.Value.data.toList := rfl
 refine ⟨?_, ?_, by rw [e3, List.length_append, List.length_append]; omega⟩
 · unfold matcher_Text_g
   rw [msign_p, Option.bind_some, e2, e1, _root_.cond_true, qtext_p (by omega), Option.bind_some, ofL_ctB (by rw [List.length_append]; omega), ofL_ct, e3]; rfl
 · unfold r22_Text_g
   rw [rsgn_p, Option.bind_some, e2, e1, _root_.cond_true, rtext_p (by omega), Option.bind_some, ofL_ctB (by rw [List.length_append]; omega), ofL_ct, e3]; rfl
end Pl
end Go.Proofs.YtagppjldegblhaaGreatDoor
namespace Go.Proofs.YtagppjldegblhaaGreatDoor
open Go
open Sh Gn
namespace Pl
theorem samesel_from (l : List GMatcher) (hl : l.length ≤ 100000) : ∀ (m k : Nat), k ≤ l.length → l.length < k + m → porterbase_SameSel_l1 l l m k = some true := by
 intro m
 induction m with
 | zero => intro k h1 h2; omega
 | succ m ih =>
   intro k h1 h2
   rw [porterbase_SameSel_l1, cm_lss, cond_dec, ll_eq]
   by_cases c : k < l.length
   · rw [if_pos (by omega), at_get c, inc1 (by omega)]
     simp only [Option.bind_some, conj3, seql_self, eql_self, Bool.and_self, Bool.not_true, _root_.cond_false]
     exact ih (k + 1) (by omega) (by omega)
   · rw [if_neg (by omega)]
theorem bis_bytes (l : List UInt8) : Sh.bytes (Mt.ofL l) = bis l := by unfold Sh.bytes bis; rw [Mt.ofL_list]
theorem stext_from {N : Nat} (l : List GMatcher) (hl : l.length ≤ 70) (hT : ∀ x ∈ l, matcher_Text_g N x = some (Mt.ofL (Mt.text (toM x))) ∧ (Mt.text (toM x)).length ≤ 6000) : ∀ (m k : Nat) (out : List UInt8), 1 ≤ k → k ≤ l.length → l.length < k + m → out.length ≤ k * 7000 →
 selector_Text_l1 N l m k (bis out) = some (Mt.ofL (123 :: (out ++ Sl.tl (toMs (l.drop k)) ++ [125]))) := by
 intro m
 induction m with
 | zero => intro k out h0 h1 h2; omega
 | succ m ih =>
   intro k out h0 h1 h2 h3
   rw [selector_Text_l1]
   simp only [cm_lss, cm_gtr, cond_dec, ll_eq]
   by_cases c : k < l.length
   · obtain ⟨t1, t2⟩ := hT _ (List.getElem_mem c)
     have a1 : app (cI .u8) (bis out) (Sh.bytes (ByteArray.mk #[44, 32])) = some (bis (out ++ [44, 32])) := bis_app (m := [44, 32]) (by simp; omega)
     have a2 : app (cI .u8) (bis (out ++ [44, 32])) (bis (Mt.text (toM l[k]))) = some (bis ((out ++ [44, 32]) ++ Mt.text (toM l[k]))) := bis_app (by simp; omega)
     have hk : (0 : Int) < (k : Int) := by omega
     rw [if_pos (by omega), at_get c, inc1 (by omega)]
     simp only [Option.bind_some, hk, if_true, a1, t1, bis_bytes, a2]
     rw [ih (k + 1) _ (by omega) (by omega) (by omega) (by simp; omega), List.drop_eq_getElem_cons c]
     unfold toMs
     rw [List.map_cons, Sl.tl]
     simp
   · rw [if_neg (by omega), List.drop_of_length_le (by omega)]
     rw [show strB (bis out) = _ from str_map _, Option.bind_some]
     show cond (ctB (Mt.ofL [123]) (Mt.ofL out)) (cond (ctB (ct (Mt.ofL [123]) (Mt.ofL out)) (Mt.ofL [125])) (some (ct (ct (Mt.ofL [123]) (Mt.ofL out)) (Mt.ofL [125]))) none) none = _
     rw [ofL_ctB (by simp; omega), ofL_ct, ofL_ctB (by simp; omega), ofL_ct]
     simp [toMs, Sl.tl]
theorem stext_p {N : Nat} (hN : 100 ≤ N) (l : List GMatcher) (hl : l.length ≤ 70) (hT : ∀ x ∈ l, matcher_Text_g N x = some (Mt.ofL (Mt.text (toM x))) ∧ (Mt.text (toM x)).length ≤ 6000) : selector_Text_g N l = some (Mt.ofL (Sl.text (toMs l))) := by
 unfold selector_Text_g
 simp only [cm_lss, cm_gtr, cond_dec, ll_eq]
 cases l with
 | nil =>
   rw [if_neg (by simp)]
   show cond (ctB (Mt.ofL [123]) (Mt.ofL [])) (cond (ctB (ct (Mt.ofL [123]) (Mt.ofL [])) (Mt.ofL [125])) (some (ct (ct (Mt.ofL [123]) (Mt.ofL [])) (Mt.ofL [125]))) none) none = _
   rw [ofL_ctB (by simp), ofL_ct, ofL_ctB (by simp), ofL_ct]; rfl
 | cons x r =>
   obtain ⟨t1, t2⟩ := hT x (by simp)
   have a1 : app (cI .u8) [] (bis (Mt.text (toM x))) = some (bis (Mt.text (toM x))) := bis_app (l := []) (by simp; omega)
   have h0 : at_ (x :: r) (0 : Int) = some x := rfl
   have i1 : ar .add .i64 (0 : Int) 1 = ((1 : Nat) : Int) := inc1 (i := 0) (by omega)
   rw [if_pos (by simp), h0, i1]
   simp only [Option.bind_some, show ¬ ((0 : Int) < 0) by decide, if_false, t1, bis_bytes, a1]
   rw [stext_from (x :: r) hl hT N 1 _ (by omega) (by simp) (by simp at hl ⊢; omega) (by omega)]
   show _ = some (Mt.ofL (Sl.text (toM x :: toMs r)))
   rw [Sl.text, Sl.body]; rfl
theorem rstext_from {N : Nat} (l : List GMatcher) (hl : l.length ≤ 70) (hT : ∀ x ∈ l, r22_Text_g N x = some (Mt.ofL (Mt.text (toM x))) ∧ (Mt.text (toM x)).length ≤ 6000) : ∀ (m k : Nat) (out : List UInt8), 1 ≤ k → k ≤ l.length → l.length < k + m → out.length ≤ k * 7000 →
 r23_Text_l1 N l m (Mt.ofL out) k = some (Mt.ofL (out ++ Sl.tl (toMs (l.drop k)) ++ [125])) := by
 intro m
 induction m with
 | zero => intro k out h0 h1 h2; omega
 | succ m ih =>
   intro k out h0 h1 h2 h3
   rw [r23_Text_l1]
   simp only [cm_lss, cm_gtr, cond_dec, ll_eq]
   by_cases c : k < l.length
   · obtain ⟨t1, t2⟩ := hT _ (List.getElem_mem c)
     have hk : (0 : Int) < (k : Int) := by omega
     rw [if_pos (by omega), at_get c, inc1 (by omega), show (ByteArray.mk #[44, 32]) = Mt.ofL [44, 32] from rfl, ofL_ctB (by simp; omega), ofL_ct]
     simp only [Option.bind_some, hk, if_true, _root_.cond_true, t1]
     rw [ofL_ctB (by simp; omega), ofL_ct, _root_.cond_true, ih (k + 1) _ (by omega) (by omega) (by omega) (by simp; omega), List.drop_eq_getElem_cons c]
     unfold toMs
     rw [List.map_cons, Sl.tl]
     simp
   · rw [if_neg (by omega), List.drop_of_length_le (by omega), show (ByteArray.mk #[125]) = Mt.ofL [125] from rfl, ofL_ctB (by simp; omega), ofL_ct]
     simp [toMs, Sl.tl]
theorem rstext_p {N : Nat} (hN : 100 ≤ N) (l : List GMatcher) (hl : l.length ≤ 70) (hT : ∀ x ∈ l, r22_Text_g N x = some (Mt.ofL (Mt.text (toM x))) ∧ (Mt.text (toM x)).length ≤ 6000) : r23_Text_g N l = some (Mt.ofL (Sl.text (toMs l))) := by
 unfold r23_Text_g
 obtain ⟨N', rfl⟩ : ∃ k, N = k + 1 := ⟨N - 1, by omega⟩
 rw [show (ByteArray.mk #[123]) = Mt.ofL [123] from rfl, r23_Text_l1]
 simp only [cm_lss, cm_gtr, cond_dec, ll_eq]
 cases l with
 | nil =>
   rw [if_neg (by simp), show (ByteArray.mk #[125]) = Mt.ofL [125] from rfl, ofL_ctB (by simp), ofL_ct]; rfl
 | cons x r =>
   obtain ⟨t1, t2⟩ := hT x (by simp)
   have h0 : at_ (x :: r) (0 : Int) = some x := rfl
   have i1 : ar .add .i64 (0 : Int) 1 = ((1 : Nat) : Int) := inc1 (i := 0) (by omega)
   rw [if_pos (by simp), h0, i1]
   simp only [Option.bind_some, show ¬ ((0 : Int) < 0) by decide, if_false, t1]
   rw [ofL_ctB (by simp; omega), ofL_ct, _root_.cond_true, rstext_from (x :: r) hl hT N' 1 _ (by omega) (by simp) (by simp at hl ⊢; omega) (by simp; omega)]
   show _ = some (Mt.ofL (Sl.text (toM x :: toMs r)))
   rw [Sl.text, Sl.body]
   simp [toMs]
end Pl
end Go.Proofs.YtagppjldegblhaaGreatDoor
namespace Go.Proofs.YtagppjldegblhaaGreatDoor
open Go Go.RowKit
open Ab Sh
namespace Gn
structure GCaveat where
 Kind : Int
 Num : Int
 Words : List ByteArray
 Sel : List GMatcher
structure GFacts where
 Tenant : ByteArray
 Endpoint : ByteArray
 Class : ByteArray
 Do : Int
 Now : Int
end Gn
end Go.Proofs.YtagppjldegblhaaGreatDoor
namespace Go.Proofs.YtagppjldegblhaaGreatDoor
open Go
open Sh Gn Pl
namespace Cv
def first (k : Int) : List UInt8 := (T_kinds.getD k.toNat ByteArray.empty).data.toList
def doW (w : ByteArray) : Int := if w = ByteArray.mk #[113, 117, 101, 114, 121] then 1 else if w = ByteArray.mk #[119, 114, 105, 116, 101] then 2 else 0
def once (l : List ByteArray) (k : Nat) : Bool := decide (1 ≤ l.length) && (decide (l.length ≤ k) && (decide l.Nodup && l.all fun w => Nm.wordB w.data.toList))
def right (c : GCaveat) : Bool :=
 if c.Kind = 1 then decide (c.Sel.length = 0 ∧ c.Num = 0) && once c.Words 1
 else if c.Kind = 2 ∨ c.Kind = 3 then decide (c.Sel.length = 0 ∧ c.Num = 0) && once c.Words 16
 else if c.Kind = 4 then decide (c.Sel.length = 0 ∧ c.Num = 0) && (once c.Words 2 && c.Words.all fun w => !decide (doW w = 0))
 else if c.Kind = 5 ∨ c.Kind = 6 then decide (c.Sel.length = 0 ∧ c.Words.length = 0 ∧ 0 ≤ c.Num ∧ c.Num ≤ 1099511627776)
 else if c.Kind = 7 then decide (c.Words.length = 0 ∧ c.Num = 0 ∧ (Sl.right (toMs c.Sel)).1 = 0 ∧ (Sl.text (toMs c.Sel)).length ≤ 2042)
 else false
def words (l : List ByteArray) : List (List UInt8) := l.map fun s => s.data.toList
def body (c : GCaveat) : List UInt8 := if c.Kind = 5 ∨ c.Kind = 6 then Lib.itoa c.Num else if c.Kind = 7 then Sl.text (toMs c.Sel) else Lib.join (words c.Words) [32]
def text (c : GCaveat) : List UInt8 := if right c = true then first c.Kind ++ 32 :: body c else []
def split (l : List UInt8) : List ByteArray := (Nm.splitL l).map Mt.ofL
theorem once_words {l : List ByteArray} {k : Nat} (h : once l k = true) : l ≠ [] ∧ l.length ≤ k ∧ l.Nodup ∧ ∀ w ∈ l, Nm.wordB w.data.toList = true := by
 unfold once at h
 simp only [Bool.and_eq_true, decide_eq_true_eq, List.all_eq_true] at h
 obtain ⟨h1, h2, h3, h4⟩ := h
 exact ⟨fun e => by rw [e] at h1; simp at h1, h2, h3, h4⟩
theorem right_cases {c : GCaveat} (h : right c = true) :
 ((c.Kind = 1 ∨ c.Kind = 2 ∨ c.Kind = 3 ∨ c.Kind = 4) ∧ c.Sel = [] ∧ c.Num = 0 ∧ c.Words ≠ [] ∧ c.Words.length ≤ 16 ∧ c.Words.Nodup ∧ (∀ w ∈ c.Words, Nm.wordB w.data.toList = true))
 ∨ ((c.Kind = 5 ∨ c.Kind = 6) ∧ c.Sel = [] ∧ c.Words = [] ∧ 0 ≤ c.Num ∧ c.Num ≤ 1099511627776)
 ∨ (c.Kind = 7 ∧ c.Words = [] ∧ c.Num = 0 ∧ (Sl.right (toMs c.Sel)).1 = 0 ∧ (Sl.text (toMs c.Sel)).length ≤ 2042) := by
 unfold right at h
 split at h
 · simp only [Bool.and_eq_true, decide_eq_true_eq] at h
   obtain ⟨⟨h1, h2⟩, h3⟩ := h
   obtain ⟨a, b, c', d⟩ := once_words h3
   exact .inl ⟨by omega, List.eq_nil_of_length_eq_zero h1, h2, a, by omega, c', d⟩
 split at h
 · simp only [Bool.and_eq_true, decide_eq_true_eq] at h
   obtain ⟨⟨h1, h2⟩, h3⟩ := h
   obtain ⟨a, b, c', d⟩ := once_words h3
   exact .inl ⟨by omega, List.eq_nil_of_length_eq_zero h1, h2, a, by omega, c', d⟩
 split at h
 · simp only [Bool.and_eq_true, decide_eq_true_eq] at h
   obtain ⟨⟨h1, h2⟩, h3, -⟩ := h
   obtain ⟨a, b, c', d⟩ := once_words h3
   exact .inl ⟨by omega, List.eq_nil_of_length_eq_zero h1, h2, a, by omega, c', d⟩
 split at h
 · simp only [decide_eq_true_eq] at h
   exact .inr (.inl ⟨by assumption, List.eq_nil_of_length_eq_zero h.1, List.eq_nil_of_length_eq_zero h.2.1, h.2.2.1, h.2.2.2⟩)
 split at h
 · simp only [decide_eq_true_eq] at h
   exact .inr (.inr ⟨by assumption, List.eq_nil_of_length_eq_zero h.1, h.2.1, h.2.2.1, h.2.2.2⟩)
 · cases h
end Cv
end Go.Proofs.YtagppjldegblhaaGreatDoor
