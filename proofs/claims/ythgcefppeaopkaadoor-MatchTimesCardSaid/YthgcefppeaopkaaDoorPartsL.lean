/- The law MatchParts walked. -/
import Derived.Test.YthgcefppeaopkaaDoorMatchQ
import Derived.Test.YthgcefppeaopkaaDoorMatchX
import Derived.Test.YthgcefppeaopkaaDoorLangS
namespace Go.Proofs.YthgcefppeaopkaaDoor
open Go Go.RowKit Go.Sort
set_option maxRecDepth 100000
set_option linter.unusedSimpArgs false
set_option linter.unusedVariables false
set_option maxHeartbeats 4000000
theorem matchB_iff {n : Node} (h : Rx.right n = true) (l : List UInt8) : matchB n l = true ↔ Mx.lang n l := by rw [matchB_right n l h]; exact Mx.sp_whole h l
/-- is it one of the first, and behind it one of the second, cut ahead of place k? -/
def someB (a b : Node) (t : List UInt8) (k : Nat) : Bool := (List.range k).any (fun j => matchB a (t.take j) && matchB b (t.drop j))
theorem someB_succ (a b : Node) (t : List UInt8) (k : Nat) : someB a b t (k + 1) = (someB a b t k || (matchB a (t.take k) && matchB b (t.drop k))) := by
  unfold someB
  rw [List.range_succ, List.any_append]
  simp
theorem someB_cat {a b c : Node} (ha : Rx.right a = true) (hb : Rx.right b = true) (hc : Rx.right c = true) (h : ∀ w, Mx.lang c w ↔ Mx.lcat (Mx.lang a) (Mx.lang b) w) (t : List UInt8) : matchB c t = someB a b t (t.length + 1) := by
  rw [Bool.eq_iff_iff, matchB_iff hc, h]
  unfold someB
  rw [List.any_eq_true]
  constructor
  · rintro ⟨u, v, rfl, h1, h2⟩
    refine ⟨u.length, List.mem_range.2 (by simp; omega), ?_⟩
    rw [Bool.and_eq_true, matchB_iff ha, matchB_iff hb]
    simpa using ⟨h1, h2⟩
  · rintro ⟨k, hk, h3⟩
    rw [Bool.and_eq_true, matchB_iff ha, matchB_iff hb] at h3
    exact ⟨t.take k, t.drop k, (List.take_append_drop k t).symm, h3.1, h3.2⟩
theorem matchB_alt {a b d : Node} (ha : Rx.right a = true) (hb : Rx.right b = true) (hd : Rx.right d = true) (h : ∀ w, Mx.lang d w ↔ Mx.lang a w ∨ Mx.lang b w) (t : List UInt8) : matchB d t = (matchB a t || matchB b t) := by
  rw [Bool.eq_iff_iff, Bool.or_eq_true, matchB_iff hd, matchB_iff ha, matchB_iff hb, h]
theorem parts_facts (l r : List UInt8) (hl : l.length ≤ 60) (hr : r.length ≤ 60) {n1 n2 n3 n4 n5 n6 : Node} {e1 e2 e3 e4 e5 e6 : Int} {p1 p2 p3 p4 p5 p6 : Nat} (h1 : Rx.parse (40 :: (l ++ [41])) = (n1, e1, p1)) (h2 : Rx.parse (40 :: (r ++ [41])) = (n2, e2, p2))
    (h3 : Rx.parse (40 :: (l ++ 41 :: 40 :: (r ++ [41]))) = (n3, e3, p3)) (h4 : Rx.parse (l ++ 124 :: r) = (n4, e4, p4)) (h5 : Rx.parse l = (n5, e5, p5)) (h6 : Rx.parse r = (n6, e6, p6)) :
    e1 ≠ 0 ∨ (e1 = 0 ∧ e2 ≠ 0) ∨ (e1 = 0 ∧ e2 = 0 ∧ e5 ≠ 0) ∨ (e1 = 0 ∧ e2 = 0 ∧ e5 = 0 ∧ e6 ≠ 0) ∨ (e1 = 0 ∧ e2 = 0 ∧ e5 = 0 ∧ e6 = 0 ∧ e3 = 0 ∧ e4 = 0 ∧ ∀ x, matchB n3 x = someB n1 n2 x (x.length + 1) ∧ matchB n4 x = (matchB n1 x || matchB n2 x)) := by
  by_cases z1 : e1 = 0
  case neg => exact Or.inl z1
  by_cases z2 : e2 = 0
  case neg => exact Or.inr (Or.inl ⟨z1, z2⟩)
  by_cases z5 : e5 = 0
  case neg => exact Or.inr (Or.inr (Or.inl ⟨z1, z2, z5⟩))
  by_cases z6 : e6 = 0
  case neg => exact Or.inr (Or.inr (Or.inr (Or.inl ⟨z1, z2, z5, z6⟩)))
  subst z1 z2 z5 z6
  obtain ⟨a, b, c, d, q1, q2, q3, q4, ra, rb, rc, rd, hc, hd⟩ := Rx.parts_ok hl hr (by rw [h1]) (by rw [h2]) (by rw [h5]) (by rw [h6])
  rw [h1] at q1
  rw [h2] at q2
  rw [h3] at q3
  rw [h4] at q4
  obtain ⟨rfl, -, -⟩ : n1 = a ∧ (0 : Int) = 0 ∧ p1 = 0 := by simpa using q1
  obtain ⟨rfl, -, -⟩ : n2 = b ∧ (0 : Int) = 0 ∧ p2 = 0 := by simpa using q2
  obtain ⟨rfl, rfl, -⟩ : n3 = c ∧ e3 = 0 ∧ p3 = 0 := by simpa using q3
  obtain ⟨rfl, rfl, -⟩ : n4 = d ∧ e4 = 0 ∧ p4 = 0 := by simpa using q4
  exact Or.inr (Or.inr (Or.inr (Or.inr ⟨rfl, rfl, rfl, rfl, rfl, rfl, fun x => ⟨someB_cat ra rb rc hc x, matchB_alt ra rb rd hd x⟩⟩)))
/-- at a round's head -/
def PartsAt (a b : Node) (t : List UInt8) (N : Nat) (W : World) (u v : Value) (wr : World) : Prop := ∃ k : Nat, v = .int .i64 (k : Nat) ∧ u = .bool (someB a b t k) ∧ k ≤ N + 1 ∧ Below W.heap.size W wr
theorem parts_any (s t x : ByteArray) (w : World) (hs : s.size ≤ maxLen) (ht : t.size ≤ maxLen) (hx : x.size ≤ maxLen) (hT : TabW w) : Calls Tryd.prog 7 #[.string s, .string t, .string x] w (RetG (.bool true) w) := by
  have HT := hid_mk hT
  have HW := hide (fun w hT => works15_any w hT)
  unfold maxLen at hs ht hx
  by_cases qs : 60 < s.size
  · have qs' : decide ((60 : Int) < (s.size : Int)) = true := by simp; omega
    clear hT
    go_enter Tryd.func7, Tryd.ntmps7
    go_wp2_with fail
    refine (unhide HW _ HT.out).mono ?_
    rintro y w1 ⟨rfl, hb1⟩
    have HB := hid_mk hb1
    clear hb1
    go_wp2
    exact bodyPost_ret (v := .bool true) (by simp [results, Tryd.results7, go_sem]) rfl ⟨rfl, HB.out⟩
  have qs' : decide ((60 : Int) < (s.size : Int)) = false := by simp; omega
  by_cases qt : 60 < t.size
  · have qt' : decide ((60 : Int) < (t.size : Int)) = true := by simp; omega
    clear hT
    go_enter Tryd.func7, Tryd.ntmps7
    go_wp2_with fail
    refine (unhide HW _ HT.out).mono ?_
    rintro y w1 ⟨rfl, hb1⟩
    have HB := hid_mk hb1
    clear hb1
    go_wp2
    exact bodyPost_ret (v := .bool true) (by simp [results, Tryd.results7, go_sem]) rfl ⟨rfl, HB.out⟩
  have qt' : decide ((60 : Int) < (t.size : Int)) = false := by simp; omega
  by_cases qx : 30 < x.size
  · have qx' : decide ((30 : Int) < (x.size : Int)) = true := by simp; omega
    clear hT
    go_enter Tryd.func7, Tryd.ntmps7
    go_wp2_with fail
    refine (unhide HW _ HT.out).mono ?_
    rintro y w1 ⟨rfl, hb1⟩
    have HB := hid_mk hb1
    clear hb1
    go_wp2
    exact bodyPost_ret (v := .bool true) (by simp [results, Tryd.results7, go_sem]) rfl ⟨rfl, HB.out⟩
  have qx' : decide ((30 : Int) < (x.size : Int)) = false := by simp; omega
  have HP1 := hide (fun w hT => parse_any (ByteArray.mk #[40] ++ s ++ ByteArray.mk #[41]) w (by unfold maxLen; simp only [ByteArray.size_append, show (ByteArray.mk #[40]).size = 1 from rfl, show (ByteArray.mk #[41]).size = 1 from rfl]; omega) hT)
  rw [show (ByteArray.mk #[40] ++ s ++ ByteArray.mk #[41]).data.toList = 40 :: (s.data.toList ++ [41]) by simp [ByteArray.data_append]] at HP1
  have HP2 := hide (fun w hT => parse_any (ByteArray.mk #[40] ++ t ++ ByteArray.mk #[41]) w (by unfold maxLen; simp only [ByteArray.size_append, show (ByteArray.mk #[40]).size = 1 from rfl, show (ByteArray.mk #[41]).size = 1 from rfl]; omega) hT)
  rw [show (ByteArray.mk #[40] ++ t ++ ByteArray.mk #[41]).data.toList = 40 :: (t.data.toList ++ [41]) by simp [ByteArray.data_append]] at HP2
  have HP3 := hide (fun w hT => parse_any (ByteArray.mk #[40] ++ s ++ ByteArray.mk #[41, 40] ++ t ++ ByteArray.mk #[41]) w (by unfold maxLen; simp only [ByteArray.size_append, show (ByteArray.mk #[40]).size = 1 from rfl, show (ByteArray.mk #[41, 40]).size = 2 from rfl, show (ByteArray.mk #[41]).size = 1 from rfl]; omega) hT)
  rw [show (ByteArray.mk #[40] ++ s ++ ByteArray.mk #[41, 40] ++ t ++ ByteArray.mk #[41]).data.toList = 40 :: (s.data.toList ++ 41 :: 40 :: (t.data.toList ++ [41])) by simp [ByteArray.data_append]] at HP3
  have HP4 := hide (fun w hT => parse_any (s ++ ByteArray.mk #[124] ++ t) w (by unfold maxLen; simp only [ByteArray.size_append, show (ByteArray.mk #[124]).size = 1 from rfl]; omega) hT)
  rw [show (s ++ ByteArray.mk #[124] ++ t).data.toList = s.data.toList ++ 124 :: t.data.toList by simp [ByteArray.data_append]] at HP4
  have HP5 := hide (fun w hT => parse_any (s) w (by unfold maxLen; omega) hT)
  have HP6 := hide (fun w hT => parse_any (t) w (by unfold maxLen; omega) hT)
  obtain ⟨⟨n1, e1, p1⟩, h1⟩ : ∃ r, Rx.parse (40 :: (s.data.toList ++ [41])) = r := ⟨_, rfl⟩
  obtain ⟨⟨n2, e2, p2⟩, h2⟩ : ∃ r, Rx.parse (40 :: (t.data.toList ++ [41])) = r := ⟨_, rfl⟩
  obtain ⟨⟨n3, e3, p3⟩, h3⟩ : ∃ r, Rx.parse (40 :: (s.data.toList ++ 41 :: 40 :: (t.data.toList ++ [41]))) = r := ⟨_, rfl⟩
  obtain ⟨⟨n4, e4, p4⟩, h4⟩ : ∃ r, Rx.parse (s.data.toList ++ 124 :: t.data.toList) = r := ⟨_, rfl⟩
  obtain ⟨⟨n5, e5, p5⟩, h5⟩ : ∃ r, Rx.parse (s.data.toList) = r := ⟨_, rfl⟩
  obtain ⟨⟨n6, e6, p6⟩, h6⟩ : ∃ r, Rx.parse (t.data.toList) = r := ⟨_, rfl⟩
  have HF := hid_mk (parts_facts s.data.toList t.data.toList (by rw [len_data]; omega) (by rw [len_data]; omega) h1 h2 h3 h4 h5 h6)
  rw [h1] at HP1
  have L1 := lens_parse h1
  have HM1 := hide (fun (u : ByteArray) (hu : u.size ≤ 90000) (A : Option Addr) (ca : Nat) (G : Nat → Prop) (w : World) (hG : ∀ x, G x → x < w.heap.size) (hsa : SlOk A n1.kids.length ca) (hk : KidsAt G w A n1.kids) => match_any u n1 L1 hu A ca G w hG hsa hk)
  rw [h2] at HP2
  have L2 := lens_parse h2
  have HM2 := hide (fun (u : ByteArray) (hu : u.size ≤ 90000) (A : Option Addr) (ca : Nat) (G : Nat → Prop) (w : World) (hG : ∀ x, G x → x < w.heap.size) (hsa : SlOk A n2.kids.length ca) (hk : KidsAt G w A n2.kids) => match_any u n2 L2 hu A ca G w hG hsa hk)
  rw [h3] at HP3
  have L3 := lens_parse h3
  have HM3 := hide (fun (u : ByteArray) (hu : u.size ≤ 90000) (A : Option Addr) (ca : Nat) (G : Nat → Prop) (w : World) (hG : ∀ x, G x → x < w.heap.size) (hsa : SlOk A n3.kids.length ca) (hk : KidsAt G w A n3.kids) => match_any u n3 L3 hu A ca G w hG hsa hk)
  rw [h4] at HP4
  have L4 := lens_parse h4
  have HM4 := hide (fun (u : ByteArray) (hu : u.size ≤ 90000) (A : Option Addr) (ca : Nat) (G : Nat → Prop) (w : World) (hG : ∀ x, G x → x < w.heap.size) (hsa : SlOk A n4.kids.length ca) (hk : KidsAt G w A n4.kids) => match_any u n4 L4 hu A ca G w hG hsa hk)
  rw [h5] at HP5
  rw [h6] at HP6
  clear hT h1 h2 h3 h4 h5 h6 L1 L2 L3 L4
  go_enter Tryd.func7, Tryd.ntmps7
  go_wp2_with fail
  refine (unhide HP1 _ HT.out).mono ?_
  rintro y w1 ⟨hb1, A1, cap1, rfl, hsl1, hk1⟩
  dsimp only at hk1 hsl1
  go_wp2_with fail
  obtain ⟨V1, hV1⟩ : ∃ V, V = (w1.alloc (.cells #[.int .i64 (n1.kind), .int .u64 ((n1.set).a.toNat : Int), .int .u64 ((n1.set).b.toNat : Int), .int .u64 ((n1.set).c.toNat : Int), .int .u64 ((n1.set).d.toNat : Int), .slice (A1) (n1.kids.length) (cap1), .int .i64 (n1.min), .int .i64 (n1.max)] 28)).alloc (.cells #[.int .i64 e1, .int .i64 (p1 : Nat)] 31) := ⟨_, rfl⟩
  rw [← hV1]
  obtain ⟨b1, x1, f1, k1⟩ := par_two hV1 hb1 hk1
  have BX1 := hid_mk b1
  have X11 := hid_mk x1
  have K11 := hid_mk k1
  have F11 := hid_mk f1
  clear hV1 hb1 hk1 b1 x1 f1 k1 
  refine (unhide HP2 _ (HT.out.below BX1.out)).mono ?_
  rintro y w2 ⟨hb2, A2, cap2, rfl, hsl2, hk2⟩
  dsimp only at hk2 hsl2
  go_wp2_with fail
  obtain ⟨V2, hV2⟩ : ∃ V, V = (w2.alloc (.cells #[.int .i64 (n2.kind), .int .u64 ((n2.set).a.toNat : Int), .int .u64 ((n2.set).b.toNat : Int), .int .u64 ((n2.set).c.toNat : Int), .int .u64 ((n2.set).d.toNat : Int), .slice (A2) (n2.kids.length) (cap2), .int .i64 (n2.min), .int .i64 (n2.max)] 28)).alloc (.cells #[.int .i64 e2, .int .i64 (p2 : Nat)] 31) := ⟨_, rfl⟩
  rw [← hV2]
  obtain ⟨b2, x2, f2, k2⟩ := par_two hV2 hb2 hk2
  have BX2 := hid_mk (BX1.out.trans (b2.mono BX1.out.size))
  have X12 := hid_mk (X11.out.call b2)
  have K12 := hid_mk (kids_on K11.out b2)
  have F12 := hid_mk (F11.out.call b2)
  have X22 := hid_mk x2
  have K22 := hid_mk k2
  have F22 := hid_mk f2
  clear hV2 hb2 hk2 b2 x2 f2 k2 X11 K11 F11 BX1
  refine (unhide HP3 _ (HT.out.below BX2.out)).mono ?_
  rintro y w3 ⟨hb3, A3, cap3, rfl, hsl3, hk3⟩
  dsimp only at hk3 hsl3
  go_wp2_with fail
  obtain ⟨V3, hV3⟩ : ∃ V, V = (w3.alloc (.cells #[.int .i64 (n3.kind), .int .u64 ((n3.set).a.toNat : Int), .int .u64 ((n3.set).b.toNat : Int), .int .u64 ((n3.set).c.toNat : Int), .int .u64 ((n3.set).d.toNat : Int), .slice (A3) (n3.kids.length) (cap3), .int .i64 (n3.min), .int .i64 (n3.max)] 28)).alloc (.cells #[.int .i64 e3, .int .i64 (p3 : Nat)] 31) := ⟨_, rfl⟩
  rw [← hV3]
  obtain ⟨b3, x3, f3, k3⟩ := par_two hV3 hb3 hk3
  have BX3 := hid_mk (BX2.out.trans (b3.mono BX2.out.size))
  have X13 := hid_mk (X12.out.call b3)
  have K13 := hid_mk (kids_on K12.out b3)
  have F13 := hid_mk (F12.out.call b3)
  have X23 := hid_mk (X22.out.call b3)
  have K23 := hid_mk (kids_on K22.out b3)
  have F23 := hid_mk (F22.out.call b3)
  have X33 := hid_mk x3
  have K33 := hid_mk k3
  have F33 := hid_mk f3
  clear hV3 hb3 hk3 b3 x3 f3 k3 X12 K12 F12 X22 K22 F22 BX2
  refine (unhide HP4 _ (HT.out.below BX3.out)).mono ?_
  rintro y w4 ⟨hb4, A4, cap4, rfl, hsl4, hk4⟩
  dsimp only at hk4 hsl4
  go_wp2_with fail
  obtain ⟨V4, hV4⟩ : ∃ V, V = (w4.alloc (.cells #[.int .i64 (n4.kind), .int .u64 ((n4.set).a.toNat : Int), .int .u64 ((n4.set).b.toNat : Int), .int .u64 ((n4.set).c.toNat : Int), .int .u64 ((n4.set).d.toNat : Int), .slice (A4) (n4.kids.length) (cap4), .int .i64 (n4.min), .int .i64 (n4.max)] 28)).alloc (.cells #[.int .i64 e4, .int .i64 (p4 : Nat)] 31) := ⟨_, rfl⟩
  rw [← hV4]
  obtain ⟨b4, x4, f4, k4⟩ := par_two hV4 hb4 hk4
  have BX4 := hid_mk (BX3.out.trans (b4.mono BX3.out.size))
  have X14 := hid_mk (X13.out.call b4)
  have K14 := hid_mk (kids_on K13.out b4)
  have F14 := hid_mk (F13.out.call b4)
  have X24 := hid_mk (X23.out.call b4)
  have K24 := hid_mk (kids_on K23.out b4)
  have F24 := hid_mk (F23.out.call b4)
  have X34 := hid_mk (X33.out.call b4)
  have K34 := hid_mk (kids_on K33.out b4)
  have F34 := hid_mk (F33.out.call b4)
  have X44 := hid_mk x4
  have K44 := hid_mk k4
  have F44 := hid_mk f4
  clear hV4 hb4 hk4 b4 x4 f4 k4 X13 K13 F13 X23 K23 F23 X33 K33 F33 BX3
  refine (unhide HP5 _ (HT.out.below BX4.out)).mono ?_
  rintro y w5 ⟨hb5, A5, cap5, rfl, hsl5, hk5⟩
  dsimp only at hk5 hsl5
  go_wp2_with fail
  obtain ⟨V5, hV5⟩ : ∃ V, V = (w5.alloc (.cells #[.int .i64 (n5.kind), .int .u64 ((n5.set).a.toNat : Int), .int .u64 ((n5.set).b.toNat : Int), .int .u64 ((n5.set).c.toNat : Int), .int .u64 ((n5.set).d.toNat : Int), .slice (A5) (n5.kids.length) (cap5), .int .i64 (n5.min), .int .i64 (n5.max)] 28)).alloc (.cells #[.int .i64 e5, .int .i64 (p5 : Nat)] 31) := ⟨_, rfl⟩
  rw [← hV5]
  obtain ⟨b5, x5, f5, k5⟩ := par_two hV5 hb5 hk5
  have BX5 := hid_mk (BX4.out.trans (b5.mono BX4.out.size))
  have X15 := hid_mk (X14.out.call b5)
  have K15 := hid_mk (kids_on K14.out b5)
  have F15 := hid_mk (F14.out.call b5)
  have X25 := hid_mk (X24.out.call b5)
  have K25 := hid_mk (kids_on K24.out b5)
  have F25 := hid_mk (F24.out.call b5)
  have X35 := hid_mk (X34.out.call b5)
  have K35 := hid_mk (kids_on K34.out b5)
  have F35 := hid_mk (F34.out.call b5)
  have X45 := hid_mk (X44.out.call b5)
  have K45 := hid_mk (kids_on K44.out b5)
  have F45 := hid_mk (F44.out.call b5)
  have F55 := hid_mk f5
  clear hV5 hb5 hk5 b5 x5 f5 k5 X14 K14 F14 X24 K24 F24 X34 K34 F34 X44 K44 F44 BX4
  refine (unhide HP6 _ (HT.out.below BX5.out)).mono ?_
  rintro y w6 ⟨hb6, A6, cap6, rfl, hsl6, hk6⟩
  dsimp only at hk6 hsl6
  obtain ⟨V6, hV6⟩ : ∃ V, V = (w6.alloc (.cells #[.int .i64 (n6.kind), .int .u64 ((n6.set).a.toNat : Int), .int .u64 ((n6.set).b.toNat : Int), .int .u64 ((n6.set).c.toNat : Int), .int .u64 ((n6.set).d.toNat : Int), .slice (A6) (n6.kids.length) (cap6), .int .i64 (n6.min), .int .i64 (n6.max)] 28)).alloc (.cells #[.int .i64 e6, .int .i64 (p6 : Nat)] 31) := ⟨_, rfl⟩
  obtain ⟨b6, x6, f6, k6⟩ := par_two hV6 hb6 hk6
  have BX6 := hid_mk (BX5.out.trans (b6.mono BX5.out.size))
  have X16 := hid_mk (X15.out.call b6)
  have K16 := hid_mk (kids_on K15.out b6)
  have F16 := hid_mk (F15.out.call b6)
  have X26 := hid_mk (X25.out.call b6)
  have K26 := hid_mk (kids_on K25.out b6)
  have F26 := hid_mk (F25.out.call b6)
  have X36 := hid_mk (X35.out.call b6)
  have K36 := hid_mk (kids_on K35.out b6)
  have F36 := hid_mk (F35.out.call b6)
  have X46 := hid_mk (X45.out.call b6)
  have K46 := hid_mk (kids_on K45.out b6)
  have F46 := hid_mk (F45.out.call b6)
  have F56 := hid_mk (F55.out.call b6)
  have F66 := hid_mk f6
  have HV := hid_mk hV6
  clear hV6 hb6 hk6 b6 x6 f6 k6 X15 K15 F15 X25 K25 F25 X35 K35 F35 X45 K45 F45 F55 BX5
  rcases HF.out with g | g | g | g | g
  · clear HF
    have hne := g; clear g
    have hne' : (e1 != 0) = true := by simpa using hne
    have c1 : V6.cell? ⟨w1.heap.size + 1, 0, none⟩ = some (.int .i64 e1) := F16.out.cell 0
    clear hne
    go_wp2_with (rw [← HV.out])
    refine (unhide HW _ (HT.out.below BX6.out)).mono ?_
    rintro y u ⟨rfl, hbu⟩
    have BU := hid_mk (BX6.out.trans (hbu.mono BX6.out.size))
    clear hbu
    go_wp2
    exact bodyPost_ret (v := .bool true) (by simp [results, Tryd.results7, go_sem]) rfl ⟨rfl, BU.out⟩
  · clear HF
    obtain ⟨rfl, hne⟩ := g
    have hne' : (e2 != 0) = true := by simpa using hne
    have c1 : V6.cell? ⟨w1.heap.size + 1, 0, none⟩ = some (.int .i64 0) := F16.out.cell 0
    have c2 : V6.cell? ⟨w2.heap.size + 1, 0, none⟩ = some (.int .i64 e2) := F26.out.cell 0
    clear hne
    go_wp2_with (rw [← HV.out])
    refine (unhide HW _ (HT.out.below BX6.out)).mono ?_
    rintro y u ⟨rfl, hbu⟩
    have BU := hid_mk (BX6.out.trans (hbu.mono BX6.out.size))
    clear hbu
    go_wp2
    exact bodyPost_ret (v := .bool true) (by simp [results, Tryd.results7, go_sem]) rfl ⟨rfl, BU.out⟩
  · clear HF
    obtain ⟨rfl, rfl, hne⟩ := g
    have hne' : (e5 != 0) = true := by simpa using hne
    have c1 : V6.cell? ⟨w1.heap.size + 1, 0, none⟩ = some (.int .i64 0) := F16.out.cell 0
    have c2 : V6.cell? ⟨w2.heap.size + 1, 0, none⟩ = some (.int .i64 0) := F26.out.cell 0
    have c5 : V6.cell? ⟨w5.heap.size + 1, 0, none⟩ = some (.int .i64 e5) := F56.out.cell 0
    clear hne
    go_wp2_with (rw [← HV.out])
    refine (unhide HW _ (HT.out.below BX6.out)).mono ?_
    rintro y u ⟨rfl, hbu⟩
    have BU := hid_mk (BX6.out.trans (hbu.mono BX6.out.size))
    clear hbu
    go_wp2
    exact bodyPost_ret (v := .bool true) (by simp [results, Tryd.results7, go_sem]) rfl ⟨rfl, BU.out⟩
  · clear HF
    obtain ⟨rfl, rfl, rfl, hne⟩ := g
    have hne' : (e6 != 0) = true := by simpa using hne
    have c1 : V6.cell? ⟨w1.heap.size + 1, 0, none⟩ = some (.int .i64 0) := F16.out.cell 0
    have c2 : V6.cell? ⟨w2.heap.size + 1, 0, none⟩ = some (.int .i64 0) := F26.out.cell 0
    have c5 : V6.cell? ⟨w5.heap.size + 1, 0, none⟩ = some (.int .i64 0) := F56.out.cell 0
    have c6 : V6.cell? ⟨w6.heap.size + 1, 0, none⟩ = some (.int .i64 e6) := F66.out.cell 0
    clear hne
    go_wp2_with (rw [← HV.out])
    refine (unhide HW _ (HT.out.below BX6.out)).mono ?_
    rintro y u ⟨rfl, hbu⟩
    have BU := hid_mk (BX6.out.trans (hbu.mono BX6.out.size))
    clear hbu
    go_wp2
    exact bodyPost_ret (v := .bool true) (by simp [results, Tryd.results7, go_sem]) rfl ⟨rfl, BU.out⟩
  · clear HF
    obtain ⟨rfl, rfl, rfl, rfl, rfl, rfl, hall⟩ := g
    have HA := hid_mk (hall x.data.toList)
    rw [len_data] at HA
    have c1 : V6.cell? ⟨w1.heap.size + 1, 0, none⟩ = some (.int .i64 0) := F16.out.cell 0
    have c2 : V6.cell? ⟨w2.heap.size + 1, 0, none⟩ = some (.int .i64 0) := F26.out.cell 0
    have c3 : V6.cell? ⟨w3.heap.size + 1, 0, none⟩ = some (.int .i64 0) := F36.out.cell 0
    have c4 : V6.cell? ⟨w4.heap.size + 1, 0, none⟩ = some (.int .i64 0) := F46.out.cell 0
    have c5 : V6.cell? ⟨w5.heap.size + 1, 0, none⟩ = some (.int .i64 0) := F56.out.cell 0
    have c6 : V6.cell? ⟨w6.heap.size + 1, 0, none⟩ = some (.int .i64 0) := F66.out.cell 0
    clear hall
    go_wp2_with (rw [← HV.out])
    clear c1 c2 c3 c4 c5 c6
    go_loopw [19, 20] (fun u v wr => PartsAt n1 n2 x.data.toList x.size V6 u v wr) (fun _ v _ => x.size + 1 - (intOf v).toNat)
    case atStart => exact ⟨0, rfl, rfl, by omega, Below.refl _ _⟩
    case round =>
      obtain ⟨k, rfl, rfl, hk, hb⟩ := hrel
      have HB := hid_mk hb
      have hbg : ∀ d os, Below V6.heap.size V6 (grow (redrawn wr d) os) := fun d os => HB.out.trans ((below_regrown wr d os).mono HB.out.size)
      by_cases hlt : k ≤ x.size
      · have hle : (k : Int) ≤ (x.size : Int) := by omega
        have HS := hid_mk (someB_succ n1 n2 x.data.toList k)
        have t1 : (x.extract 0 k).data.toList = x.data.toList.take k := by simp [ByteArray.data_extract]
        have t2 : (x.extract k x.size).data.toList = x.data.toList.drop k := by simp only [ByteArray.data_extract, Array.toList_extract, List.extract_eq_take_drop]; exact List.take_of_length_le (by simp)
        have z1 : (x.extract 0 k).size ≤ 90000 := by rw [ByteArray.size_extract]; omega
        have z2 : (x.extract k x.size).size ≤ 90000 := by rw [ByteArray.size_extract]; omega
        have Y1 := X16.out.call hb
        have Y2 := X26.out.call hb
        have C1 : Hid (∀ d os, Calls Tryd.prog 24 #[.agg #[.int .i64 (n1.kind), .int .u64 ((n1.set).a.toNat : Int), .int .u64 ((n1.set).b.toNat : Int), .int .u64 ((n1.set).c.toNat : Int), .int .u64 ((n1.set).d.toNat : Int), .slice (A1) (n1.kids.length) (cap1), .int .i64 (n1.min), .int .i64 (n1.max)], .string (x.extract 0 k)] (grow (redrawn wr d) os) (fun e w'' => e = .returned (.bool (matchB n1 (x.data.toList.take k))) ∧ ∃ p : Regrown, w'' = grow (redrawn wr p.d) p.os)) := hid_mk (fun d os => by
          have h := unhide HM1 (x.extract 0 k) (z1) A1 cap1 (fun b => b < V6.heap.size) (grow (redrawn wr d) os) (fun b hb' => Nat.lt_of_lt_of_le hb' (hbg d os).size) hsl1 (kids_two K16.out (hbg d os) (fun b h => h))
          rw [t1] at h
          exact retG_qq h)
        have C2 : Hid (∀ d os, Calls Tryd.prog 24 #[.agg #[.int .i64 (n2.kind), .int .u64 ((n2.set).a.toNat : Int), .int .u64 ((n2.set).b.toNat : Int), .int .u64 ((n2.set).c.toNat : Int), .int .u64 ((n2.set).d.toNat : Int), .slice (A2) (n2.kids.length) (cap2), .int .i64 (n2.min), .int .i64 (n2.max)], .string (x.extract k x.size)] (grow (redrawn wr d) os) (fun e w'' => e = .returned (.bool (matchB n2 (x.data.toList.drop k))) ∧ ∃ p : Regrown, w'' = grow (redrawn wr p.d) p.os)) := hid_mk (fun d os => by
          have h := unhide HM2 (x.extract k x.size) (z2) A2 cap2 (fun b => b < V6.heap.size) (grow (redrawn wr d) os) (fun b hb' => Nat.lt_of_lt_of_le hb' (hbg d os).size) hsl2 (kids_two K26.out (hbg d os) (fun b h => h))
          rw [t2] at h
          exact retG_qq h)
        have ga0 : ∀ d os, (grow (redrawn wr d) os).cell? ⟨w1.heap.size, 0, none⟩ = some (.int .i64 n1.kind) := fun d os => cell_regrown (Y1.cell 0) d os
        have ga1 : ∀ d os, (grow (redrawn wr d) os).cell? ⟨w1.heap.size, 1, none⟩ = some (.int .u64 (n1.set.a.toNat : Int)) := fun d os => cell_regrown (Y1.cell 1) d os
        have ga2 : ∀ d os, (grow (redrawn wr d) os).cell? ⟨w1.heap.size, 2, none⟩ = some (.int .u64 (n1.set.b.toNat : Int)) := fun d os => cell_regrown (Y1.cell 2) d os
        have ga3 : ∀ d os, (grow (redrawn wr d) os).cell? ⟨w1.heap.size, 3, none⟩ = some (.int .u64 (n1.set.c.toNat : Int)) := fun d os => cell_regrown (Y1.cell 3) d os
        have ga4 : ∀ d os, (grow (redrawn wr d) os).cell? ⟨w1.heap.size, 4, none⟩ = some (.int .u64 (n1.set.d.toNat : Int)) := fun d os => cell_regrown (Y1.cell 4) d os
        have ga5 : ∀ d os, (grow (redrawn wr d) os).cell? ⟨w1.heap.size, 5, none⟩ = some (.slice A1 n1.kids.length cap1) := fun d os => cell_regrown (Y1.cell 5) d os
        have ga6 : ∀ d os, (grow (redrawn wr d) os).cell? ⟨w1.heap.size, 6, none⟩ = some (.int .i64 n1.min) := fun d os => cell_regrown (Y1.cell 6) d os
        have ga7 : ∀ d os, (grow (redrawn wr d) os).cell? ⟨w1.heap.size, 7, none⟩ = some (.int .i64 n1.max) := fun d os => cell_regrown (Y1.cell 7) d os
        have gb0 : ∀ d os, (grow (redrawn wr d) os).cell? ⟨w2.heap.size, 0, none⟩ = some (.int .i64 n2.kind) := fun d os => cell_regrown (Y2.cell 0) d os
        have gb1 : ∀ d os, (grow (redrawn wr d) os).cell? ⟨w2.heap.size, 1, none⟩ = some (.int .u64 (n2.set.a.toNat : Int)) := fun d os => cell_regrown (Y2.cell 1) d os
        have gb2 : ∀ d os, (grow (redrawn wr d) os).cell? ⟨w2.heap.size, 2, none⟩ = some (.int .u64 (n2.set.b.toNat : Int)) := fun d os => cell_regrown (Y2.cell 2) d os
        have gb3 : ∀ d os, (grow (redrawn wr d) os).cell? ⟨w2.heap.size, 3, none⟩ = some (.int .u64 (n2.set.c.toNat : Int)) := fun d os => cell_regrown (Y2.cell 3) d os
        have gb4 : ∀ d os, (grow (redrawn wr d) os).cell? ⟨w2.heap.size, 4, none⟩ = some (.int .u64 (n2.set.d.toNat : Int)) := fun d os => cell_regrown (Y2.cell 4) d os
        have gb5 : ∀ d os, (grow (redrawn wr d) os).cell? ⟨w2.heap.size, 5, none⟩ = some (.slice A2 n2.kids.length cap2) := fun d os => cell_regrown (Y2.cell 5) d os
        have gb6 : ∀ d os, (grow (redrawn wr d) os).cell? ⟨w2.heap.size, 6, none⟩ = some (.int .i64 n2.min) := fun d os => cell_regrown (Y2.cell 6) d os
        have gb7 : ∀ d os, (grow (redrawn wr d) os).cell? ⟨w2.heap.size, 7, none⟩ = some (.int .i64 n2.max) := fun d os => cell_regrown (Y2.cell 7) d os
        clear t1 t2 z1 z2 Y1 Y2 hb hbg
        generalize someB n1 n2 x.data.toList k = st at *
        generalize matchB n1 (x.data.toList.take k) = va at *
        generalize matchB n2 (x.data.toList.drop k) = vb at *
        cases st
        case true =>
          clear ga0 ga1 ga2 ga3 ga4 ga5 ga6 ga7 gb0 gb1 gb2 gb3 gb4 gb5 gb6 gb7 C1 C2
          go_wp2
          (refine wp_region_quiet_below (by kernel_rfl) (by kernel_rfl) ?_; (repeat (first | go_big_quiet_step (fail) | quiet_step (fail))); refine wpQuiet_nil ?_; intro _ hw'; obtain ⟨⟨nq, osq⟩, hw''⟩ := hw'; subst hw'')
          have HBX := hid_mk (HB.out.trans ((below_regrown wr nq osq).mono HB.out.size))
          generalize grow (redrawn wr nq) osq = V at *
          go_wp2
          go_roundw
          case rel => exact ⟨k + 1, by go_num, by rw [HS.out]; rfl, by omega, HBX.out⟩
          case measure => simp [intOf]; omega
        case false =>
          cases va
          case false =>
            clear gb0 gb1 gb2 gb3 gb4 gb5 gb6 gb7 C2
            go_wp2
            (refine wp_region_quiet_below (by kernel_rfl) (by kernel_rfl) ?_; (repeat (first | go_big_quiet_step ((go_at_call 24; with_reducible exact C1.out _ _)) | quiet_step ((go_at_call 24; with_reducible exact C1.out _ _)))); refine wpQuiet_nil ?_; intro _ hw'; obtain ⟨⟨nq, osq⟩, hw''⟩ := hw'; subst hw'')
            have HBX := hid_mk (HB.out.trans ((below_regrown wr nq osq).mono HB.out.size))
            generalize grow (redrawn wr nq) osq = V at *
            go_wp2
            go_roundw
            case rel => exact ⟨k + 1, by go_num, by rw [HS.out]; rfl, by omega, HBX.out⟩
            case measure => simp [intOf]; omega
          case true =>
            cases vb
            all_goals
              go_wp2
              (refine wp_region_quiet_below (by kernel_rfl) (by kernel_rfl) ?_; (repeat (first | go_big_quiet_step ((go_at_call 24; first | with_reducible exact C1.out _ _ | with_reducible exact C2.out _ _)) | quiet_step ((go_at_call 24; first | with_reducible exact C1.out _ _ | with_reducible exact C2.out _ _)))); refine wpQuiet_nil ?_; intro _ hw'; obtain ⟨⟨nq, osq⟩, hw''⟩ := hw'; subst hw'')
              have HBX := hid_mk (HB.out.trans ((below_regrown wr nq osq).mono HB.out.size))
              generalize grow (redrawn wr nq) osq = V at *
              go_wp2
              go_roundw
              case rel => exact ⟨k + 1, by go_num, by rw [HS.out]; rfl, by omega, HBX.out⟩
              case measure => simp [intOf]; omega
      · obtain rfl : k = x.size + 1 := by omega
        have hle : ¬ ((x.size + 1 : Nat) : Int) ≤ (x.size : Int) := by omega
        have Y1 := X16.out.call hb
        have Y2 := X26.out.call hb
        have Y3 := X36.out.call hb
        have Y4 := X46.out.call hb
        have zx : x.size ≤ 90000 := by omega
        obtain ⟨hA3, hA4⟩ := HA.out
        have C3 : Hid (∀ d os, Calls Tryd.prog 24 #[.agg #[.int .i64 (n3.kind), .int .u64 ((n3.set).a.toNat : Int), .int .u64 ((n3.set).b.toNat : Int), .int .u64 ((n3.set).c.toNat : Int), .int .u64 ((n3.set).d.toNat : Int), .slice (A3) (n3.kids.length) (cap3), .int .i64 (n3.min), .int .i64 (n3.max)], .string (x)] (grow (redrawn wr d) os) (fun e w'' => e = .returned (.bool (someB n1 n2 x.data.toList (x.size + 1))) ∧ ∃ p : Regrown, w'' = grow (redrawn wr p.d) p.os)) := hid_mk (fun d os => by
          have h := unhide HM3 (x) (zx) A3 cap3 (fun b => b < V6.heap.size) (grow (redrawn wr d) os) (fun b hb' => Nat.lt_of_lt_of_le hb' (hbg d os).size) hsl3 (kids_two K36.out (hbg d os) (fun b h => h))
          rw [hA3] at h
          exact retG_qq h)
        have C4 : Hid (∀ d os, Calls Tryd.prog 24 #[.agg #[.int .i64 (n4.kind), .int .u64 ((n4.set).a.toNat : Int), .int .u64 ((n4.set).b.toNat : Int), .int .u64 ((n4.set).c.toNat : Int), .int .u64 ((n4.set).d.toNat : Int), .slice (A4) (n4.kids.length) (cap4), .int .i64 (n4.min), .int .i64 (n4.max)], .string (x)] (grow (redrawn wr d) os) (fun e w'' => e = .returned (.bool (matchB n1 x.data.toList || matchB n2 x.data.toList)) ∧ ∃ p : Regrown, w'' = grow (redrawn wr p.d) p.os)) := hid_mk (fun d os => by
          have h := unhide HM4 (x) (zx) A4 cap4 (fun b => b < V6.heap.size) (grow (redrawn wr d) os) (fun b hb' => Nat.lt_of_lt_of_le hb' (hbg d os).size) hsl4 (kids_two K46.out (hbg d os) (fun b h => h))
          rw [hA4] at h
          exact retG_qq h)
        have C1 : Hid (∀ d os, Calls Tryd.prog 24 #[.agg #[.int .i64 (n1.kind), .int .u64 ((n1.set).a.toNat : Int), .int .u64 ((n1.set).b.toNat : Int), .int .u64 ((n1.set).c.toNat : Int), .int .u64 ((n1.set).d.toNat : Int), .slice (A1) (n1.kids.length) (cap1), .int .i64 (n1.min), .int .i64 (n1.max)], .string (x)] (grow (redrawn wr d) os) (fun e w'' => e = .returned (.bool (matchB n1 x.data.toList)) ∧ ∃ p : Regrown, w'' = grow (redrawn wr p.d) p.os)) := hid_mk (fun d os => by
          have h := unhide HM1 (x) (zx) A1 cap1 (fun b => b < V6.heap.size) (grow (redrawn wr d) os) (fun b hb' => Nat.lt_of_lt_of_le hb' (hbg d os).size) hsl1 (kids_two K16.out (hbg d os) (fun b h => h))
          skip
          exact retG_qq h)
        have C2 : Hid (∀ d os, Calls Tryd.prog 24 #[.agg #[.int .i64 (n2.kind), .int .u64 ((n2.set).a.toNat : Int), .int .u64 ((n2.set).b.toNat : Int), .int .u64 ((n2.set).c.toNat : Int), .int .u64 ((n2.set).d.toNat : Int), .slice (A2) (n2.kids.length) (cap2), .int .i64 (n2.min), .int .i64 (n2.max)], .string (x)] (grow (redrawn wr d) os) (fun e w'' => e = .returned (.bool (matchB n2 x.data.toList)) ∧ ∃ p : Regrown, w'' = grow (redrawn wr p.d) p.os)) := hid_mk (fun d os => by
          have h := unhide HM2 (x) (zx) A2 cap2 (fun b => b < V6.heap.size) (grow (redrawn wr d) os) (fun b hb' => Nat.lt_of_lt_of_le hb' (hbg d os).size) hsl2 (kids_two K26.out (hbg d os) (fun b h => h))
          skip
          exact retG_qq h)
        have C20 : Hid (∀ d os, Calls Tryd.prog 20 #[] (grow (redrawn wr d) os) (fun e w'' => e = .returned (.bool true) ∧ ∃ p : Regrown, w'' = grow (redrawn wr p.d) p.os)) := hid_mk (fun d os => retG_qq (unhide HW _ (HT.out.below (BX6.out.trans ((hbg d os).mono BX6.out.size)))))
        have ga0 : ∀ d os, (grow (redrawn wr d) os).cell? ⟨w1.heap.size, 0, none⟩ = some (.int .i64 n1.kind) := fun d os => cell_regrown (Y1.cell 0) d os
        have ga1 : ∀ d os, (grow (redrawn wr d) os).cell? ⟨w1.heap.size, 1, none⟩ = some (.int .u64 (n1.set.a.toNat : Int)) := fun d os => cell_regrown (Y1.cell 1) d os
        have ga2 : ∀ d os, (grow (redrawn wr d) os).cell? ⟨w1.heap.size, 2, none⟩ = some (.int .u64 (n1.set.b.toNat : Int)) := fun d os => cell_regrown (Y1.cell 2) d os
        have ga3 : ∀ d os, (grow (redrawn wr d) os).cell? ⟨w1.heap.size, 3, none⟩ = some (.int .u64 (n1.set.c.toNat : Int)) := fun d os => cell_regrown (Y1.cell 3) d os
        have ga4 : ∀ d os, (grow (redrawn wr d) os).cell? ⟨w1.heap.size, 4, none⟩ = some (.int .u64 (n1.set.d.toNat : Int)) := fun d os => cell_regrown (Y1.cell 4) d os
        have ga5 : ∀ d os, (grow (redrawn wr d) os).cell? ⟨w1.heap.size, 5, none⟩ = some (.slice A1 n1.kids.length cap1) := fun d os => cell_regrown (Y1.cell 5) d os
        have ga6 : ∀ d os, (grow (redrawn wr d) os).cell? ⟨w1.heap.size, 6, none⟩ = some (.int .i64 n1.min) := fun d os => cell_regrown (Y1.cell 6) d os
        have ga7 : ∀ d os, (grow (redrawn wr d) os).cell? ⟨w1.heap.size, 7, none⟩ = some (.int .i64 n1.max) := fun d os => cell_regrown (Y1.cell 7) d os
        have gb0 : ∀ d os, (grow (redrawn wr d) os).cell? ⟨w2.heap.size, 0, none⟩ = some (.int .i64 n2.kind) := fun d os => cell_regrown (Y2.cell 0) d os
        have gb1 : ∀ d os, (grow (redrawn wr d) os).cell? ⟨w2.heap.size, 1, none⟩ = some (.int .u64 (n2.set.a.toNat : Int)) := fun d os => cell_regrown (Y2.cell 1) d os
        have gb2 : ∀ d os, (grow (redrawn wr d) os).cell? ⟨w2.heap.size, 2, none⟩ = some (.int .u64 (n2.set.b.toNat : Int)) := fun d os => cell_regrown (Y2.cell 2) d os
        have gb3 : ∀ d os, (grow (redrawn wr d) os).cell? ⟨w2.heap.size, 3, none⟩ = some (.int .u64 (n2.set.c.toNat : Int)) := fun d os => cell_regrown (Y2.cell 3) d os
        have gb4 : ∀ d os, (grow (redrawn wr d) os).cell? ⟨w2.heap.size, 4, none⟩ = some (.int .u64 (n2.set.d.toNat : Int)) := fun d os => cell_regrown (Y2.cell 4) d os
        have gb5 : ∀ d os, (grow (redrawn wr d) os).cell? ⟨w2.heap.size, 5, none⟩ = some (.slice A2 n2.kids.length cap2) := fun d os => cell_regrown (Y2.cell 5) d os
        have gb6 : ∀ d os, (grow (redrawn wr d) os).cell? ⟨w2.heap.size, 6, none⟩ = some (.int .i64 n2.min) := fun d os => cell_regrown (Y2.cell 6) d os
        have gb7 : ∀ d os, (grow (redrawn wr d) os).cell? ⟨w2.heap.size, 7, none⟩ = some (.int .i64 n2.max) := fun d os => cell_regrown (Y2.cell 7) d os
        have gc0 : ∀ d os, (grow (redrawn wr d) os).cell? ⟨w3.heap.size, 0, none⟩ = some (.int .i64 n3.kind) := fun d os => cell_regrown (Y3.cell 0) d os
        have gc1 : ∀ d os, (grow (redrawn wr d) os).cell? ⟨w3.heap.size, 1, none⟩ = some (.int .u64 (n3.set.a.toNat : Int)) := fun d os => cell_regrown (Y3.cell 1) d os
        have gc2 : ∀ d os, (grow (redrawn wr d) os).cell? ⟨w3.heap.size, 2, none⟩ = some (.int .u64 (n3.set.b.toNat : Int)) := fun d os => cell_regrown (Y3.cell 2) d os
        have gc3 : ∀ d os, (grow (redrawn wr d) os).cell? ⟨w3.heap.size, 3, none⟩ = some (.int .u64 (n3.set.c.toNat : Int)) := fun d os => cell_regrown (Y3.cell 3) d os
        have gc4 : ∀ d os, (grow (redrawn wr d) os).cell? ⟨w3.heap.size, 4, none⟩ = some (.int .u64 (n3.set.d.toNat : Int)) := fun d os => cell_regrown (Y3.cell 4) d os
        have gc5 : ∀ d os, (grow (redrawn wr d) os).cell? ⟨w3.heap.size, 5, none⟩ = some (.slice A3 n3.kids.length cap3) := fun d os => cell_regrown (Y3.cell 5) d os
        have gc6 : ∀ d os, (grow (redrawn wr d) os).cell? ⟨w3.heap.size, 6, none⟩ = some (.int .i64 n3.min) := fun d os => cell_regrown (Y3.cell 6) d os
        have gc7 : ∀ d os, (grow (redrawn wr d) os).cell? ⟨w3.heap.size, 7, none⟩ = some (.int .i64 n3.max) := fun d os => cell_regrown (Y3.cell 7) d os
        have gd0 : ∀ d os, (grow (redrawn wr d) os).cell? ⟨w4.heap.size, 0, none⟩ = some (.int .i64 n4.kind) := fun d os => cell_regrown (Y4.cell 0) d os
        have gd1 : ∀ d os, (grow (redrawn wr d) os).cell? ⟨w4.heap.size, 1, none⟩ = some (.int .u64 (n4.set.a.toNat : Int)) := fun d os => cell_regrown (Y4.cell 1) d os
        have gd2 : ∀ d os, (grow (redrawn wr d) os).cell? ⟨w4.heap.size, 2, none⟩ = some (.int .u64 (n4.set.b.toNat : Int)) := fun d os => cell_regrown (Y4.cell 2) d os
        have gd3 : ∀ d os, (grow (redrawn wr d) os).cell? ⟨w4.heap.size, 3, none⟩ = some (.int .u64 (n4.set.c.toNat : Int)) := fun d os => cell_regrown (Y4.cell 3) d os
        have gd4 : ∀ d os, (grow (redrawn wr d) os).cell? ⟨w4.heap.size, 4, none⟩ = some (.int .u64 (n4.set.d.toNat : Int)) := fun d os => cell_regrown (Y4.cell 4) d os
        have gd5 : ∀ d os, (grow (redrawn wr d) os).cell? ⟨w4.heap.size, 5, none⟩ = some (.slice A4 n4.kids.length cap4) := fun d os => cell_regrown (Y4.cell 5) d os
        have gd6 : ∀ d os, (grow (redrawn wr d) os).cell? ⟨w4.heap.size, 6, none⟩ = some (.int .i64 n4.min) := fun d os => cell_regrown (Y4.cell 6) d os
        have gd7 : ∀ d os, (grow (redrawn wr d) os).cell? ⟨w4.heap.size, 7, none⟩ = some (.int .i64 n4.max) := fun d os => cell_regrown (Y4.cell 7) d os
        clear Y1 Y2 Y3 Y4 hA3 hA4 zx hb hbg HA
        generalize someB n1 n2 x.data.toList (x.size + 1) = st at *
        generalize matchB n1 x.data.toList = va at *
        generalize matchB n2 x.data.toList = vb at *
        cases st <;> cases va <;> cases vb
        all_goals
          go_wp2
          (refine wp_region_quiet_below (by kernel_rfl) (by kernel_rfl) ?_; (repeat (first | go_big_quiet_step ((first | (go_at_call 24; first | with_reducible exact C3.out _ _ | with_reducible exact C4.out _ _ | with_reducible exact C1.out _ _ | with_reducible exact C2.out _ _) | (go_at_call 20; with_reducible exact C20.out _ _))) | quiet_step ((first | (go_at_call 24; first | with_reducible exact C3.out _ _ | with_reducible exact C4.out _ _ | with_reducible exact C1.out _ _ | with_reducible exact C2.out _ _) | (go_at_call 20; with_reducible exact C20.out _ _))))); refine wpQuiet_nil ?_; intro _ hw'; obtain ⟨⟨nq, osq⟩, hw''⟩ := hw'; subst hw'')
          have HBX := hid_mk (BX6.out.trans ((HB.out.trans ((below_regrown wr nq osq).mono HB.out.size)).mono BX6.out.size))
          generalize grow (redrawn wr nq) osq = V at *
          go_wp2
          exact bodyPost_ret (v := .bool true) (by simp [results, Tryd.results7, go_sem]) rfl ⟨rfl, HBX.out⟩
end Go.Proofs.YthgcefppeaopkaaDoor
