/- The law MatchTimes walked. -/
import Derived.Test.YthgcefppeaopkaaDoorPartsL
namespace Go.Proofs.YthgcefppeaopkaaDoor
open Go Go.RowKit Go.Sort
set_option maxRecDepth 100000
set_option linter.unusedSimpArgs false
set_option linter.unusedVariables false
set_option maxHeartbeats 4000000
theorem times_facts (l : List UInt8) (c : Nat) (hl : l.length ≤ 40) (hc : c ≤ 9) {n1 n2 n3 n4 n5 : Node} {e1 e2 e3 e4 e5 : Int} {p1 p2 p3 p4 p5 : Nat} (h1 : Rx.parse (Rx.txMany l c) = (n1, e1, p1)) (h2 : Rx.parse (Rx.txTen l c) = (n2, e2, p2))
    (h3 : Rx.parse (Rx.txBoth l c) = (n3, e3, p3)) (h4 : Rx.parse (40 :: 40 :: (l ++ [41, 41])) = (n4, e4, p4)) (h5 : Rx.parse l = (n5, e5, p5)) :
    e4 ≠ 0 ∨ (e4 = 0 ∧ e5 ≠ 0) ∨ (e4 = 0 ∧ e5 = 0 ∧ e1 = 0 ∧ e2 = 0 ∧ e3 = 0 ∧ ∀ x, matchB n3 x = matchB n1 x ∧ (matchB n2 x = true → matchB n1 x = true)) := by
  by_cases z4 : e4 = 0
  case neg => exact Or.inl z4
  by_cases z5 : e5 = 0
  case neg => exact Or.inr (Or.inl ⟨z4, z5⟩)
  subst z4 z5
  obtain ⟨a, b, d, q1, q2, q3, ra, rb, rd, hac, hab⟩ := Rx.times_ok hl hc (by rw [h4]) (by rw [h5])
  rw [h1] at q1
  rw [h2] at q2
  rw [h3] at q3
  obtain ⟨rfl, rfl, -⟩ : n1 = a ∧ e1 = 0 ∧ p1 = 0 := by simpa using q1
  obtain ⟨rfl, rfl, -⟩ : n2 = b ∧ e2 = 0 ∧ p2 = 0 := by simpa using q2
  obtain ⟨rfl, rfl, -⟩ : n3 = d ∧ e3 = 0 ∧ p3 = 0 := by simpa using q3
  refine Or.inr (Or.inr ⟨rfl, rfl, rfl, rfl, rfl, fun x => ⟨?_, fun h => ?_⟩⟩)
  · rw [Bool.eq_iff_iff, matchB_iff rd, matchB_iff ra, hac]
  · rw [matchB_iff ra]; exact hab x ((matchB_iff rb x).1 h)
/-- a digit cut out of all of them -/
theorem digit_cut (c : Nat) (hc : c ≤ 9) : ((ByteArray.mk #[48, 49, 50, 51, 52, 53, 54, 55, 56, 57]).extract c (c + 1)).data.toList = [UInt8.ofNat (48 + c)] := by
  have key : ∀ c : Fin 10, ((ByteArray.mk #[48, 49, 50, 51, 52, 53, 54, 55, 56, 57]).extract c.val (c.val + 1)).data.toList = [UInt8.ofNat (48 + c.val)] := by decide +kernel
  exact key ⟨c, by omega⟩
theorem u8_lo {v : Int} (h : (Lit.int .u8 v).wf = true) : 0 ≤ v := by
  simp only [Lit.wf, Bool.and_eq_true, decide_eq_true_eq] at h
  exact h.1
theorem u8_hi {v : Int} (h : (Lit.int .u8 v).wf = true) : v ≤ 255 := by
  simp only [Lit.wf, Bool.and_eq_true, decide_eq_true_eq] at h
  exact h.2
theorem times_any (s : ByteArray) (n : Int) (x : ByteArray) (w : World) (hs : s.size ≤ maxLen) (hn0 : 0 ≤ n) (hn1 : n ≤ 255) (hx : x.size ≤ maxLen) (hT : TabW w) : Calls Tryd.prog 8 #[.string s, .int .u8 n, .string x] w (RetG (.bool true) w) := by
  obtain ⟨c, rfl⟩ : ∃ c : Nat, n = (c : Int) := ⟨n.toNat, by omega⟩
  have HT := hid_mk hT
  have HW := hide (fun w hT => works15_any w hT)
  unfold maxLen at hs hx
  by_cases qs : 40 < s.size
  · have qs' : decide ((40 : Int) < (s.size : Int)) = true := by simp; omega
    clear hT
    go_enter Tryd.func8, Tryd.ntmps8
    go_wp2_with fail
    refine (unhide HW _ HT.out).mono ?_
    rintro y w1 ⟨rfl, hb1⟩
    have HB := hid_mk hb1
    clear hb1
    go_wp2
    exact bodyPost_ret (v := .bool true) (by simp [results, Tryd.results8, go_sem]) rfl ⟨rfl, HB.out⟩
  have qs' : decide ((40 : Int) < (s.size : Int)) = false := by simp; omega
  by_cases qx : 20 < x.size
  · have qx' : decide ((20 : Int) < (x.size : Int)) = true := by simp; omega
    clear hT
    go_enter Tryd.func8, Tryd.ntmps8
    go_wp2_with fail
    refine (unhide HW _ HT.out).mono ?_
    rintro y w1 ⟨rfl, hb1⟩
    have HB := hid_mk hb1
    clear hb1
    go_wp2
    exact bodyPost_ret (v := .bool true) (by simp [results, Tryd.results8, go_sem]) rfl ⟨rfl, HB.out⟩
  have qx' : decide ((20 : Int) < (x.size : Int)) = false := by simp; omega
  by_cases qc : 9 < c
  · have qc' : decide ((9 : Int) < (c : Int)) = true := by simp; omega
    clear hT
    go_enter Tryd.func8, Tryd.ntmps8
    go_wp2_with fail
    refine (unhide HW _ HT.out).mono ?_
    rintro y w1 ⟨rfl, hb1⟩
    have HB := hid_mk hb1
    clear hb1
    go_wp2
    exact bodyPost_ret (v := .bool true) (by simp [results, Tryd.results8, go_sem]) rfl ⟨rfl, HB.out⟩
  have qc' : decide ((9 : Int) < (c : Int)) = false := by simp; omega
  have HD := hid_mk (digit_cut c (by omega))
  have HDS : Hid (((ByteArray.mk #[48, 49, 50, 51, 52, 53, 54, 55, 56, 57]).extract c (c + 1)).size = 1) := hid_mk ((len_data _).symm.trans (by rw [HD.out]; rfl))
  have HP1 := hide (fun w hT => parse_any (ByteArray.mk #[40] ++ s ++ ByteArray.mk #[41, 123] ++ (ByteArray.mk #[48, 49, 50, 51, 52, 53, 54, 55, 56, 57]).extract c (c + 1) ++ ByteArray.mk #[44, 125]) w (by unfold maxLen; simp only [ByteArray.size_append, HDS.out, show (ByteArray.mk #[40]).size = 1 from rfl, show (ByteArray.mk #[41, 123]).size = 2 from rfl, show (ByteArray.mk #[44, 125]).size = 2 from rfl]; omega) hT)
  rw [show (ByteArray.mk #[40] ++ s ++ ByteArray.mk #[41, 123] ++ (ByteArray.mk #[48, 49, 50, 51, 52, 53, 54, 55, 56, 57]).extract c (c + 1) ++ ByteArray.mk #[44, 125]).data.toList = Rx.txMany s.data.toList c by simp only [ByteArray.data_append, Array.toList_append, HD.out]; simp [Rx.txMany]] at HP1
  have HP2 := hide (fun w hT => parse_any (ByteArray.mk #[40] ++ s ++ ByteArray.mk #[41, 123] ++ (ByteArray.mk #[48, 49, 50, 51, 52, 53, 54, 55, 56, 57]).extract c (c + 1) ++ ByteArray.mk #[44, 49, 48, 125]) w (by unfold maxLen; simp only [ByteArray.size_append, HDS.out, show (ByteArray.mk #[40]).size = 1 from rfl, show (ByteArray.mk #[41, 123]).size = 2 from rfl, show (ByteArray.mk #[44, 49, 48, 125]).size = 4 from rfl]; omega) hT)
  rw [show (ByteArray.mk #[40] ++ s ++ ByteArray.mk #[41, 123] ++ (ByteArray.mk #[48, 49, 50, 51, 52, 53, 54, 55, 56, 57]).extract c (c + 1) ++ ByteArray.mk #[44, 49, 48, 125]).data.toList = Rx.txTen s.data.toList c by simp only [ByteArray.data_append, Array.toList_append, HD.out]; simp [Rx.txTen]] at HP2
  have HP3 := hide (fun w hT => parse_any (ByteArray.mk #[40, 40] ++ s ++ ByteArray.mk #[41, 42, 41, 40] ++ s ++ ByteArray.mk #[41, 123] ++ (ByteArray.mk #[48, 49, 50, 51, 52, 53, 54, 55, 56, 57]).extract c (c + 1) ++ ByteArray.mk #[44, 49, 48, 125]) w (by unfold maxLen; simp only [ByteArray.size_append, HDS.out, show (ByteArray.mk #[40, 40]).size = 2 from rfl, show (ByteArray.mk #[41, 42, 41, 40]).size = 4 from rfl, show (ByteArray.mk #[41, 123]).size = 2 from rfl, show (ByteArray.mk #[44, 49, 48, 125]).size = 4 from rfl]; omega) hT)
  rw [show (ByteArray.mk #[40, 40] ++ s ++ ByteArray.mk #[41, 42, 41, 40] ++ s ++ ByteArray.mk #[41, 123] ++ (ByteArray.mk #[48, 49, 50, 51, 52, 53, 54, 55, 56, 57]).extract c (c + 1) ++ ByteArray.mk #[44, 49, 48, 125]).data.toList = Rx.txBoth s.data.toList c by simp only [ByteArray.data_append, Array.toList_append, HD.out]; simp [Rx.txBoth]] at HP3
  have HP4 := hide (fun w hT => parse_any (ByteArray.mk #[40, 40] ++ s ++ ByteArray.mk #[41, 41]) w (by unfold maxLen; simp only [ByteArray.size_append, show (ByteArray.mk #[40, 40]).size = 2 from rfl, show (ByteArray.mk #[41, 41]).size = 2 from rfl]; omega) hT)
  rw [show (ByteArray.mk #[40, 40] ++ s ++ ByteArray.mk #[41, 41]).data.toList = 40 :: 40 :: (s.data.toList ++ [41, 41]) by simp [ByteArray.data_append]] at HP4
  have HP5 := hide (fun w hT => parse_any (s) w (by unfold maxLen; omega) hT)
  obtain ⟨⟨n1, e1, p1⟩, h1⟩ : ∃ r, Rx.parse (Rx.txMany s.data.toList c) = r := ⟨_, rfl⟩
  obtain ⟨⟨n2, e2, p2⟩, h2⟩ : ∃ r, Rx.parse (Rx.txTen s.data.toList c) = r := ⟨_, rfl⟩
  obtain ⟨⟨n3, e3, p3⟩, h3⟩ : ∃ r, Rx.parse (Rx.txBoth s.data.toList c) = r := ⟨_, rfl⟩
  obtain ⟨⟨n4, e4, p4⟩, h4⟩ : ∃ r, Rx.parse (40 :: 40 :: (s.data.toList ++ [41, 41])) = r := ⟨_, rfl⟩
  obtain ⟨⟨n5, e5, p5⟩, h5⟩ : ∃ r, Rx.parse (s.data.toList) = r := ⟨_, rfl⟩
  have HF := hid_mk (times_facts s.data.toList c (by rw [len_data]; omega) (by omega) h1 h2 h3 h4 h5)
  rw [h1] at HP1
  have L1 := lens_parse h1
  have HM1 := hide (fun (u : ByteArray) (hu : u.size ≤ 90000) (A : Option Addr) (ca : Nat) (G : Nat → Prop) (w : World) (hG : ∀ x, G x → x < w.heap.size) (hsa : SlOk A n1.kids.length ca) (hk : KidsAt G w A n1.kids) => match_any u n1 L1 hu A ca G w hG hsa hk)
  rw [h2] at HP2
  have L2 := lens_parse h2
  have HM2 := hide (fun (u : ByteArray) (hu : u.size ≤ 90000) (A : Option Addr) (ca : Nat) (G : Nat → Prop) (w : World) (hG : ∀ x, G x → x < w.heap.size) (hsa : SlOk A n2.kids.length ca) (hk : KidsAt G w A n2.kids) => match_any u n2 L2 hu A ca G w hG hsa hk)
  rw [h3] at HP3
  have L3 := lens_parse h3
  have HM3 := hide (fun (u : ByteArray) (hu : u.size ≤ 90000) (A : Option Addr) (ca : Nat) (G : Nat → Prop) (w : World) (hG : ∀ x, G x → x < w.heap.size) (hsa : SlOk A n3.kids.length ca) (hk : KidsAt G w A n3.kids) => match_any u n3 L3 hu A ca G w hG hsa hk)
  rw [h4] at HP4
  rw [h5] at HP5
  have hc9 : c ≤ 9 := by omega
  have hc9' : (c : Int) ≤ 9 := by omega
  clear hT h1 h2 h3 h4 h5 L1 L2 L3 HD HDS
  go_enter Tryd.func8, Tryd.ntmps8
  go_wp2_with fail
  refine (unhide HP1 _ HT.out).mono ?_
  rintro y w1 ⟨hb1, A1, cap1, rfl, hsl1, hk1⟩
  dsimp only at hk1 hsl1
  go_wp2_with fail
  obtain ⟨V1, hV1⟩ : ∃ V, V = (w1.alloc (.cells #[.int .i64 (n1.kind), .int .u64 ((n1.set).a.toNat : Int), .int .u64 ((n1.set).b.toNat : Int), .int .u64 ((n1.set).c.toNat : Int), .int .u64 ((n1.set).d.toNat : Int), .slice (A1) (n1.kids.length) (cap1), .int .i64 (n1.min), .int .i64 (n1.max)] 28)).alloc (.cells #[.int .i64 e1, .int .i64 (p1 : Nat)] 31) := ⟨_, rfl⟩
  rw [← hV1]
  obtain ⟨b1, x1, f1, k1⟩ := par_two hV1 hb1 hk1
  have BX1 := hid_mk b1
  have X11 := hid_mk x1
  have K11 := hid_mk k1
  have F11 := hid_mk f1
  clear hV1 hb1 hk1 b1 x1 f1 k1 
  refine (unhide HP2 _ (HT.out.below BX1.out)).mono ?_
  rintro y w2 ⟨hb2, A2, cap2, rfl, hsl2, hk2⟩
  dsimp only at hk2 hsl2
  go_wp2_with fail
  obtain ⟨V2, hV2⟩ : ∃ V, V = (w2.alloc (.cells #[.int .i64 (n2.kind), .int .u64 ((n2.set).a.toNat : Int), .int .u64 ((n2.set).b.toNat : Int), .int .u64 ((n2.set).c.toNat : Int), .int .u64 ((n2.set).d.toNat : Int), .slice (A2) (n2.kids.length) (cap2), .int .i64 (n2.min), .int .i64 (n2.max)] 28)).alloc (.cells #[.int .i64 e2, .int .i64 (p2 : Nat)] 31) := ⟨_, rfl⟩
  rw [← hV2]
  obtain ⟨b2, x2, f2, k2⟩ := par_two hV2 hb2 hk2
  have BX2 := hid_mk (BX1.out.trans (b2.mono BX1.out.size))
  have X12 := hid_mk (X11.out.call b2)
  have K12 := hid_mk (kids_on K11.out b2)
  have F12 := hid_mk (F11.out.call b2)
  have X22 := hid_mk x2
  have K22 := hid_mk k2
  have F22 := hid_mk f2
  clear hV2 hb2 hk2 b2 x2 f2 k2 X11 K11 F11 BX1
  refine (unhide HP3 _ (HT.out.below BX2.out)).mono ?_
  rintro y w3 ⟨hb3, A3, cap3, rfl, hsl3, hk3⟩
  dsimp only at hk3 hsl3
  go_wp2_with fail
  obtain ⟨V3, hV3⟩ : ∃ V, V = (w3.alloc (.cells #[.int .i64 (n3.kind), .int .u64 ((n3.set).a.toNat : Int), .int .u64 ((n3.set).b.toNat : Int), .int .u64 ((n3.set).c.toNat : Int), .int .u64 ((n3.set).d.toNat : Int), .slice (A3) (n3.kids.length) (cap3), .int .i64 (n3.min), .int .i64 (n3.max)] 28)).alloc (.cells #[.int .i64 e3, .int .i64 (p3 : Nat)] 31) := ⟨_, rfl⟩
  rw [← hV3]
  obtain ⟨b3, x3, f3, k3⟩ := par_two hV3 hb3 hk3
  have BX3 := hid_mk (BX2.out.trans (b3.mono BX2.out.size))
  have X13 := hid_mk (X12.out.call b3)
  have K13 := hid_mk (kids_on K12.out b3)
  have F13 := hid_mk (F12.out.call b3)
  have X23 := hid_mk (X22.out.call b3)
  have K23 := hid_mk (kids_on K22.out b3)
  have F23 := hid_mk (F22.out.call b3)
  have X33 := hid_mk x3
  have K33 := hid_mk k3
  have F33 := hid_mk f3
  clear hV3 hb3 hk3 b3 x3 f3 k3 X12 K12 F12 X22 K22 F22 BX2
  refine (unhide HP4 _ (HT.out.below BX3.out)).mono ?_
  rintro y w4 ⟨hb4, A4, cap4, rfl, hsl4, hk4⟩
  dsimp only at hk4 hsl4
  go_wp2_with fail
  obtain ⟨V4, hV4⟩ : ∃ V, V = (w4.alloc (.cells #[.int .i64 (n4.kind), .int .u64 ((n4.set).a.toNat : Int), .int .u64 ((n4.set).b.toNat : Int), .int .u64 ((n4.set).c.toNat : Int), .int .u64 ((n4.set).d.toNat : Int), .slice (A4) (n4.kids.length) (cap4), .int .i64 (n4.min), .int .i64 (n4.max)] 28)).alloc (.cells #[.int .i64 e4, .int .i64 (p4 : Nat)] 31) := ⟨_, rfl⟩
  rw [← hV4]
  obtain ⟨b4, x4, f4, k4⟩ := par_two hV4 hb4 hk4
  have BX4 := hid_mk (BX3.out.trans (b4.mono BX3.out.size))
  have X14 := hid_mk (X13.out.call b4)
  have K14 := hid_mk (kids_on K13.out b4)
  have F14 := hid_mk (F13.out.call b4)
  have X24 := hid_mk (X23.out.call b4)
  have K24 := hid_mk (kids_on K23.out b4)
  have F24 := hid_mk (F23.out.call b4)
  have X34 := hid_mk (X33.out.call b4)
  have K34 := hid_mk (kids_on K33.out b4)
  have F34 := hid_mk (F33.out.call b4)
  have F44 := hid_mk f4
  clear hV4 hb4 hk4 b4 x4 f4 k4 X13 K13 F13 X23 K23 F23 X33 K33 F33 BX3
  refine (unhide HP5 _ (HT.out.below BX4.out)).mono ?_
  rintro y w5 ⟨hb5, A5, cap5, rfl, hsl5, hk5⟩
  dsimp only at hk5 hsl5
  obtain ⟨V5, hV5⟩ : ∃ V, V = (w5.alloc (.cells #[.int .i64 (n5.kind), .int .u64 ((n5.set).a.toNat : Int), .int .u64 ((n5.set).b.toNat : Int), .int .u64 ((n5.set).c.toNat : Int), .int .u64 ((n5.set).d.toNat : Int), .slice (A5) (n5.kids.length) (cap5), .int .i64 (n5.min), .int .i64 (n5.max)] 28)).alloc (.cells #[.int .i64 e5, .int .i64 (p5 : Nat)] 31) := ⟨_, rfl⟩
  obtain ⟨b5, x5, f5, k5⟩ := par_two hV5 hb5 hk5
  have BX5 := hid_mk (BX4.out.trans (b5.mono BX4.out.size))
  have X15 := hid_mk (X14.out.call b5)
  have K15 := hid_mk (kids_on K14.out b5)
  have F15 := hid_mk (F14.out.call b5)
  have X25 := hid_mk (X24.out.call b5)
  have K25 := hid_mk (kids_on K24.out b5)
  have F25 := hid_mk (F24.out.call b5)
  have X35 := hid_mk (X34.out.call b5)
  have K35 := hid_mk (kids_on K34.out b5)
  have F35 := hid_mk (F34.out.call b5)
  have F45 := hid_mk (F44.out.call b5)
  have F55 := hid_mk f5
  have HV := hid_mk hV5
  clear hV5 hb5 hk5 b5 x5 f5 k5 X14 K14 F14 X24 K24 F24 X34 K34 F34 F44 BX4
  rcases HF.out with g | g | g
  · clear HF
    have hne := g; clear g
    have hne' : (e4 != 0) = true := by simpa using hne
    have c4 : V5.cell? ⟨w4.heap.size + 1, 0, none⟩ = some (.int .i64 e4) := F45.out.cell 0
    clear hne
    go_wp2_with (rw [← HV.out])
    refine (unhide HW _ (HT.out.below BX5.out)).mono ?_
    rintro y u ⟨rfl, hbu⟩
    have BU := hid_mk (BX5.out.trans (hbu.mono BX5.out.size))
    clear hbu
    go_wp2
    exact bodyPost_ret (v := .bool true) (by simp [results, Tryd.results8, go_sem]) rfl ⟨rfl, BU.out⟩
  · clear HF
    obtain ⟨rfl, hne⟩ := g
    have hne' : (e5 != 0) = true := by simpa using hne
    have c4 : V5.cell? ⟨w4.heap.size + 1, 0, none⟩ = some (.int .i64 0) := F45.out.cell 0
    have c5 : V5.cell? ⟨w5.heap.size + 1, 0, none⟩ = some (.int .i64 e5) := F55.out.cell 0
    clear hne
    go_wp2_with (rw [← HV.out])
    refine (unhide HW _ (HT.out.below BX5.out)).mono ?_
    rintro y u ⟨rfl, hbu⟩
    have BU := hid_mk (BX5.out.trans (hbu.mono BX5.out.size))
    clear hbu
    go_wp2
    exact bodyPost_ret (v := .bool true) (by simp [results, Tryd.results8, go_sem]) rfl ⟨rfl, BU.out⟩
  · clear HF
    obtain ⟨rfl, rfl, rfl, rfl, rfl, hall⟩ := g
    have HA := hid_mk (hall x.data.toList)
    have c1 : V5.cell? ⟨w1.heap.size + 1, 0, none⟩ = some (.int .i64 0) := F15.out.cell 0
    have c2 : V5.cell? ⟨w2.heap.size + 1, 0, none⟩ = some (.int .i64 0) := F25.out.cell 0
    have c3 : V5.cell? ⟨w3.heap.size + 1, 0, none⟩ = some (.int .i64 0) := F35.out.cell 0
    have c4 : V5.cell? ⟨w4.heap.size + 1, 0, none⟩ = some (.int .i64 0) := F45.out.cell 0
    have c5 : V5.cell? ⟨w5.heap.size + 1, 0, none⟩ = some (.int .i64 0) := F55.out.cell 0
    clear hall
    have hbg : ∀ d os, Below V5.heap.size V5 (grow (redrawn V5 d) os) := fun d os => below_regrown V5 d os
    have zx : x.size ≤ 90000 := by omega
    obtain ⟨hA3, hA4⟩ := HA.out
    have C1 : Hid (∀ d os, Calls Tryd.prog 24 #[.agg #[.int .i64 (n1.kind), .int .u64 ((n1.set).a.toNat : Int), .int .u64 ((n1.set).b.toNat : Int), .int .u64 ((n1.set).c.toNat : Int), .int .u64 ((n1.set).d.toNat : Int), .slice (A1) (n1.kids.length) (cap1), .int .i64 (n1.min), .int .i64 (n1.max)], .string (x)] (grow (redrawn V5 d) os) (fun e w'' => e = .returned (.bool (matchB n1 x.data.toList)) ∧ ∃ p : Regrown, w'' = grow (redrawn V5 p.d) p.os)) := hid_mk (fun d os => by
      have h := unhide HM1 (x) (zx) A1 cap1 (fun b => b < V5.heap.size) (grow (redrawn V5 d) os) (fun b hb' => Nat.lt_of_lt_of_le hb' (hbg d os).size) hsl1 (kids_two K15.out (hbg d os) (fun b h => h))
      skip
      exact retG_qq h)
    have C2 : Hid (∀ d os, Calls Tryd.prog 24 #[.agg #[.int .i64 (n2.kind), .int .u64 ((n2.set).a.toNat : Int), .int .u64 ((n2.set).b.toNat : Int), .int .u64 ((n2.set).c.toNat : Int), .int .u64 ((n2.set).d.toNat : Int), .slice (A2) (n2.kids.length) (cap2), .int .i64 (n2.min), .int .i64 (n2.max)], .string (x)] (grow (redrawn V5 d) os) (fun e w'' => e = .returned (.bool (matchB n2 x.data.toList)) ∧ ∃ p : Regrown, w'' = grow (redrawn V5 p.d) p.os)) := hid_mk (fun d os => by
      have h := unhide HM2 (x) (zx) A2 cap2 (fun b => b < V5.heap.size) (grow (redrawn V5 d) os) (fun b hb' => Nat.lt_of_lt_of_le hb' (hbg d os).size) hsl2 (kids_two K25.out (hbg d os) (fun b h => h))
      skip
      exact retG_qq h)
    have C3 : Hid (∀ d os, Calls Tryd.prog 24 #[.agg #[.int .i64 (n3.kind), .int .u64 ((n3.set).a.toNat : Int), .int .u64 ((n3.set).b.toNat : Int), .int .u64 ((n3.set).c.toNat : Int), .int .u64 ((n3.set).d.toNat : Int), .slice (A3) (n3.kids.length) (cap3), .int .i64 (n3.min), .int .i64 (n3.max)], .string (x)] (grow (redrawn V5 d) os) (fun e w'' => e = .returned (.bool (matchB n1 x.data.toList)) ∧ ∃ p : Regrown, w'' = grow (redrawn V5 p.d) p.os)) := hid_mk (fun d os => by
      have h := unhide HM3 (x) (zx) A3 cap3 (fun b => b < V5.heap.size) (grow (redrawn V5 d) os) (fun b hb' => Nat.lt_of_lt_of_le hb' (hbg d os).size) hsl3 (kids_two K35.out (hbg d os) (fun b h => h))
      rw [hA3] at h
      exact retG_qq h)
    have C20 : Hid (∀ d os, Calls Tryd.prog 20 #[] (grow (redrawn V5 d) os) (fun e w'' => e = .returned (.bool true) ∧ ∃ p : Regrown, w'' = grow (redrawn V5 p.d) p.os)) := hid_mk (fun d os => retG_qq (unhide HW _ (HT.out.below (BX5.out.trans ((hbg d os).mono BX5.out.size)))))
    have ga0 : ∀ d os, (grow (redrawn V5 d) os).cell? ⟨w1.heap.size, 0, none⟩ = some (.int .i64 n1.kind) := fun d os => cell_regrown (X15.out.cell 0) d os
    have ga1 : ∀ d os, (grow (redrawn V5 d) os).cell? ⟨w1.heap.size, 1, none⟩ = some (.int .u64 (n1.set.a.toNat : Int)) := fun d os => cell_regrown (X15.out.cell 1) d os
    have ga2 : ∀ d os, (grow (redrawn V5 d) os).cell? ⟨w1.heap.size, 2, none⟩ = some (.int .u64 (n1.set.b.toNat : Int)) := fun d os => cell_regrown (X15.out.cell 2) d os
    have ga3 : ∀ d os, (grow (redrawn V5 d) os).cell? ⟨w1.heap.size, 3, none⟩ = some (.int .u64 (n1.set.c.toNat : Int)) := fun d os => cell_regrown (X15.out.cell 3) d os
    have ga4 : ∀ d os, (grow (redrawn V5 d) os).cell? ⟨w1.heap.size, 4, none⟩ = some (.int .u64 (n1.set.d.toNat : Int)) := fun d os => cell_regrown (X15.out.cell 4) d os
    have ga5 : ∀ d os, (grow (redrawn V5 d) os).cell? ⟨w1.heap.size, 5, none⟩ = some (.slice A1 n1.kids.length cap1) := fun d os => cell_regrown (X15.out.cell 5) d os
    have ga6 : ∀ d os, (grow (redrawn V5 d) os).cell? ⟨w1.heap.size, 6, none⟩ = some (.int .i64 n1.min) := fun d os => cell_regrown (X15.out.cell 6) d os
    have ga7 : ∀ d os, (grow (redrawn V5 d) os).cell? ⟨w1.heap.size, 7, none⟩ = some (.int .i64 n1.max) := fun d os => cell_regrown (X15.out.cell 7) d os
    have gb0 : ∀ d os, (grow (redrawn V5 d) os).cell? ⟨w2.heap.size, 0, none⟩ = some (.int .i64 n2.kind) := fun d os => cell_regrown (X25.out.cell 0) d os
    have gb1 : ∀ d os, (grow (redrawn V5 d) os).cell? ⟨w2.heap.size, 1, none⟩ = some (.int .u64 (n2.set.a.toNat : Int)) := fun d os => cell_regrown (X25.out.cell 1) d os
    have gb2 : ∀ d os, (grow (redrawn V5 d) os).cell? ⟨w2.heap.size, 2, none⟩ = some (.int .u64 (n2.set.b.toNat : Int)) := fun d os => cell_regrown (X25.out.cell 2) d os
    have gb3 : ∀ d os, (grow (redrawn V5 d) os).cell? ⟨w2.heap.size, 3, none⟩ = some (.int .u64 (n2.set.c.toNat : Int)) := fun d os => cell_regrown (X25.out.cell 3) d os
    have gb4 : ∀ d os, (grow (redrawn V5 d) os).cell? ⟨w2.heap.size, 4, none⟩ = some (.int .u64 (n2.set.d.toNat : Int)) := fun d os => cell_regrown (X25.out.cell 4) d os
    have gb5 : ∀ d os, (grow (redrawn V5 d) os).cell? ⟨w2.heap.size, 5, none⟩ = some (.slice A2 n2.kids.length cap2) := fun d os => cell_regrown (X25.out.cell 5) d os
    have gb6 : ∀ d os, (grow (redrawn V5 d) os).cell? ⟨w2.heap.size, 6, none⟩ = some (.int .i64 n2.min) := fun d os => cell_regrown (X25.out.cell 6) d os
    have gb7 : ∀ d os, (grow (redrawn V5 d) os).cell? ⟨w2.heap.size, 7, none⟩ = some (.int .i64 n2.max) := fun d os => cell_regrown (X25.out.cell 7) d os
    have gc0 : ∀ d os, (grow (redrawn V5 d) os).cell? ⟨w3.heap.size, 0, none⟩ = some (.int .i64 n3.kind) := fun d os => cell_regrown (X35.out.cell 0) d os
    have gc1 : ∀ d os, (grow (redrawn V5 d) os).cell? ⟨w3.heap.size, 1, none⟩ = some (.int .u64 (n3.set.a.toNat : Int)) := fun d os => cell_regrown (X35.out.cell 1) d os
    have gc2 : ∀ d os, (grow (redrawn V5 d) os).cell? ⟨w3.heap.size, 2, none⟩ = some (.int .u64 (n3.set.b.toNat : Int)) := fun d os => cell_regrown (X35.out.cell 2) d os
    have gc3 : ∀ d os, (grow (redrawn V5 d) os).cell? ⟨w3.heap.size, 3, none⟩ = some (.int .u64 (n3.set.c.toNat : Int)) := fun d os => cell_regrown (X35.out.cell 3) d os
    have gc4 : ∀ d os, (grow (redrawn V5 d) os).cell? ⟨w3.heap.size, 4, none⟩ = some (.int .u64 (n3.set.d.toNat : Int)) := fun d os => cell_regrown (X35.out.cell 4) d os
    have gc5 : ∀ d os, (grow (redrawn V5 d) os).cell? ⟨w3.heap.size, 5, none⟩ = some (.slice A3 n3.kids.length cap3) := fun d os => cell_regrown (X35.out.cell 5) d os
    have gc6 : ∀ d os, (grow (redrawn V5 d) os).cell? ⟨w3.heap.size, 6, none⟩ = some (.int .i64 n3.min) := fun d os => cell_regrown (X35.out.cell 6) d os
    have gc7 : ∀ d os, (grow (redrawn V5 d) os).cell? ⟨w3.heap.size, 7, none⟩ = some (.int .i64 n3.max) := fun d os => cell_regrown (X35.out.cell 7) d os
    clear hA3 zx hbg HA
    generalize matchB n1 x.data.toList = va at *
    generalize matchB n2 x.data.toList = vb at *
    cases va <;> cases vb
    case false.true => exact absurd (hA4 rfl) (by decide)
    all_goals
      clear hA4
      go_wp2_with (rw [← HV.out])
      (refine wp_region_quiet_below (by kernel_rfl) (by kernel_rfl) ?_; (repeat (first | go_big_quiet_step ((first | (go_at_call 24; first | with_reducible exact C3.out _ _ | with_reducible exact C1.out _ _ | with_reducible exact C2.out _ _) | (go_at_call 20; with_reducible exact C20.out _ _))) | quiet_step ((first | (go_at_call 24; first | with_reducible exact C3.out _ _ | with_reducible exact C1.out _ _ | with_reducible exact C2.out _ _) | (go_at_call 20; with_reducible exact C20.out _ _))))); refine wpQuiet_nil ?_; intro _ hw'; obtain ⟨⟨nq, osq⟩, hw''⟩ := hw'; subst hw'')
      have HBX := hid_mk (BX5.out.trans ((below_regrown V5 nq osq).mono BX5.out.size))
      generalize grow (redrawn V5 nq) osq = V at *
      go_wp2
      exact bodyPost_ret (v := .bool true) (by simp [results, Tryd.results8, go_sem]) rfl ⟨rfl, HBX.out⟩
end Go.Proofs.YthgcefppeaopkaaDoor
