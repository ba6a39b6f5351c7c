/- The law RegexStands walked. -/
import Derived.Test.YthgcefppeaopkaaDoorRightW
import Derived.Test.YthgcefppeaopkaaDoorSameW
import Derived.Test.YthgcefppeaopkaaDoorStandT
import Derived.Test.YthgcefppeaopkaaDoorLaidT
namespace Go.Proofs.YthgcefppeaopkaaDoor
open Go Go.RowKit Go.Sort
set_option maxRecDepth 100000
set_option linter.unusedSimpArgs false
set_option linter.unusedVariables false
set_option maxHeartbeats 4000000
theorem stand_facts (l r : List UInt8) (hl : l.length ≤ 100) (hr : r.length ≤ 100) {n1 n2 n3 n4 : Node} {e1 e2 e3 e4 : Int} {p1 p2 p3 p4 : Nat} (h1 : Rx.parse l = (n1, e1, p1)) (h2 : Rx.parse (40 :: (l ++ [41])) = (n2, e2, p2)) (h3 : Rx.parse r = (n3, e3, p3)) (h4 : Rx.parse (l ++ 124 :: r) = (n4, e4, p4)) :
    (e1 ≠ 0 ∧ n1 = Rx.zero ∧ p1 ≤ l.length) ∨ (e1 = 0 ∧ Rx.right n1 = true ∧ ((e2 = 0 ∧ n2 = n1) ∨ e2 = 3) ∧ (e3 ≠ 0 ∨ (e3 = 0 ∧ e4 = 0 ∧ p4 = 0 ∧ n4.kind = 3 ∧ n4.kids.length = Rx.br n1 + Rx.br n3))) := by
  rcases Rx.parse_cases l with ⟨n, ha, hp, _⟩ | ⟨e, p, hp, he, hpl⟩
  · right
    rw [h1] at hp
    obtain ⟨rfl, rfl, rfl⟩ : n1 = n ∧ e1 = 0 ∧ p1 = 0 := by simpa using hp
    refine ⟨rfl, Rx.right_alt (Rx.right_atom 16) ha, ?_, ?_⟩
    · rcases Rx.paren ha with h | ⟨p, h⟩
      · rw [h2] at h
        obtain ⟨rfl, rfl, rfl⟩ : n2 = n1 ∧ e2 = 0 ∧ p2 = 0 := by simpa using h
        exact Or.inl ⟨rfl, rfl⟩
      · rw [h2] at h
        obtain ⟨rfl, rfl, rfl⟩ : n2 = Rx.zero ∧ e2 = 3 ∧ p2 = p := by simpa using h
        exact Or.inr rfl
    · rcases Rx.parse_cases r with ⟨m, hb, hq, _⟩ | ⟨e, q, hq, he, hql⟩
      · right
        rw [h3] at hq
        obtain ⟨rfl, rfl, rfl⟩ : n3 = m ∧ e3 = 0 ∧ p3 = 0 := by simpa using hq
        obtain ⟨d, hd, hk, hkl⟩ := Rx.bar ha hb (by omega)
        rw [h4] at hd
        obtain ⟨rfl, rfl, rfl⟩ : n4 = d ∧ e4 = 0 ∧ p4 = 0 := by simpa using hd
        exact ⟨rfl, rfl, rfl, hk, hkl⟩
      · left
        rw [h3] at hq
        obtain ⟨rfl, rfl, rfl⟩ : n3 = Rx.zero ∧ e3 = e ∧ p3 = q := by simpa using hq
        omega
  · left
    rw [h1] at hp
    obtain ⟨rfl, rfl, rfl⟩ : n1 = Rx.zero ∧ e1 = e ∧ p1 = p := by simpa using hp
    exact ⟨by omega, rfl, hpl⟩
/-- a parse's two boxes -/
theorem par_step {w w1 V : World} {n : Node} {A : Option Addr} {cap : Nat} {e p : Int} (hV : V = (w1.alloc (.cells #[.int .i64 (n.kind), .int .u64 ((n.set).a.toNat : Int), .int .u64 ((n.set).b.toNat : Int), .int .u64 ((n.set).c.toNat : Int), .int .u64 ((n.set).d.toNat : Int), .slice (A) (n.kids.length) (cap), .int .i64 (n.min), .int .i64 (n.max)] 28)).alloc (.cells #[.int .i64 e, .int .i64 p] 31)) (hb : Below w.heap.size w w1) (hk : KidsAt (New w w1) w1 A n.kids) :
    Below w.heap.size w V ∧ Blk V w1.heap.size #[.int .i64 (n.kind), .int .u64 ((n.set).a.toNat : Int), .int .u64 ((n.set).b.toNat : Int), .int .u64 ((n.set).c.toNat : Int), .int .u64 ((n.set).d.toNat : Int), .slice (A) (n.kids.length) (cap), .int .i64 (n.min), .int .i64 (n.max)] 28 ∧ Blk V (w1.heap.size + 1) #[.int .i64 e, .int .i64 p] 31 ∧ KidsAt (fun b => b < V.heap.size) V A n.kids := by
  have hz := hb.size
  have h1 : Below w1.heap.size w1 V := by rw [hV]; exact (by repeat (first | with_reducible exact Below.refl _ _ | with_reducible assumption | with_reducible refine Below.setCell ?_ (by first | omega | (dsimp only; omega) | (simp <;> omega)) _ | with_reducible refine Below.alloc ?_ (by first | omega | (simp <;> omega)) _ | with_reducible refine below_drewN ?_ _ | with_reducible refine Below.drew ?_))
  refine ⟨hb.trans (h1.mono hz), ?_, ?_, kidsAt_keep (fun b hb' => h1.block b hb'.2) (fun b hb' => Nat.lt_of_lt_of_le hb'.2 h1.size) hk⟩
  · rw [hV]; exact Blk.alloc (Blk.new w1 _ _) _
  · rw [hV]; exact Blk.newAt (by simp)
theorem kids_up {w V : World} {A : Option Addr} {ns : List Node} (h : KidsAt (fun b => b < w.heap.size) w A ns) (hb : Below w.heap.size w V) : KidsAt (fun b => b < V.heap.size) V A ns :=
  kidsAt_keep (fun b hb' => hb.block b hb') (fun b hb' => Nat.lt_of_lt_of_le hb' hb.size) h
theorem stands_any (s t : ByteArray) (w : World) (hm : s.size ≤ maxLen) (hn : t.size ≤ maxLen) (hT : TabW w) : Calls Tryd.prog 4 #[.string s, .string t] w (RetG (.bool true) w) := by
  have HT := hid_mk hT
  have HW := hide (fun w hT => works_any w hT)
  unfold maxLen at hm hn
  by_cases hs : 100 < s.size
  · clear hT
    go_enter Tryd.func4, Tryd.ntmps4
    go_wp2_with fail
    refine (unhide HW _ HT.out).mono ?_
    rintro x w1 ⟨rfl, hb1⟩
    have HB := hid_mk hb1
    clear hb1
    go_wp2
    exact bodyPost_ret (v := .bool true) (by simp [results, Tryd.results4, go_sem]) rfl ⟨rfl, HB.out⟩
  have hs2 : decide ((100 : Int) < (s.size : Int)) = false := by simp; omega
  by_cases ht : 100 < t.size
  · clear hT
    go_enter Tryd.func4, Tryd.ntmps4
    go_wp2_with fail
    refine (unhide HW _ HT.out).mono ?_
    rintro x w1 ⟨rfl, hb1⟩
    have HB := hid_mk hb1
    clear hb1
    go_wp2
    exact bodyPost_ret (v := .bool true) (by simp [results, Tryd.results4, go_sem]) rfl ⟨rfl, HB.out⟩
  have ht2 : decide ((100 : Int) < (t.size : Int)) = false := by simp; omega
  have HP1 := hide (fun w hT => parse_any s w (by unfold maxLen; omega) hT)
  have HP2 := hide (fun w hT => parse_any (ByteArray.mk #[40] ++ s ++ ByteArray.mk #[41]) w (by unfold maxLen; rw [ByteArray.size_append, ByteArray.size_append, show (ByteArray.mk #[40]).size = 1 from rfl, show (ByteArray.mk #[41]).size = 1 from rfl]; omega) hT)
  have HP3 := hide (fun w hT => parse_any t w (by unfold maxLen; omega) hT)
  have HP4 := hide (fun w hT => parse_any (s ++ ByteArray.mk #[124] ++ t) w (by unfold maxLen; rw [ByteArray.size_append, ByteArray.size_append, show (ByteArray.mk #[124]).size = 1 from rfl]; omega) hT)
  rw [show (ByteArray.mk #[40] ++ s ++ ByteArray.mk #[41]).data.toList = 40 :: (s.data.toList ++ [41]) by simp [ByteArray.data_append]] at HP2
  rw [show (s ++ ByteArray.mk #[124] ++ t).data.toList = s.data.toList ++ 124 :: t.data.toList by simp [ByteArray.data_append]] at HP4
  obtain ⟨⟨n1, e1, p1⟩, h1⟩ : ∃ r, Rx.parse s.data.toList = r := ⟨_, rfl⟩
  obtain ⟨⟨n2, e2, p2⟩, h2⟩ : ∃ r, Rx.parse (40 :: (s.data.toList ++ [41])) = r := ⟨_, rfl⟩
  obtain ⟨⟨n3, e3, p3⟩, h3⟩ : ∃ r, Rx.parse t.data.toList = r := ⟨_, rfl⟩
  obtain ⟨⟨n4, e4, p4⟩, h4⟩ : ∃ r, Rx.parse (s.data.toList ++ 124 :: t.data.toList) = r := ⟨_, rfl⟩
  have HF := hid_mk (stand_facts s.data.toList t.data.toList (by rw [len_data]; omega) (by rw [len_data]; omega) h1 h2 h3 h4)
  have z1 := size_parse s.data.toList
  have z3 := size_parse t.data.toList
  have z4 := size_parse (s.data.toList ++ 124 :: t.data.toList)
  rw [h1] at HP1 z1
  rw [h2] at HP2
  rw [h3] at HP3 z3
  rw [h4] at HP4 z4
  rw [len_data] at HF
  have l1 := Node.kids_le n1
  have l3 := Node.kids_le n3
  have l4 := Node.kids_le n4
  dsimp only at z1 z3 z4
  have HZ1 := hid_mk z1
  clear hT h1 h2 h3 h4 z1
  go_enter Tryd.func4, Tryd.ntmps4
  go_wp2_with fail
  refine (unhide HP1 _ HT.out).mono ?_
  rintro x w1 ⟨hb1, A1, cap1, rfl, hsl1, hk1⟩
  dsimp only at hk1 hsl1
  go_wp2_with fail
  obtain ⟨V1, hV1⟩ : ∃ V, V = (w1.alloc (.cells #[.int .i64 (n1.kind), .int .u64 ((n1.set).a.toNat : Int), .int .u64 ((n1.set).b.toNat : Int), .int .u64 ((n1.set).c.toNat : Int), .int .u64 ((n1.set).d.toNat : Int), .slice (A1) (n1.kids.length) (cap1), .int .i64 (n1.min), .int .i64 (n1.max)] 28)).alloc (.cells #[.int .i64 e1, .int .i64 (p1 : Nat)] 31) := ⟨_, rfl⟩
  rw [← hV1]
  obtain ⟨b1, x1, f1, k1⟩ := par_step hV1 hb1 hk1
  have BX := hid_mk b1
  have X1 := hid_mk x1
  have F1 := hid_mk f1
  have K1 := hid_mk k1
  clear hV1 hb1 hk1 b1 x1 f1 k1
  refine (unhide HP2 _ (HT.out.below BX.out)).mono ?_
  rintro x w2 ⟨hb2, A2, cap2, rfl, hsl2, hk2⟩
  dsimp only at hk2 hsl2
  go_wp2_with fail
  obtain ⟨V2, hV2⟩ : ∃ V, V = (w2.alloc (.cells #[.int .i64 (n2.kind), .int .u64 ((n2.set).a.toNat : Int), .int .u64 ((n2.set).b.toNat : Int), .int .u64 ((n2.set).c.toNat : Int), .int .u64 ((n2.set).d.toNat : Int), .slice (A2) (n2.kids.length) (cap2), .int .i64 (n2.min), .int .i64 (n2.max)] 28)).alloc (.cells #[.int .i64 e2, .int .i64 (p2 : Nat)] 31) := ⟨_, rfl⟩
  rw [← hV2]
  obtain ⟨b2, x2, f2, k2⟩ := par_step hV2 hb2 hk2
  have BX2 := hid_mk (BX.out.trans (b2.mono BX.out.size))
  have X12 := hid_mk (X1.out.call b2)
  have F12 := hid_mk (F1.out.call b2)
  have K12 := hid_mk (kids_up K1.out b2)
  have X2 := hid_mk x2
  have F2 := hid_mk f2
  have K2 := hid_mk k2
  clear hV2 hb2 hk2 b2 x2 f2 k2 X1 F1 K1 BX
  refine (unhide HP3 _ (HT.out.below BX2.out)).mono ?_
  rintro x w3 ⟨hb3, A3, cap3, rfl, hsl3, hk3⟩
  dsimp only at hk3 hsl3
  obtain ⟨V3, hV3⟩ : ∃ V, V = (w3.alloc (.cells #[.int .i64 (n3.kind), .int .u64 ((n3.set).a.toNat : Int), .int .u64 ((n3.set).b.toNat : Int), .int .u64 ((n3.set).c.toNat : Int), .int .u64 ((n3.set).d.toNat : Int), .slice (A3) (n3.kids.length) (cap3), .int .i64 (n3.min), .int .i64 (n3.max)] 28)).alloc (.cells #[.int .i64 e3, .int .i64 (p3 : Nat)] 31) := ⟨_, rfl⟩
  obtain ⟨b3, x3, f3, k3⟩ := par_step hV3 hb3 hk3
  have BX3 := hid_mk (BX2.out.trans (b3.mono BX2.out.size))
  have X13 := hid_mk (X12.out.call b3)
  have F13 := hid_mk (F12.out.call b3)
  have K13 := hid_mk (kids_up K12.out b3)
  have X23 := hid_mk (X2.out.call b3)
  have F23 := hid_mk (F2.out.call b3)
  have K23 := hid_mk (kids_up K2.out b3)
  have X3 := hid_mk x3
  have F3 := hid_mk f3
  have HV3 := hid_mk hV3
  clear hV3 hb3 hk3 b3 x3 f3 k3 X12 F12 K12 X2 F2 K2 BX2
  rcases HF.out with hA | hB
  case inl =>
    clear HF
    obtain ⟨he, rfl, hp⟩ := hA
    have hne : (e1 != 0) = true := by simpa using he
    have HS0 : Calls Tryd.prog 12 #[.agg #[.int .i64 (Rx.zero.kind), .int .u64 ((Rx.zero.set).a.toNat : Int), .int .u64 ((Rx.zero.set).b.toNat : Int), .int .u64 ((Rx.zero.set).c.toNat : Int), .int .u64 ((Rx.zero.set).d.toNat : Int), .slice (A1) (Rx.zero.kids.length) (cap1), .int .i64 (Rx.zero.min), .int .i64 (Rx.zero.max)], .agg #[.int .i64 0, .int .u64 0, .int .u64 0, .int .u64 0, .int .u64 0, .slice none 0 0, .int .i64 0, .int .i64 0]] V3 (RetG (.bool (decide (Rx.zero = Rx.zero))) V3) := rsame_any _ Rx.zero Rx.zero (Nat.le_refl _) HZ1.out A1 none cap1 0 (fun b => b < V3.heap.size) V3 (fun b h => h) hsl1 SlOk.none_ (fun h => absurd h (by simp [Rx.zero, Node.kids])) (fun h => absurd h (by simp [Rx.zero, Node.kids]))
    rw [decide_eq_true rfl] at HS0
    have HS := hide HS0
    have hpi : decide ((p1 : Int) ≤ (s.size : Int)) = true := by simp; omega
    have hpn : decide (p1 ≤ s.size) = true := by simp; omega
    have c10 : V3.cell? ⟨w1.heap.size + 1, 0, none⟩ = some (.int .i64 e1) := F13.out.cell 0
    clear HS0 he
    go_wp2_with (first | (rw [← HV3.out]) | (refine load_row 28 rfl _ rfl w1.heap.size _ 28 X13.out rfl _ Tryd.underlying28 rfl (by kernel_rfl) ?_))
    refine (unhide HS).mono ?_
    rintro x y1 ⟨rfl, hby⟩
    have BY1 := hid_mk (BX3.out.trans (hby.mono BX3.out.size))
    have d11 : y1.cell? ⟨w1.heap.size + 1, 1, none⟩ = some (.int .i64 (p1 : Nat)) := (F13.out.call hby).cell 1
    clear hby c10
    go_wp2_with fail
    refine (unhide HW _ (HT.out.below BY1.out)).mono ?_
    rintro x y2 ⟨rfl, hby2⟩
    have BY2 := hid_mk (BY1.out.trans (hby2.mono BY1.out.size))
    clear hby2
    go_wp2
    exact bodyPost_ret (v := .bool true) (by simp [results, Tryd.results4, go_sem]) rfl ⟨rfl, BY2.out⟩
  case inr =>
    clear HF
    obtain ⟨rfl, hr, hg, hK⟩ := hB
    have HR0 := pright_any _ n1 (Nat.le_refl _) HZ1.out A1 cap1 (fun b => b < V3.heap.size) V3 (fun b h => h) hsl1 K13.out
    rw [hr] at HR0
    have HR := hide HR0
    have c10 : V3.cell? ⟨w1.heap.size + 1, 0, none⟩ = some (.int .i64 0) := F13.out.cell 0
    clear HR0 hr
    go_wp2_with (first | (rw [← HV3.out]) | (refine load_row 28 rfl _ rfl w1.heap.size _ 28 X13.out rfl _ Tryd.underlying28 rfl (by kernel_rfl) ?_))
    refine (unhide HR).mono ?_
    rintro x y1 ⟨rfl, hby⟩
    have BY1 := hid_mk (BX3.out.trans (hby.mono BX3.out.size))
    have Y1 := hid_mk (X13.out.call hby)
    have Y2 := hid_mk (X23.out.call hby)
    have Y3 := hid_mk (X3.out.call hby)
    have G3 := hid_mk (F3.out.call hby)
    have d20 : y1.cell? ⟨w2.heap.size + 1, 0, none⟩ = some (.int .i64 e2) := (F23.out.call hby).cell 0
    have KY1 := hid_mk (kids_up K13.out hby)
    have KY2 := hid_mk (kids_up K23.out hby)
    have G2 := hid_mk (F23.out.call hby)
    clear hby c10
    rcases hg with ⟨rfl, rfl⟩ | rfl
    · have HS0 := psame_any _ n2 n2 (Nat.le_refl _) HZ1.out A1 A2 cap1 cap2 (fun b => b < y1.heap.size) y1 (fun b h => h) hsl1 hsl2 KY1.out KY2.out
      rw [decide_eq_true rfl] at HS0
      have HS := hide HS0
      clear HS0
      (have a0 : y1.cell? ⟨w1.heap.size, 0, none⟩ = some (.int .i64 (n2.kind)) := Y1.out.cell 0; have a1 : y1.cell? ⟨w1.heap.size, 1, none⟩ = some (.int .u64 ((n2.set).a.toNat : Int)) := Y1.out.cell 1; have a2 : y1.cell? ⟨w1.heap.size, 2, none⟩ = some (.int .u64 ((n2.set).b.toNat : Int)) := Y1.out.cell 2; have a3 : y1.cell? ⟨w1.heap.size, 3, none⟩ = some (.int .u64 ((n2.set).c.toNat : Int)) := Y1.out.cell 3; have a4 : y1.cell? ⟨w1.heap.size, 4, none⟩ = some (.int .u64 ((n2.set).d.toNat : Int)) := Y1.out.cell 4; have a5 : y1.cell? ⟨w1.heap.size, 5, none⟩ = some (.slice (A1) (n2.kids.length) (cap1)) := Y1.out.cell 5; have a6 : y1.cell? ⟨w1.heap.size, 6, none⟩ = some (.int .i64 (n2.min)) := Y1.out.cell 6; have a7 : y1.cell? ⟨w1.heap.size, 7, none⟩ = some (.int .i64 (n2.max)) := Y1.out.cell 7; have af : ∀ i, y1.frozen? ⟨w1.heap.size, i, none⟩ = false := Y1.out.frozen)
      (have b0 : y1.cell? ⟨w2.heap.size, 0, none⟩ = some (.int .i64 (n2.kind)) := Y2.out.cell 0; have b1 : y1.cell? ⟨w2.heap.size, 1, none⟩ = some (.int .u64 ((n2.set).a.toNat : Int)) := Y2.out.cell 1; have b2 : y1.cell? ⟨w2.heap.size, 2, none⟩ = some (.int .u64 ((n2.set).b.toNat : Int)) := Y2.out.cell 2; have b3 : y1.cell? ⟨w2.heap.size, 3, none⟩ = some (.int .u64 ((n2.set).c.toNat : Int)) := Y2.out.cell 3; have b4 : y1.cell? ⟨w2.heap.size, 4, none⟩ = some (.int .u64 ((n2.set).d.toNat : Int)) := Y2.out.cell 4; have b5 : y1.cell? ⟨w2.heap.size, 5, none⟩ = some (.slice (A2) (n2.kids.length) (cap2)) := Y2.out.cell 5; have b6 : y1.cell? ⟨w2.heap.size, 6, none⟩ = some (.int .i64 (n2.min)) := Y2.out.cell 6; have b7 : y1.cell? ⟨w2.heap.size, 7, none⟩ = some (.int .i64 (n2.max)) := Y2.out.cell 7; have bf : ∀ i, y1.frozen? ⟨w2.heap.size, i, none⟩ = false := Y2.out.frozen)
      go_wp2_with fail
      refine (unhide HS).mono ?_
      rintro x y2 ⟨rfl, hby⟩
      have BU := hid_mk (BY1.out.trans (hby.mono BY1.out.size))
      have XU1 := hid_mk (Y1.out.call hby)
      have XU3 := hid_mk (Y3.out.call hby)
      have FU3 := hid_mk (G3.out.call hby)
      have d21 : y2.cell? ⟨w2.heap.size + 1, 0, none⟩ = some (.int .i64 0) := (G2.out.call hby).cell 0
      clear hby d20 a0 a1 a2 a3 a4 a5 a6 a7 af b0 b1 b2 b3 b4 b5 b6 b7 bf
      have c30 : y2.cell? ⟨w3.heap.size + 1, 0, none⟩ = some (.int .i64 e3) := FU3.out.cell 0
      rcases hK with he3 | ⟨rfl, rfl, rfl, hk4, hkl4⟩
      · have hne3 : (e3 != 0) = true := by simpa using he3
        clear he3
        go_wp2_with fail
        refine (unhide HW _ (HT.out.below BU.out)).mono ?_
        rintro x y3 ⟨rfl, hby3⟩
        have BY3 := hid_mk (BU.out.trans (hby3.mono BU.out.size))
        clear hby3
        go_wp2
        exact bodyPost_ret (v := .bool true) (by simp [results, Tryd.results4, go_sem]) rfl ⟨rfl, BY3.out⟩
      · have HK4 := hid_mk hk4
        have HL4 := hid_mk hkl4
        clear hk4 hkl4
        go_wp2_with fail
        refine (unhide HP4 _ (HT.out.below BU.out)).mono ?_
        rintro x w6 ⟨hb6, A4, cap4, rfl, hsl4, hk6⟩
        dsimp only at hk6 hsl4
        obtain ⟨V6, hV6⟩ : ∃ V, V = (w6.alloc (.cells #[.int .i64 (n4.kind), .int .u64 ((n4.set).a.toNat : Int), .int .u64 ((n4.set).b.toNat : Int), .int .u64 ((n4.set).c.toNat : Int), .int .u64 ((n4.set).d.toNat : Int), .slice (A4) (n4.kids.length) (cap4), .int .i64 (n4.min), .int .i64 (n4.max)] 28)).alloc (.cells #[.int .i64 0, .int .i64 0] 31) := ⟨_, rfl⟩
        obtain ⟨b6, x6, f6, k6⟩ := par_step hV6 hb6 hk6
        have B6 := hid_mk (BU.out.trans (b6.mono BU.out.size))
        have y10 := XU1.out.call hb6
        have y30 := XU3.out.call hb6
        have u10 : w6.cell? ⟨w1.heap.size, 0, none⟩ = some (.int .i64 n2.kind) := y10.cell 0
        have u15 : w6.cell? ⟨w1.heap.size, 5, none⟩ = some (.slice A1 n2.kids.length cap1) := y10.cell 5
        have u30 : w6.cell? ⟨w3.heap.size, 0, none⟩ = some (.int .i64 n3.kind) := y30.cell 0
        have u35 : w6.cell? ⟨w3.heap.size, 5, none⟩ = some (.slice A3 n3.kids.length cap3) := y30.cell 5
        have q1 : w1.heap.size < w6.heap.size := y10.lt
        have q3 : w3.heap.size < w6.heap.size := y30.lt
        have q1' : w1.heap.size < w6.heap.size + 1 := by omega
        have q3' : w3.heap.size < w6.heap.size + 1 := by omega
        have ec : (n4.kind == 3) = true := beq_iff_eq.2 HK4.out
        subst hV6
        have hfe := fun w => fault_eq_run 0 0 0 0 w
        clear hb6 hk6 b6 x6 f6 k6 c30 y10 y30
        have l1i : (n2.kids.length : Int) ≤ 10000 := by have := HZ1.out; omega
        have l3i : (n3.kids.length : Int) ≤ 10000 := by omega
        by_cases a3 : n2.kind = 3 <;> by_cases b3 : n3.kind = 3
        · have ea : (n2.kind == 3) = true := beq_iff_eq.2 a3
          have eb : (n3.kind == 3) = true := beq_iff_eq.2 b3
          have hq : ((n4.kids.length : Int) == (n2.kids.length : Int) + (n3.kids.length : Int)) = true := beq_iff_eq.2 (by have := HL4.out; simp [Rx.br, a3, b3] at this; omega)
          clear a3 b3
          go_wp2_with fail
          refine (unhide HW _ (HT.out.below B6.out)).mono ?_
          rintro x y4 ⟨rfl, hby4⟩
          have BY4 := hid_mk (B6.out.trans (hby4.mono B6.out.size))
          clear hby4
          go_wp2
          exact bodyPost_ret (v := .bool true) (by simp [results, Tryd.results4, go_sem]) rfl ⟨rfl, BY4.out⟩
        · have ea : (n2.kind == 3) = true := beq_iff_eq.2 a3
          have eb : (n3.kind == 3) = false := beq_eq_false_iff_ne.2 b3
          have hq : ((n4.kids.length : Int) == (n2.kids.length : Int) + 1) = true := beq_iff_eq.2 (by have := HL4.out; simp [Rx.br, a3, b3] at this; omega)
          clear a3 b3
          go_wp2_with fail
          refine (unhide HW _ (HT.out.below B6.out)).mono ?_
          rintro x y4 ⟨rfl, hby4⟩
          have BY4 := hid_mk (B6.out.trans (hby4.mono B6.out.size))
          clear hby4
          go_wp2
          exact bodyPost_ret (v := .bool true) (by simp [results, Tryd.results4, go_sem]) rfl ⟨rfl, BY4.out⟩
        · have ea : (n2.kind == 3) = false := beq_eq_false_iff_ne.2 a3
          have eb : (n3.kind == 3) = true := beq_iff_eq.2 b3
          have hq : ((n4.kids.length : Int) == 1 + (n3.kids.length : Int)) = true := beq_iff_eq.2 (by have := HL4.out; simp [Rx.br, a3, b3] at this; omega)
          clear a3 b3
          go_wp2_with fail
          refine (unhide HW _ (HT.out.below B6.out)).mono ?_
          rintro x y4 ⟨rfl, hby4⟩
          have BY4 := hid_mk (B6.out.trans (hby4.mono B6.out.size))
          clear hby4
          go_wp2
          exact bodyPost_ret (v := .bool true) (by simp [results, Tryd.results4, go_sem]) rfl ⟨rfl, BY4.out⟩
        · have ea : (n2.kind == 3) = false := beq_eq_false_iff_ne.2 a3
          have eb : (n3.kind == 3) = false := beq_eq_false_iff_ne.2 b3
          have hq : ((n4.kids.length : Int) == 1 + 1) = true := beq_iff_eq.2 (by have := HL4.out; simp [Rx.br, a3, b3] at this; omega)
          have hq2 : ((n4.kids.length : Int) == 2) = true := hq
          have hq3 : (n4.kids.length == 2) = true := beq_iff_eq.2 (by have := HL4.out; simp [Rx.br, a3, b3] at this; omega)
          clear a3 b3
          go_wp2_with fail
          refine (unhide HW _ (HT.out.below B6.out)).mono ?_
          rintro x y4 ⟨rfl, hby4⟩
          have BY4 := hid_mk (B6.out.trans (hby4.mono B6.out.size))
          clear hby4
          go_wp2
          exact bodyPost_ret (v := .bool true) (by simp [results, Tryd.results4, go_sem]) rfl ⟨rfl, BY4.out⟩
    · have BU := BY1
      have XU1 := Y1
      have XU3 := Y3
      have FU3 := G3
      clear BY1 Y1 Y3 G3
      have c30 : y1.cell? ⟨w3.heap.size + 1, 0, none⟩ = some (.int .i64 e3) := FU3.out.cell 0
      rcases hK with he3 | ⟨rfl, rfl, rfl, hk4, hkl4⟩
      · have hne3 : (e3 != 0) = true := by simpa using he3
        clear he3
        go_wp2_with fail
        refine (unhide HW _ (HT.out.below BU.out)).mono ?_
        rintro x y3 ⟨rfl, hby3⟩
        have BY3 := hid_mk (BU.out.trans (hby3.mono BU.out.size))
        clear hby3
        go_wp2
        exact bodyPost_ret (v := .bool true) (by simp [results, Tryd.results4, go_sem]) rfl ⟨rfl, BY3.out⟩
      · have HK4 := hid_mk hk4
        have HL4 := hid_mk hkl4
        clear hk4 hkl4
        go_wp2_with fail
        refine (unhide HP4 _ (HT.out.below BU.out)).mono ?_
        rintro x w6 ⟨hb6, A4, cap4, rfl, hsl4, hk6⟩
        dsimp only at hk6 hsl4
        obtain ⟨V6, hV6⟩ : ∃ V, V = (w6.alloc (.cells #[.int .i64 (n4.kind), .int .u64 ((n4.set).a.toNat : Int), .int .u64 ((n4.set).b.toNat : Int), .int .u64 ((n4.set).c.toNat : Int), .int .u64 ((n4.set).d.toNat : Int), .slice (A4) (n4.kids.length) (cap4), .int .i64 (n4.min), .int .i64 (n4.max)] 28)).alloc (.cells #[.int .i64 0, .int .i64 0] 31) := ⟨_, rfl⟩
        obtain ⟨b6, x6, f6, k6⟩ := par_step hV6 hb6 hk6
        have B6 := hid_mk (BU.out.trans (b6.mono BU.out.size))
        have y10 := XU1.out.call hb6
        have y30 := XU3.out.call hb6
        have u10 : w6.cell? ⟨w1.heap.size, 0, none⟩ = some (.int .i64 n1.kind) := y10.cell 0
        have u15 : w6.cell? ⟨w1.heap.size, 5, none⟩ = some (.slice A1 n1.kids.length cap1) := y10.cell 5
        have u30 : w6.cell? ⟨w3.heap.size, 0, none⟩ = some (.int .i64 n3.kind) := y30.cell 0
        have u35 : w6.cell? ⟨w3.heap.size, 5, none⟩ = some (.slice A3 n3.kids.length cap3) := y30.cell 5
        have q1 : w1.heap.size < w6.heap.size := y10.lt
        have q3 : w3.heap.size < w6.heap.size := y30.lt
        have q1' : w1.heap.size < w6.heap.size + 1 := by omega
        have q3' : w3.heap.size < w6.heap.size + 1 := by omega
        have ec : (n4.kind == 3) = true := beq_iff_eq.2 HK4.out
        subst hV6
        have hfe := fun w => fault_eq_run 0 0 0 0 w
        clear hb6 hk6 b6 x6 f6 k6 c30 y10 y30
        have l1i : (n1.kids.length : Int) ≤ 10000 := by have := HZ1.out; omega
        have l3i : (n3.kids.length : Int) ≤ 10000 := by omega
        by_cases a3 : n1.kind = 3 <;> by_cases b3 : n3.kind = 3
        · have ea : (n1.kind == 3) = true := beq_iff_eq.2 a3
          have eb : (n3.kind == 3) = true := beq_iff_eq.2 b3
          have hq : ((n4.kids.length : Int) == (n1.kids.length : Int) + (n3.kids.length : Int)) = true := beq_iff_eq.2 (by have := HL4.out; simp [Rx.br, a3, b3] at this; omega)
          clear a3 b3
          go_wp2_with fail
          refine (unhide HW _ (HT.out.below B6.out)).mono ?_
          rintro x y4 ⟨rfl, hby4⟩
          have BY4 := hid_mk (B6.out.trans (hby4.mono B6.out.size))
          clear hby4
          go_wp2
          exact bodyPost_ret (v := .bool true) (by simp [results, Tryd.results4, go_sem]) rfl ⟨rfl, BY4.out⟩
        · have ea : (n1.kind == 3) = true := beq_iff_eq.2 a3
          have eb : (n3.kind == 3) = false := beq_eq_false_iff_ne.2 b3
          have hq : ((n4.kids.length : Int) == (n1.kids.length : Int) + 1) = true := beq_iff_eq.2 (by have := HL4.out; simp [Rx.br, a3, b3] at this; omega)
          clear a3 b3
          go_wp2_with fail
          refine (unhide HW _ (HT.out.below B6.out)).mono ?_
          rintro x y4 ⟨rfl, hby4⟩
          have BY4 := hid_mk (B6.out.trans (hby4.mono B6.out.size))
          clear hby4
          go_wp2
          exact bodyPost_ret (v := .bool true) (by simp [results, Tryd.results4, go_sem]) rfl ⟨rfl, BY4.out⟩
        · have ea : (n1.kind == 3) = false := beq_eq_false_iff_ne.2 a3
          have eb : (n3.kind == 3) = true := beq_iff_eq.2 b3
          have hq : ((n4.kids.length : Int) == 1 + (n3.kids.length : Int)) = true := beq_iff_eq.2 (by have := HL4.out; simp [Rx.br, a3, b3] at this; omega)
          clear a3 b3
          go_wp2_with fail
          refine (unhide HW _ (HT.out.below B6.out)).mono ?_
          rintro x y4 ⟨rfl, hby4⟩
          have BY4 := hid_mk (B6.out.trans (hby4.mono B6.out.size))
          clear hby4
          go_wp2
          exact bodyPost_ret (v := .bool true) (by simp [results, Tryd.results4, go_sem]) rfl ⟨rfl, BY4.out⟩
        · have ea : (n1.kind == 3) = false := beq_eq_false_iff_ne.2 a3
          have eb : (n3.kind == 3) = false := beq_eq_false_iff_ne.2 b3
          have hq : ((n4.kids.length : Int) == 1 + 1) = true := beq_iff_eq.2 (by have := HL4.out; simp [Rx.br, a3, b3] at this; omega)
          have hq2 : ((n4.kids.length : Int) == 2) = true := hq
          have hq3 : (n4.kids.length == 2) = true := beq_iff_eq.2 (by have := HL4.out; simp [Rx.br, a3, b3] at this; omega)
          clear a3 b3
          go_wp2_with fail
          refine (unhide HW _ (HT.out.below B6.out)).mono ?_
          rintro x y4 ⟨rfl, hby4⟩
          have BY4 := hid_mk (B6.out.trans (hby4.mono B6.out.size))
          clear hby4
          go_wp2
          exact bodyPost_ret (v := .bool true) (by simp [results, Tryd.results4, go_sem]) rfl ⟨rfl, BY4.out⟩
end Go.Proofs.YthgcefppeaopkaaDoor
