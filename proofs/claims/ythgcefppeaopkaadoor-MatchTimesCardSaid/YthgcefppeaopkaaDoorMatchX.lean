/- The chapter's examples of layer 15. -/
import Derived.Test.YthgcefppeaopkaaDoorMatchE
import Derived.Test.YthgcefppeaopkaaDoorLaidT
namespace Go.Proofs.YthgcefppeaopkaaDoor
open Go Go.RowKit Go.Sort
set_option maxRecDepth 100000
set_option linter.unusedSimpArgs false
set_option linter.unusedVariables false
set_option maxHeartbeats 4000000
theorem Node.lens_of_size : ∀ (m : Nat) (n : Node), n.size ≤ m → m ≤ maxLen → n.lens := by
  intro m
  induction m with
  | zero => intro n h; exact absurd h (by have := n.size_pos; omega)
  | succ m ih =>
    intro n h hm
    have hk := n.kids_le
    have hs : ∀ x ∈ n.kids, x.size + 1 ≤ n.size := fun x hx => Node.size_mem_kids hx
    cases n with
    | mk k S kids mn mx =>
      unfold Node.lens
      exact ⟨Nat.le_trans hk (Nat.le_trans h hm), (Node.lensAll_iff _).2 fun x hx => ih x (by have := hs x hx; omega) (by omega)⟩
theorem lens_parse {l : List UInt8} {n : Node} {e : Int} {p : Nat} (h : Rx.parse l = (n, e, p)) : n.lens := by
  have := size_parse l
  rw [h] at this
  exact Node.lens_of_size 10000 n this (by unfold maxLen; omega)
/-- a parse's two boxes -/
theorem par_two {w w1 V : World} {n : Node} {A : Option Addr} {cap : Nat} {e p : Int} (hV : V = (w1.alloc (.cells #[.int .i64 (n.kind), .int .u64 ((n.set).a.toNat : Int), .int .u64 ((n.set).b.toNat : Int), .int .u64 ((n.set).c.toNat : Int), .int .u64 ((n.set).d.toNat : Int), .slice (A) (n.kids.length) (cap), .int .i64 (n.min), .int .i64 (n.max)] 28)).alloc (.cells #[.int .i64 e, .int .i64 p] 31)) (hb : Below w.heap.size w w1) (hk : KidsAt (New w w1) w1 A n.kids) :
    Below w.heap.size w V ∧ Blk V w1.heap.size #[.int .i64 (n.kind), .int .u64 ((n.set).a.toNat : Int), .int .u64 ((n.set).b.toNat : Int), .int .u64 ((n.set).c.toNat : Int), .int .u64 ((n.set).d.toNat : Int), .slice (A) (n.kids.length) (cap), .int .i64 (n.min), .int .i64 (n.max)] 28 ∧ Blk V (w1.heap.size + 1) #[.int .i64 e, .int .i64 p] 31 ∧ KidsAt (fun b => b < V.heap.size) V A n.kids := by
  have hz := hb.size
  have h1 : Below w1.heap.size w1 V := by rw [hV]; exact (by repeat (first | with_reducible exact Below.refl _ _ | with_reducible assumption | with_reducible refine Below.setCell ?_ (by first | omega | (dsimp only; omega) | (simp <;> omega)) _ | with_reducible refine Below.alloc ?_ (by first | omega | (simp <;> omega)) _ | with_reducible refine below_drewN ?_ _ | with_reducible refine Below.drew ?_))
  refine ⟨hb.trans (h1.mono hz), ?_, ?_, kidsAt_keep (fun b hb' => h1.block b hb'.2) (fun b hb' => Nat.lt_of_lt_of_le hb'.2 h1.size) hk⟩
  · rw [hV]; exact Blk.alloc (Blk.new w1 _ _) _
  · rw [hV]; exact Blk.newAt (by simp)
theorem kids_on {w V : World} {A : Option Addr} {ns : List Node} (h : KidsAt (fun b => b < w.heap.size) w A ns) (hb : Below w.heap.size w V) : KidsAt (fun b => b < V.heap.size) V A ns :=
  kidsAt_keep (fun b hb' => hb.block b hb') (fun b hb' => Nat.lt_of_lt_of_le hb' hb.size) h
theorem ex15a : (Rx.parse [97, 42]).2.1 = 0 ∧ (Rx.parse [97, 42]).2.2 = 0 ∧ endsL (Rx.parse [97, 42]).1 [97, 97, 98] 0 = [0, 1, 2] := by decide +kernel
theorem ex15b : (Rx.parse [40, 97, 98, 41, 42]).2.1 = 0 ∧ (Rx.parse [40, 97, 98, 41, 42]).2.2 = 0 ∧ matchB (Rx.parse [40, 97, 98, 41, 42]).1 [97, 98, 97, 98] = true ∧ matchB (Rx.parse [40, 97, 98, 41, 42]).1 [97, 98, 97] = false := by decide +kernel
theorem ex15c : matchB Rx.zero [] = false := by decide +kernel
theorem ex15a' : ∃ n, Rx.parse [97, 42] = (n, 0, 0) ∧ endsL n [97, 97, 98] 0 = [0, 1, 2] := ⟨_, Prod.ext rfl (Prod.ext ex15a.1 ex15a.2.1), ex15a.2.2⟩
theorem ex15b' : ∃ n, Rx.parse [40, 97, 98, 41, 42] = (n, 0, 0) ∧ matchB n [97, 98, 97, 98] = true ∧ matchB n [97, 98, 97] = false := ⟨_, Prod.ext rfl (Prod.ext ex15b.1 ex15b.2.1), ex15b.2.2⟩
theorem works15_any (w : World) (hT : TabW w) : Calls Tryd.prog 20 #[] w (RetG (.bool true) w) := by
  obtain ⟨n1, e1, m1⟩ := ex15a'
  obtain ⟨n2, e2, m2, m3⟩ := ex15b'
  have L1 := hid_mk (lens_parse e1)
  have L2 := hid_mk (lens_parse e2)
  have HP1 := hide (fun w hT => parse_any ⟨#[97, 42]⟩ w (by decide) hT)
  have HP2 := hide (fun w hT => parse_any ⟨#[40, 97, 98, 41, 42]⟩ w (by decide) hT)
  rw [show Rx.parse (ByteArray.mk #[97, 42]).data.toList = _ from e1] at HP1
  rw [show Rx.parse (ByteArray.mk #[40, 97, 98, 41, 42]).data.toList = _ from e2] at HP2
  have HE := hide (fun (A : Option Addr) (ca : Nat) (w : World) (hsa : SlOk A n1.kids.length ca) (hk : KidsAt (fun b => b < w.heap.size) w A n1.kids) => ends_any ⟨#[97, 97, 98]⟩ n1 0 L1.out (by decide) A ca (fun b => b < w.heap.size) w (fun _ h => h) hsa hk)
  have HM := hide (fun (A : Option Addr) (ca : Nat) (w : World) (hsa : SlOk A n2.kids.length ca) (hk : KidsAt (fun b => b < w.heap.size) w A n2.kids) => match_any ⟨#[97, 98, 97, 98]⟩ n2 L2.out (by decide) A ca (fun b => b < w.heap.size) w (fun _ h => h) hsa hk)
  have HN := hide (fun (A : Option Addr) (ca : Nat) (w : World) (hsa : SlOk A n2.kids.length ca) (hk : KidsAt (fun b => b < w.heap.size) w A n2.kids) => match_any ⟨#[97, 98, 97]⟩ n2 L2.out (by decide) A ca (fun b => b < w.heap.size) w (fun _ h => h) hsa hk)
  have HZ := hide (fun (w : World) => match_any ⟨#[]⟩ Rx.zero (Node.lens_of_size 1 _ (by decide +kernel) (by unfold maxLen; omega)) (by decide) none 0 (fun b => b < w.heap.size) w (fun _ h => h) SlOk.none_ (fun h => absurd h (by simp [Rx.zero, Node.kids])))
  rw [show endsL n1 (ByteArray.mk #[97, 97, 98]).data.toList 0 = [0, 1, 2] from m1] at HE
  rw [show matchB n2 (ByteArray.mk #[97, 98, 97, 98]).data.toList = true from m2] at HM
  rw [show matchB n2 (ByteArray.mk #[97, 98, 97]).data.toList = false from m3] at HN
  rw [show matchB Rx.zero (ByteArray.mk #[]).data.toList = false from ex15c] at HZ
  have hfe := fault_eq_run
  have HT := hid_mk hT
  clear e1 e2 hT m1 m2 m3 L1 L2
  go_enter Tryd.func20, Tryd.ntmps20
  go_wp2_with fail
  refine (unhide HP1 _ HT.out).mono ?_
  rintro x w1 ⟨hb1, A1, cap1, rfl, hsl1, hk1⟩
  dsimp only at hk1 hsl1
  go_wp2_with fail
  obtain ⟨V1, hV1⟩ : ∃ V, V = (w1.alloc (.cells #[.int .i64 (n1.kind), .int .u64 ((n1.set).a.toNat : Int), .int .u64 ((n1.set).b.toNat : Int), .int .u64 ((n1.set).c.toNat : Int), .int .u64 ((n1.set).d.toNat : Int), .slice (A1) (n1.kids.length) (cap1), .int .i64 (n1.min), .int .i64 (n1.max)] 28)).alloc (.cells #[.int .i64 0, .int .i64 0] 31) := ⟨_, rfl⟩
  rw [← hV1]
  obtain ⟨b1, x1, f1, k1⟩ := par_two (e := 0) (p := 0) hV1 hb1 hk1
  have BX := hid_mk b1
  have X1 := hid_mk x1
  have F1 := hid_mk f1
  have K1 := hid_mk k1
  clear hV1 hb1 hk1 b1 x1 f1 k1
  refine (unhide HP2 _ (HT.out.below BX.out)).mono ?_
  rintro x w2 ⟨hb2, A2, cap2, rfl, hsl2, hk2⟩
  dsimp only at hk2 hsl2
  obtain ⟨V2, hV2⟩ : ∃ V, V = (w2.alloc (.cells #[.int .i64 (n2.kind), .int .u64 ((n2.set).a.toNat : Int), .int .u64 ((n2.set).b.toNat : Int), .int .u64 ((n2.set).c.toNat : Int), .int .u64 ((n2.set).d.toNat : Int), .slice (A2) (n2.kids.length) (cap2), .int .i64 (n2.min), .int .i64 (n2.max)] 28)).alloc (.cells #[.int .i64 0, .int .i64 0] 31) := ⟨_, rfl⟩
  obtain ⟨b2, x2, f2, k2⟩ := par_two (e := 0) (p := 0) hV2 hb2 hk2
  have BX2 := hid_mk (BX.out.trans (b2.mono BX.out.size))
  have X12 := hid_mk (X1.out.call hb2)
  have F12 := hid_mk (F1.out.call hb2)
  have K12 := hid_mk (kids_on K1.out b2)
  have X2 := hid_mk x2
  have F2 := hid_mk f2
  have K2 := hid_mk k2
  have HV2 := hid_mk hV2
  clear hV2 hb2 hk2 b2 x2 f2 k2 X1 F1 K1 BX
  (have a0 : w2.cell? ⟨w1.heap.size, 0, none⟩ = some (.int .i64 (n1.kind)) := X12.out.cell 0; have a1 : w2.cell? ⟨w1.heap.size, 1, none⟩ = some (.int .u64 ((n1.set).a.toNat : Int)) := X12.out.cell 1; have a2 : w2.cell? ⟨w1.heap.size, 2, none⟩ = some (.int .u64 ((n1.set).b.toNat : Int)) := X12.out.cell 2; have a3 : w2.cell? ⟨w1.heap.size, 3, none⟩ = some (.int .u64 ((n1.set).c.toNat : Int)) := X12.out.cell 3; have a4 : w2.cell? ⟨w1.heap.size, 4, none⟩ = some (.int .u64 ((n1.set).d.toNat : Int)) := X12.out.cell 4; have a5 : w2.cell? ⟨w1.heap.size, 5, none⟩ = some (.slice (A1) (n1.kids.length) (cap1)) := X12.out.cell 5; have a6 : w2.cell? ⟨w1.heap.size, 6, none⟩ = some (.int .i64 (n1.min)) := X12.out.cell 6; have a7 : w2.cell? ⟨w1.heap.size, 7, none⟩ = some (.int .i64 (n1.max)) := X12.out.cell 7; have af : ∀ i, w2.frozen? ⟨w1.heap.size, i, none⟩ = false := X12.out.frozen)
  have c10 : w2.cell? ⟨w1.heap.size + 1, 0, none⟩ = some (.int .i64 0) := F12.out.cell 0
  have c11 : w2.cell? ⟨w1.heap.size + 1, 1, none⟩ = some (.int .i64 0) := F12.out.cell 1
  have z1 : w1.heap.size < w2.heap.size := X12.out.lt
  have z2 : w1.heap.size + 1 < w2.heap.size := F12.out.lt
  go_wp2_with fail
  rw [← HV2.out]
  refine (unhide HE A1 cap1 _ hsl1 K12.out).mono ?_
  rintro x y1 ⟨v, rfl, hown, hby⟩
  have BY1 := hid_mk (BX2.out.trans (hby.mono BX2.out.size))
  have Y2 := hid_mk (X2.out.call hby)
  have G2 := hid_mk (F2.out.call hby)
  have KY2 := hid_mk (kids_on K2.out hby)
  have I1 := hid_mk (IntsAt.of hown)
  clear hown hby c10 c11 z1 z2 a0 a1 a2 a3 a4 a5 a6 a7 af
  go_wp2_with fail
  have hb2 : Below y1.heap.size y1 (y1.alloc (.cells #[.int .i64 0, .int .i64 1, .int .i64 2] 3)) := (by repeat (first | with_reducible exact Below.refl _ _ | with_reducible assumption | with_reducible refine Below.setCell ?_ (by first | omega | (dsimp only; omega) | (simp <;> omega)) _ | with_reducible refine Below.alloc ?_ (by first | omega | (simp <;> omega)) _ | with_reducible refine below_drewN ?_ _ | with_reducible refine Below.drew ?_))
  have hc2 := fun j => (Blk.new y1 #[.int .i64 0, .int .i64 1, .int .i64 2] 3).cell j
  have hi2 : IntsAt (y1.alloc (.cells #[.int .i64 0, .int .i64 1, .int .i64 2] 3)) (.slice (some ⟨y1.heap.size, 0, none⟩) 3 3) [0, 1, 2] := ⟨Or.inr ⟨y1.heap.size, 3, rfl, by simp, fun j y hy => by
    rw [hc2 j]
    match j, hy with
    | 0, hy => simp at hy; subst hy; rfl
    | 1, hy => simp at hy; subst hy; rfl
    | 2, hy => simp at hy; subst hy; rfl⟩⟩
  have hsi := sameints_any [0, 1, 2] [0, 1, 2] v _ _ (by decide) (I1.out.below hb2) hi2
  rw [decide_eq_true rfl] at hsi
  have HB0 := hid_mk hb2
  clear hc2 hi2 hb2
  refine hsi.mono ?_
  rintro x U ⟨rfl, k, hU⟩
  have hbu : Below y1.heap.size y1 U := by rw [hU]; exact below_drewN HB0.out k
  have BU := hid_mk (BY1.out.trans (hbu.mono BY1.out.size))
  have Z2 := hid_mk (Y2.out.call hbu)
  have H2 := hid_mk (G2.out.call hbu)
  have KU := hid_mk (kids_on KY2.out hbu)
  clear hsi hU hbu
  (have b0 : U.cell? ⟨w2.heap.size, 0, none⟩ = some (.int .i64 (n2.kind)) := Z2.out.cell 0; have b1 : U.cell? ⟨w2.heap.size, 1, none⟩ = some (.int .u64 ((n2.set).a.toNat : Int)) := Z2.out.cell 1; have b2 : U.cell? ⟨w2.heap.size, 2, none⟩ = some (.int .u64 ((n2.set).b.toNat : Int)) := Z2.out.cell 2; have b3 : U.cell? ⟨w2.heap.size, 3, none⟩ = some (.int .u64 ((n2.set).c.toNat : Int)) := Z2.out.cell 3; have b4 : U.cell? ⟨w2.heap.size, 4, none⟩ = some (.int .u64 ((n2.set).d.toNat : Int)) := Z2.out.cell 4; have b5 : U.cell? ⟨w2.heap.size, 5, none⟩ = some (.slice (A2) (n2.kids.length) (cap2)) := Z2.out.cell 5; have b6 : U.cell? ⟨w2.heap.size, 6, none⟩ = some (.int .i64 (n2.min)) := Z2.out.cell 6; have b7 : U.cell? ⟨w2.heap.size, 7, none⟩ = some (.int .i64 (n2.max)) := Z2.out.cell 7; have bf : ∀ i, U.frozen? ⟨w2.heap.size, i, none⟩ = false := Z2.out.frozen)
  have d10 : U.cell? ⟨w2.heap.size + 1, 0, none⟩ = some (.int .i64 0) := H2.out.cell 0
  have d11 : U.cell? ⟨w2.heap.size + 1, 1, none⟩ = some (.int .i64 0) := H2.out.cell 1
  go_wp2_with fail
  refine (unhide HM A2 cap2 _ hsl2 KU.out).mono ?_
  rintro x U2 ⟨rfl, hbu⟩
  have BU2 := hid_mk (BU.out.trans (hbu.mono BU.out.size))
  have Z3 := hid_mk (Z2.out.call hbu)
  have KU2 := hid_mk (kids_on KU.out hbu)
  clear hbu d10 d11 b0 b1 b2 b3 b4 b5 b6 b7 bf
  (have b0 : U2.cell? ⟨w2.heap.size, 0, none⟩ = some (.int .i64 (n2.kind)) := Z3.out.cell 0; have b1 : U2.cell? ⟨w2.heap.size, 1, none⟩ = some (.int .u64 ((n2.set).a.toNat : Int)) := Z3.out.cell 1; have b2 : U2.cell? ⟨w2.heap.size, 2, none⟩ = some (.int .u64 ((n2.set).b.toNat : Int)) := Z3.out.cell 2; have b3 : U2.cell? ⟨w2.heap.size, 3, none⟩ = some (.int .u64 ((n2.set).c.toNat : Int)) := Z3.out.cell 3; have b4 : U2.cell? ⟨w2.heap.size, 4, none⟩ = some (.int .u64 ((n2.set).d.toNat : Int)) := Z3.out.cell 4; have b5 : U2.cell? ⟨w2.heap.size, 5, none⟩ = some (.slice (A2) (n2.kids.length) (cap2)) := Z3.out.cell 5; have b6 : U2.cell? ⟨w2.heap.size, 6, none⟩ = some (.int .i64 (n2.min)) := Z3.out.cell 6; have b7 : U2.cell? ⟨w2.heap.size, 7, none⟩ = some (.int .i64 (n2.max)) := Z3.out.cell 7; have bf : ∀ i, U2.frozen? ⟨w2.heap.size, i, none⟩ = false := Z3.out.frozen)
  go_wp2_with fail
  refine (unhide HN A2 cap2 _ hsl2 KU2.out).mono ?_
  rintro x U3 ⟨rfl, hbu⟩
  have BU3 := hid_mk (BU2.out.trans (hbu.mono BU2.out.size))
  clear hbu b0 b1 b2 b3 b4 b5 b6 b7 bf
  go_wp2_with fail
  refine (unhide HZ _).mono ?_
  rintro x U4 ⟨rfl, hbu⟩
  have BU4 := hid_mk (BU3.out.trans (hbu.mono BU3.out.size))
  clear hbu
  go_wp2
  exact bodyPost_ret (v := .bool true) (by simp [results, Tryd.results20, go_sem]) rfl ⟨rfl, BU4.out⟩
end Go.Proofs.YthgcefppeaopkaaDoor
