/- Walks: where a tree's texts end: a part that comes several times. -/
import Derived.Test.YthgcefppeaopkaaDoorMatchW
import Derived.Test.YthgcefppeaopkaaDoorOpenN
namespace Go.Proofs.YthgcefppeaopkaaDoor
open Go Go.RowKit Go.Sort
set_option maxRecDepth 100000
set_option linter.unusedSimpArgs false
set_option linter.unusedVariables false
set_option maxHeartbeats 4000000
theorem frs_iff {a b : Mx.Pos} {N : Nat} : frs a b N = false ↔ ∀ i, i < N → b i = true → a i = true := by
  unfold frs
  rw [List.any_eq_false]
  simp
theorem eqB_fun {x y : Mx.Pos} {N : Nat} (hx : Mx.Sup N x) (hy : Mx.Sup N y) (h : eqB x y N = true) : x = y := by
  funext j
  rcases Nat.lt_or_ge j N with h1 | h1
  · exact eqB_iff.1 h j h1
  · rw [hx j h1, hy j h1]
theorem iter_fix {f : Mx.Pos → Mx.Pos} {x : Mx.Pos} {k : Nat} (h : f (Mx.iter f k x) = Mx.iter f k x) : ∀ m, k ≤ m → Mx.iter f m x = Mx.iter f k x := by
  intro m hm
  induction m with
  | zero => obtain rfl : k = 0 := by omega
            rfl
  | succ m ih =>
    rcases Nat.lt_or_ge k (m + 1) with h1 | h1
    · rw [Mx.iter_succ, ih (by omega), h]
    · obtain rfl : k = m + 1 := by omega
      rfl
/-- at a round's head: the part came k times -/
def TimesAt (N : Nat) (f : Mx.Pos → Mx.Pos) (x : Mx.Pos) (M : Nat) (w : World) (NB : Array Value) (u v : Value) (wr : World) : Prop :=
  ∃ (k gg cc : Nat), v = .int .i64 (k : Nat) ∧ u = .slice (some ⟨gg, 0, none⟩) (N : Nat) cc ∧ k ≤ M ∧ MarksAt N wr gg cc (Mx.iter f k x) ∧ w.heap.size < gg ∧ Below w.heap.size w wr ∧ Blk wr w.heap.size NB 28
/-- at a round's head: up to j times more -/
def MoreAt (N go co : Nat) (f : Mx.Pos → Mx.Pos) (y : Mx.Pos) (M : Nat) (mx : Int) (w : World) (NB : Array Value) (u v : Value) (wr : World) : Prop :=
  ∃ (j gg cc : Nat), v = .int .i64 ((M + j : Nat) : Int) ∧ u = .slice (some ⟨gg, 0, none⟩) (N : Nat) cc ∧ (mx = -1 ∨ ((M + j : Nat) : Int) ≤ mx) ∧ (∀ i, i < j → Mx.upto f (i + 1) y ≠ Mx.upto f i y) ∧ MarksAt N wr gg cc (Mx.iter f j y) ∧ MarksAt N wr go co (Mx.upto f j y) ∧ gg ≠ go ∧ w.heap.size < go ∧ w.heap.size < gg ∧ Below w.heap.size w wr ∧ Blk wr w.heap.size NB 28
theorem more_bound {f : Mx.Pos → Mx.Pos} {L j : Nat} {y : Mx.Pos} (hf : Mx.Adds f) (hk : Mx.Keeps (L + 1) f) (hy : Mx.Sup (L + 1) y) (h : ∀ i, i < j → Mx.upto f (i + 1) y ≠ Mx.upto f i y) : j ≤ L := by
  cases j with
  | zero => omega
  | succ j =>
    by_cases hz : y = Mx.zr
    · subst hz
      exact absurd (by rw [(hf.upto (j + 1)).none_, (hf.upto j).none_]) (h j (by omega))
    · have h1 := Mx.cnt_upto hf hk hy hz j (h j (by omega))
      have h2 := Mx.cnt_le (L + 1) (Mx.upto f (j + 1) y)
      omega
theorem often_any (s : ByteArray) (hs : s.size ≤ 90000) (n c : Node) (hc : n.kids = [c]) (h4 : n.kind = 4) (hmn : 0 ≤ n.min ∧ n.min ≤ 16) (hmx : n.max = -1 ∨ n.min ≤ n.max) (hmx2 : n.max ≤ 16) (ih : MovedOk s c) (A : Option Addr) (ca : Nat) (G : Nat → Prop) (g cap : Nat) (x : Mx.Pos) (w : World) (hG : ∀ b, G b → b < w.heap.size) (hk : KidsAt G w A n.kids) (hm : MarksAt (s.size + 1) w g cap x) (hx : Mx.Sup (s.size + 1) x) :
    Calls Tryd.prog 47 #[.agg #[.int .i64 (n.kind), .int .u64 ((n.set).a.toNat : Int), .int .u64 ((n.set).b.toNat : Int), .int .u64 ((n.set).c.toNat : Int), .int .u64 ((n.set).d.toNat : Int), .slice (A) (n.kids.length) (ca), .int .i64 (n.min), .int .i64 (n.max)], .string s, .slice (some ⟨g, 0, none⟩) (s.size + 1 : Nat) cap] w (RetMk (s.size + 1) (Mx.sp s.data.toList n x) w) := by
  obtain ⟨M, hM⟩ : ∃ M : Nat, n.min = (M : Int) := ⟨n.min.toNat, by omega⟩
  have hM16 : M ≤ 16 := by omega
  have h0 : 0 < n.kids.length := by rw [hc]; simp
  have HRP : Hid (Mx.sp s.data.toList n x = Mx.upto (Mx.sp s.data.toList c) (Mx.more s.data.toList.length n.min n.max) (Mx.iter (Mx.sp s.data.toList c) M x)) := hid_mk (by
    cases n with
    | mk kd S kids mn mx =>
      simp only [Node.kind, Node.kids, Node.min, Node.max] at *
      subst h4 hc
      have e : Mx.sp s.data.toList (.mk 4 S [c] mn mx) x = Mx.spRep s.data.toList [c] mn mx x := by rw [Mx.sp]; simp
      rw [e]
      show Mx.upto (Mx.sp s.data.toList c) (Mx.more s.data.toList.length mn mx) (Mx.iter (Mx.sp s.data.toList c) mn.toNat x) = _
      rw [hM, Int.toNat_natCast])
  have HIH := hid_mk ih
  have HG := hid_mk hG
  have HKA := hid_mk hk
  have HAD := hid_mk (Mx.adds_sp s.data.toList c)
  have HKP : Hid (Mx.Keeps (s.size + 1) (Mx.sp s.data.toList c)) := hid_mk (by have := Mx.keeps_sp s.data.toList c; rwa [len_data] at this)
  have HSI := hid_mk (HKP.out.iter M x hx)
  have HKI := hid_mk (fun j => HKP.out.iter j _ HSI.out)
  have HKX := hid_mk (fun j => HKP.out.iter j _ hx)
  have HMN := hid_mk hM
  have HMX : Hid (n.max = -1 ∨ ((M : Nat) : Int) ≤ n.max) := hid_mk (by omega)
  obtain ⟨ba, oa, A', ca', hAE, hga, hsa', hkc, hcc⟩ := kidsAt_at hk h0
  subst hAE
  have hc0 : n.kids[0] = c := by simp [hc]
  rw [hc0] at hkc hcc hsa'
  have HKC := hid_mk hkc
  have HCA : Hid (∀ (V : World), Below w.heap.size w V → ∀ j u, [.int .i64 (c.kind), .int .u64 ((c.set).a.toNat : Int), .int .u64 ((c.set).b.toNat : Int), .int .u64 ((c.set).c.toNat : Int), .int .u64 ((c.set).d.toNat : Int), .slice (A') (c.kids.length) (ca'), .int .i64 (c.min), .int .i64 (c.max)][j]? = some u → V.cell? ⟨ba, oa + j, none⟩ = some u) := hid_mk (fun V hV j u hj => by
    have h1 := hcc j u hj
    rw [← h1, hV.cell (p := ⟨ba, oa + j, none⟩) (HG.out ba hga)]
    rw [show oa + 0 * 8 + j = oa + j by omega])
  have HCL := hide (fun (g cap : Nat) (x : Mx.Pos) (w : World) (h : MarksAt (s.size + 1) w g cap x) => mclone_any (s.size + 1) g cap x w (by omega) h)
  have HMW := hid_mk (hm.call ((Below.refl w.heap.size w).alloc (Nat.le_refl _) (.cells #[.int .i64 (n.kind), .int .u64 ((n.set).a.toNat : Int), .int .u64 ((n.set).b.toNat : Int), .int .u64 ((n.set).c.toNat : Int), .int .u64 ((n.set).d.toNat : Int), .slice (some ⟨ba, oa, none⟩) (n.kids.length) (ca), .int .i64 (n.min), .int .i64 (n.max)] 28)))
  have hli : (0 : Int) ≤ (M : Int) := by omega
  clear hc h4 hmn hmx ih hG hk hm hx hM hkc hcc hc0
  go_enter Tryd.func47, Tryd.ntmps47
  go_wp2_with fail
  refine (unhide HCL _ _ _ _ HMW.out).mono ?_
  rintro e w1 ⟨g1, cap1, rfl, hm1, hg1, hb1⟩
  simp at hg1
  have HB1 : Hid (Below w.heap.size w w1) := hid_mk ((show Below w.heap.size w (w.alloc (.cells #[.int .i64 (n.kind), .int .u64 ((n.set).a.toNat : Int), .int .u64 ((n.set).b.toNat : Int), .int .u64 ((n.set).c.toNat : Int), .int .u64 ((n.set).d.toNat : Int), .slice (some ⟨ba, oa, none⟩) (n.kids.length) (ca), .int .i64 (n.min), .int .i64 (n.max)] 28)) from (by repeat (first | with_reducible exact Below.refl _ _ | with_reducible assumption | with_reducible refine Below.setCell ?_ (by first | omega | (dsimp only; omega) | (simp <;> omega)) _ | with_reducible refine Below.alloc ?_ (by first | omega | (simp <;> omega)) _ | with_reducible refine below_drewN ?_ _ | with_reducible refine Below.drew ?_))).trans (hb1.mono (by simp)))
  have hn1 := (Blk.new w #[.int .i64 (n.kind), .int .u64 ((n.set).a.toNat : Int), .int .u64 ((n.set).b.toNat : Int), .int .u64 ((n.set).c.toNat : Int), .int .u64 ((n.set).d.toNat : Int), .slice (some ⟨ba, oa, none⟩) (n.kids.length) (ca), .int .i64 (n.min), .int .i64 (n.max)] 28).call hb1
  have n6 : w1.cell? ⟨w.heap.size, 6, none⟩ = some (.int .i64 (M : Nat)) := by rw [← HMN.out]; exact hn1.cell 6
  have HX0 : Hid (TimesAt (s.size + 1) (Mx.sp s.data.toList c) x M w #[.int .i64 (n.kind), .int .u64 ((n.set).a.toNat : Int), .int .u64 ((n.set).b.toNat : Int), .int .u64 ((n.set).c.toNat : Int), .int .u64 ((n.set).d.toNat : Int), .slice (some ⟨ba, oa, none⟩) (n.kids.length) (ca), .int .i64 (n.min), .int .i64 (n.max)] (.slice (some ⟨g1, 0, none⟩) (s.size + 1 : Nat) cap1) (.int .i64 ((0 : Nat) : Int)) w1) := hid_mk ⟨0, g1, cap1, rfl, rfl, Nat.zero_le _, hm1, by omega, HB1.out, hn1⟩
  clear hm1 hb1 hn1
  go_wp2
  go_loopw [7, 15] (fun u v wr => TimesAt (s.size + 1) (Mx.sp s.data.toList c) x M w #[.int .i64 (n.kind), .int .u64 ((n.set).a.toNat : Int), .int .u64 ((n.set).b.toNat : Int), .int .u64 ((n.set).c.toNat : Int), .int .u64 ((n.set).d.toNat : Int), .slice (some ⟨ba, oa, none⟩) (n.kids.length) (ca), .int .i64 (n.min), .int .i64 (n.max)] u v wr) (fun _ v _ => M - (intOf v).toNat)
  case atStart => exact HX0.out
  case round =>
    clear HX0 HB1 n6
    obtain ⟨k, gn, cn, rfl, rfl, hkM, hmg, hgn0, hb, hnb⟩ := hrel
    by_cases hlt : k < M
    · have n5 : wr.cell? ⟨w.heap.size, 5, none⟩ = some (.slice (some ⟨ba, oa, none⟩) n.kids.length ca) := hnb.cell 5
      have hz := HCA.out wr hb
      (have z0 : wr.cell? ⟨ba, oa, none⟩ = some (.int .i64 (c.kind)) := hz 0 _ rfl; have z1 : wr.cell? ⟨ba, oa + 1, none⟩ = some (.int .u64 ((c.set).a.toNat : Int)) := hz 1 _ rfl; have z2 : wr.cell? ⟨ba, oa + 2, none⟩ = some (.int .u64 ((c.set).b.toNat : Int)) := hz 2 _ rfl; have z3 : wr.cell? ⟨ba, oa + 3, none⟩ = some (.int .u64 ((c.set).c.toNat : Int)) := hz 3 _ rfl; have z4 : wr.cell? ⟨ba, oa + 4, none⟩ = some (.int .u64 ((c.set).d.toNat : Int)) := hz 4 _ rfl; have z5 : wr.cell? ⟨ba, oa + 5, none⟩ = some (.slice (A') (c.kids.length) (ca')) := hz 5 _ rfl; have z6 : wr.cell? ⟨ba, oa + 6, none⟩ = some (.int .i64 (c.min)) := hz 6 _ rfl; have z7 : wr.cell? ⟨ba, oa + 7, none⟩ = some (.int .i64 (c.max)) := hz 7 _ rfl)
      have HB := hid_mk hb
      have HNB := hid_mk hnb
      have HMG := hid_mk hmg
      have HGN := hid_mk hgn0
      have hszw := hb.size
      have HCX := hide (HIH.out A' ca' G gn cn _ wr (fun b hb' => Nat.lt_of_lt_of_le (HG.out b hb') hszw) (kids_two HKC.out hb HG.out) hmg (HKX.out k))
      have HIS := hid_mk (Mx.iter_succ (Mx.sp s.data.toList c) k x)
      clear hb hnb hmg
      go_wp2_with fail
      refine (unhide HCX).mono ?_
      rintro e w3 ⟨g3, cap3, rfl, hm3, hg3, hb3⟩
      have HB3 := hid_mk (HB.out.trans (hb3.mono HB.out.size))
      have HN3 := hid_mk (HNB.out.call hb3)
      have HMG3 := hid_mk (HMG.out.call hb3)
      have hlwr := HNB.out.lt
      have HM3 := hid_mk hm3
      have HEQ := hide (mequal_any (s.size + 1) g3 cap3 gn cn _ _ w3 (by omega) hm3 HMG3.out)
      have HEF := hid_mk (fun h => eqB_fun (N := s.size + 1) (HKP.out _ (HKX.out k)) (HKX.out k) h)
      clear hb3 hm3
      generalize eqB (Mx.sp s.data.toList c (Mx.iter (Mx.sp s.data.toList c) k x)) (Mx.iter (Mx.sp s.data.toList c) k x) (s.size + 1) = eb at *
      cases eb
      case true =>
        have HFX := hid_mk (iter_fix (HEF.out rfl) M hkM)
        clear HEF
        go_wp2_with fail
        refine (unhide HEQ).mono ?_
        rintro e v0 ⟨rfl, hbv⟩
        have HBU := hid_mk (HB3.out.trans (hbv.mono HB3.out.size))
        have HNU := hid_mk (HN3.out.call hbv)
        have HNM : Hid (MarksAt (s.size + 1) v0 gn cn (Mx.iter (Mx.sp s.data.toList c) M x)) := hid_mk (by rw [HFX.out]; exact HMG3.out.call hbv)
        clear hbv
        go_wp2_with fail
        refine (unhide HCL _ _ _ _ HNM.out).mono ?_
        rintro e v1 ⟨go, co, rfl, hmo, hgo, hbo⟩
        have HB1 := hid_mk (HBU.out.trans (hbo.mono HBU.out.size))
        have HN1 := hid_mk (HNU.out.call hbo)
        have hn1 := HN1.out
        have n6 : v1.cell? ⟨w.heap.size, 6, none⟩ = some (.int .i64 (M : Nat)) := by rw [← HMN.out]; exact hn1.cell 6
        have HM1 := hid_mk (HNM.out.call hbo)
        have hsu := HBU.out.size
        have hgn := HNM.out.lt
        have HX1 : Hid (MoreAt (s.size + 1) go co (Mx.sp s.data.toList c) (Mx.iter (Mx.sp s.data.toList c) M x) M n.max w #[.int .i64 (n.kind), .int .u64 ((n.set).a.toNat : Int), .int .u64 ((n.set).b.toNat : Int), .int .u64 ((n.set).c.toNat : Int), .int .u64 ((n.set).d.toNat : Int), .slice (some ⟨ba, oa, none⟩) (n.kids.length) (ca), .int .i64 (n.min), .int .i64 (n.max)] (.slice (some ⟨gn, 0, none⟩) (s.size + 1 : Nat) cn) (.int .i64 (M : Nat)) v1) := hid_mk
          ⟨0, gn, cn, rfl, rfl, HMX.out.imp id (fun h => by simpa using h), fun i hi => absurd hi (by omega), HM1.out, hmo, by omega, by omega, HGN.out, HB1.out, HN1.out⟩
        clear hbo hmo hn1 hgo
        go_wp2
        go_loopw [7, 10] (fun u v wr => MoreAt (s.size + 1) go co (Mx.sp s.data.toList c) (Mx.iter (Mx.sp s.data.toList c) M x) M n.max w #[.int .i64 (n.kind), .int .u64 ((n.set).a.toNat : Int), .int .u64 ((n.set).b.toNat : Int), .int .u64 ((n.set).c.toNat : Int), .int .u64 ((n.set).d.toNat : Int), .slice (some ⟨ba, oa, none⟩) (n.kids.length) (ca), .int .i64 (n.min), .int .i64 (n.max)] u v wr) (fun _ v _ => (M + s.size + 1) - (intOf v).toNat)
        case atStart => exact HX1.out
        case round =>
          clear HX1 n6
          obtain ⟨j, gg, cc, rfl, rfl, hjm, hst, hmg, hmo, hne, hgo, hgg, hb, hnb⟩ := hrel
          have hjl := more_bound HAD.out HKP.out HSI.out hst
          have n7 : wr.cell? ⟨w.heap.size, 7, none⟩ = some (.int .i64 n.max) := hnb.cell 7
          have n5 : wr.cell? ⟨w.heap.size, 5, none⟩ = some (.slice (some ⟨ba, oa, none⟩) n.kids.length ca) := hnb.cell 5
          have hz := HCA.out wr hb
          (have z0 : wr.cell? ⟨ba, oa, none⟩ = some (.int .i64 (c.kind)) := hz 0 _ rfl; have z1 : wr.cell? ⟨ba, oa + 1, none⟩ = some (.int .u64 ((c.set).a.toNat : Int)) := hz 1 _ rfl; have z2 : wr.cell? ⟨ba, oa + 2, none⟩ = some (.int .u64 ((c.set).b.toNat : Int)) := hz 2 _ rfl; have z3 : wr.cell? ⟨ba, oa + 3, none⟩ = some (.int .u64 ((c.set).c.toNat : Int)) := hz 3 _ rfl; have z4 : wr.cell? ⟨ba, oa + 4, none⟩ = some (.int .u64 ((c.set).d.toNat : Int)) := hz 4 _ rfl; have z5 : wr.cell? ⟨ba, oa + 5, none⟩ = some (.slice (A') (c.kids.length) (ca')) := hz 5 _ rfl; have z6 : wr.cell? ⟨ba, oa + 6, none⟩ = some (.int .i64 (c.min)) := hz 6 _ rfl; have z7 : wr.cell? ⟨ba, oa + 7, none⟩ = some (.int .i64 (c.max)) := hz 7 _ rfl)
          have HB := hid_mk hb
          have HNB := hid_mk hnb
          have HMG := hid_mk hmg
          have HMO := hid_mk hmo
          have HST := hid_mk hst
          have hszw := hb.size
          have HCX := hide (HIH.out A' ca' G gg cc _ wr (fun b hb' => Nat.lt_of_lt_of_le (HG.out b hb') hszw) (kids_two HKC.out hb HG.out) hmg (HKI.out j))
          clear hb hnb hmg hmo hst
          by_cases hgo2 : n.max = -1 ∨ ((M + j : Nat) : Int) < n.max
          · have HGO := hid_mk hgo2
            have tst : (n.max == -1) = true ∨ ((n.max == -1) = false ∧ decide (((M : Int) + (j : Int)) < n.max) = true) := by
              by_cases h1 : n.max = -1
              · exact Or.inl (by simpa using h1)
              · exact Or.inr ⟨by simpa using h1, by have := hgo2.resolve_left h1; simp; omega⟩
            have hfin : Hid (frs (Mx.upto (Mx.sp s.data.toList c) j (Mx.iter (Mx.sp s.data.toList c) M x)) (Mx.sp s.data.toList c (Mx.iter (Mx.sp s.data.toList c) j (Mx.iter (Mx.sp s.data.toList c) M x))) (s.size + 1) = false → Mx.upto (Mx.sp s.data.toList c) (j + 1) (Mx.iter (Mx.sp s.data.toList c) M x) = Mx.upto (Mx.sp s.data.toList c) j (Mx.iter (Mx.sp s.data.toList c) M x)) := hid_mk (fun h => by
              rw [Mx.upto_succ HAD.out, Mx.iter_succ]
              refine Mx.or_of_le (fun i hi => ?_)
              rcases Nat.lt_or_ge i (s.size + 1) with h1 | h1
              · exact frs_iff.1 h i h1 hi
              · rw [HKP.out _ (HKI.out j) i h1] at hi; cases hi)
            have hneq : Hid (frs (Mx.upto (Mx.sp s.data.toList c) j (Mx.iter (Mx.sp s.data.toList c) M x)) (Mx.sp s.data.toList c (Mx.iter (Mx.sp s.data.toList c) j (Mx.iter (Mx.sp s.data.toList c) M x))) (s.size + 1) = true → Mx.upto (Mx.sp s.data.toList c) (j + 1) (Mx.iter (Mx.sp s.data.toList c) M x) ≠ Mx.upto (Mx.sp s.data.toList c) j (Mx.iter (Mx.sp s.data.toList c) M x)) := hid_mk (fun h e => by
              rw [Mx.upto_succ HAD.out, Mx.iter_succ] at e
              have hle := Mx.le_of_or e
              have : frs (Mx.upto (Mx.sp s.data.toList c) j (Mx.iter (Mx.sp s.data.toList c) M x)) (Mx.sp s.data.toList c (Mx.iter (Mx.sp s.data.toList c) j (Mx.iter (Mx.sp s.data.toList c) M x))) (s.size + 1) = false := frs_iff.2 (fun i _ hi => hle i hi)
              rw [this] at h; cases h)
            have HUS := hid_mk (Mx.upto_succ HAD.out j (Mx.iter (Mx.sp s.data.toList c) M x))
            have HIS := hid_mk (Mx.iter_succ (Mx.sp s.data.toList c) j (Mx.iter (Mx.sp s.data.toList c) M x))
            clear hgo2 hjm
            rcases tst with t1 | ⟨t1, t2⟩
            all_goals
              go_wp2_with fail
              refine (unhide HCX).mono ?_
              rintro e w3 ⟨g3, cap3, rfl, hm3, hg3, hb3⟩
              have HB3 := hid_mk (HB.out.trans (hb3.mono HB.out.size))
              have HN3 := hid_mk (HNB.out.call hb3)
              have hmo3 := HMO.out.call hb3
              have hgl := HMO.out.lt
              have hne3 : g3 ≠ go := by omega
              have HM3 := hid_mk hm3
              have HJ := hide (mjoin_any (s.size + 1) go co g3 cap3 _ _ w3 (by omega) hmo3 hm3 hne3)
              have hlw := HB3.out.size
              have hlo := hmo3.lt
              clear hb3 hmo3 hm3
              generalize hfr : frs (Mx.upto (Mx.sp s.data.toList c) j (Mx.iter (Mx.sp s.data.toList c) M x)) (Mx.sp s.data.toList c (Mx.iter (Mx.sp s.data.toList c) j (Mx.iter (Mx.sp s.data.toList c) M x))) (s.size + 1) = fr at *
              clear hfr
              cases fr
              case false =>
                have HE := hid_mk (hfin.out rfl)
                clear hfin hneq
                go_wp2_with fail
                refine (unhide HJ).mono ?_
                rintro e w4 ⟨rfl, hm4, ho4⟩
                have HR : Hid (MarksAt (s.size + 1) w4 go co (Mx.sp s.data.toList n x)) := hid_mk (by
                  rw [HRP.out]
                  have h1 : Mx.upto (Mx.sp s.data.toList c) (Mx.more s.data.toList.length n.min n.max) (Mx.iter (Mx.sp s.data.toList c) M x) = Mx.upto (Mx.sp s.data.toList c) j (Mx.iter (Mx.sp s.data.toList c) M x) := by
                    refine Mx.upto_stop HE.out _ ?_
                    unfold Mx.more
                    rw [len_data]
                    have := HGO.out
                    have hmn := HMN.out
                    split
                    · exact hjl
                    · rename_i h2; have := this.resolve_left h2; omega
                  rw [h1, ← HE.out, HUS.out, HIS.out]
                  exact hm4)
                have HB4 := hid_mk (HB3.out.trans (ho4.below (by omega) (by omega)))
                clear hm4 ho4
                go_wp2
                exact bodyPost_ret (v := .slice (some ⟨go, 0, none⟩) (s.size + 1 : Nat) co) (by simp [results, Tryd.results47, go_sem]) rfl ⟨_, _, rfl, HR.out, by omega, HB4.out⟩
              case true =>
                have HE := hid_mk (hneq.out rfl)
                clear hfin hneq
                go_wp2_with fail
                refine (unhide HJ).mono ?_
                rintro e w4 ⟨rfl, hm4, ho4⟩
                have HX4 : Hid (MoreAt (s.size + 1) go co (Mx.sp s.data.toList c) (Mx.iter (Mx.sp s.data.toList c) M x) M n.max w #[.int .i64 (n.kind), .int .u64 ((n.set).a.toNat : Int), .int .u64 ((n.set).b.toNat : Int), .int .u64 ((n.set).c.toNat : Int), .int .u64 ((n.set).d.toNat : Int), .slice (some ⟨ba, oa, none⟩) (n.kids.length) (ca), .int .i64 (n.min), .int .i64 (n.max)] (.slice (some ⟨g3, 0, none⟩) (s.size + 1 : Nat) cap3) (.int .i64 ((M + (j + 1) : Nat) : Int)) w4) := hid_mk
                  ⟨j + 1, g3, cap3, rfl, rfl, HGO.out.imp id (fun h => by omega), fun i hi => by
                    rcases Nat.lt_or_ge i j with h1 | h1
                    · exact HST.out i h1
                    · obtain rfl : i = j := by omega
                      exact HE.out,
                   by rw [HIS.out]; exact HM3.out.keep (ho4.block g3 HM3.out.lt hne3), by rw [HUS.out, HIS.out]; exact hm4, hne3, hgo, by omega, HB3.out.trans (ho4.below (by omega) (by omega)), ho4.blk (by omega) HN3.out⟩
                clear hm4 ho4
                go_wp2
                go_roundw
                case rel => exact HX4.out
                case measure => simp [intOf]; omega
          · have hmx1 : ¬ n.max = -1 := fun h => hgo2 (Or.inl h)
            have t1 : (n.max == -1) = false := by simpa using hmx1
            have hnlt : ¬ ((M + j : Nat) : Int) < n.max := fun h => hgo2 (Or.inr h)
            have t2 : decide (((M : Int) + (j : Int)) < n.max) = false := by simp; omega
            have hje : ((M + j : Nat) : Int) = n.max := by have := hjm.resolve_left hmx1; omega
            have HR : Hid (MarksAt (s.size + 1) wr go co (Mx.sp s.data.toList n x)) := hid_mk (by
              rw [HRP.out]
              have h1 : Mx.more s.data.toList.length n.min n.max = j := by
                unfold Mx.more
                rw [if_neg hmx1]
                have hmn := HMN.out
                omega
              rw [h1]
              exact HMO.out)
            clear hgo2 hmx1 hnlt hje hjm
            go_wp2
            exact bodyPost_ret (v := .slice (some ⟨go, 0, none⟩) (s.size + 1 : Nat) co) (by simp [results, Tryd.results47, go_sem]) rfl ⟨_, _, rfl, HR.out, by omega, HB.out⟩
      case false =>
        clear HEF
        go_wp2_with fail
        refine (unhide HEQ).mono ?_
        rintro e w4 ⟨rfl, hb4⟩
        have HX4 : Hid (TimesAt (s.size + 1) (Mx.sp s.data.toList c) x M w #[.int .i64 (n.kind), .int .u64 ((n.set).a.toNat : Int), .int .u64 ((n.set).b.toNat : Int), .int .u64 ((n.set).c.toNat : Int), .int .u64 ((n.set).d.toNat : Int), .slice (some ⟨ba, oa, none⟩) (n.kids.length) (ca), .int .i64 (n.min), .int .i64 (n.max)] (.slice (some ⟨g3, 0, none⟩) (s.size + 1 : Nat) cap3) (.int .i64 ((k + 1 : Nat) : Int)) w4) := hid_mk ⟨k + 1, g3, cap3, rfl, rfl, by omega, by rw [HIS.out]; exact HM3.out.call hb4, by omega, HB3.out.trans (hb4.mono HB3.out.size), HN3.out.call hb4⟩
        clear hb4
        go_wp2
        go_roundw
        case rel => exact HX4.out
        case measure => simp [intOf]; omega
    · obtain rfl : k = M := by omega
      have HBU := hid_mk hb
      have HNU := hid_mk hnb
      have HNM := hid_mk hmg
      have HGN := hid_mk hgn0
      clear hb hnb hmg
      go_wp2_with fail
      refine (unhide HCL _ _ _ _ HNM.out).mono ?_
      rintro e v1 ⟨go, co, rfl, hmo, hgo, hbo⟩
      have HB1 := hid_mk (HBU.out.trans (hbo.mono HBU.out.size))
      have HN1 := hid_mk (HNU.out.call hbo)
      have hn1 := HN1.out
      have n6 : v1.cell? ⟨w.heap.size, 6, none⟩ = some (.int .i64 (k : Nat)) := by rw [← HMN.out]; exact hn1.cell 6
      have HM1 := hid_mk (HNM.out.call hbo)
      have hsu := HBU.out.size
      have hgn := HNM.out.lt
      have HX1 : Hid (MoreAt (s.size + 1) go co (Mx.sp s.data.toList c) (Mx.iter (Mx.sp s.data.toList c) k x) k n.max w #[.int .i64 (n.kind), .int .u64 ((n.set).a.toNat : Int), .int .u64 ((n.set).b.toNat : Int), .int .u64 ((n.set).c.toNat : Int), .int .u64 ((n.set).d.toNat : Int), .slice (some ⟨ba, oa, none⟩) (n.kids.length) (ca), .int .i64 (n.min), .int .i64 (n.max)] (.slice (some ⟨gn, 0, none⟩) (s.size + 1 : Nat) cn) (.int .i64 (k : Nat)) v1) := hid_mk
        ⟨0, gn, cn, rfl, rfl, HMX.out.imp id (fun h => by simpa using h), fun i hi => absurd hi (by omega), HM1.out, hmo, by omega, by omega, HGN.out, HB1.out, HN1.out⟩
      clear hbo hmo hn1 hgo
      go_wp2
      go_loopw [7, 10] (fun u v wr => MoreAt (s.size + 1) go co (Mx.sp s.data.toList c) (Mx.iter (Mx.sp s.data.toList c) k x) k n.max w #[.int .i64 (n.kind), .int .u64 ((n.set).a.toNat : Int), .int .u64 ((n.set).b.toNat : Int), .int .u64 ((n.set).c.toNat : Int), .int .u64 ((n.set).d.toNat : Int), .slice (some ⟨ba, oa, none⟩) (n.kids.length) (ca), .int .i64 (n.min), .int .i64 (n.max)] u v wr) (fun _ v _ => (k + s.size + 1) - (intOf v).toNat)
      case atStart => exact HX1.out
      case round =>
        clear HX1 n6
        obtain ⟨j, gg, cc, rfl, rfl, hjm, hst, hmg, hmo, hne, hgo, hgg, hb, hnb⟩ := hrel
        have hjl := more_bound HAD.out HKP.out HSI.out hst
        have n7 : wr.cell? ⟨w.heap.size, 7, none⟩ = some (.int .i64 n.max) := hnb.cell 7
        have n5 : wr.cell? ⟨w.heap.size, 5, none⟩ = some (.slice (some ⟨ba, oa, none⟩) n.kids.length ca) := hnb.cell 5
        have hz := HCA.out wr hb
        (have z0 : wr.cell? ⟨ba, oa, none⟩ = some (.int .i64 (c.kind)) := hz 0 _ rfl; have z1 : wr.cell? ⟨ba, oa + 1, none⟩ = some (.int .u64 ((c.set).a.toNat : Int)) := hz 1 _ rfl; have z2 : wr.cell? ⟨ba, oa + 2, none⟩ = some (.int .u64 ((c.set).b.toNat : Int)) := hz 2 _ rfl; have z3 : wr.cell? ⟨ba, oa + 3, none⟩ = some (.int .u64 ((c.set).c.toNat : Int)) := hz 3 _ rfl; have z4 : wr.cell? ⟨ba, oa + 4, none⟩ = some (.int .u64 ((c.set).d.toNat : Int)) := hz 4 _ rfl; have z5 : wr.cell? ⟨ba, oa + 5, none⟩ = some (.slice (A') (c.kids.length) (ca')) := hz 5 _ rfl; have z6 : wr.cell? ⟨ba, oa + 6, none⟩ = some (.int .i64 (c.min)) := hz 6 _ rfl; have z7 : wr.cell? ⟨ba, oa + 7, none⟩ = some (.int .i64 (c.max)) := hz 7 _ rfl)
        have HB := hid_mk hb
        have HNB := hid_mk hnb
        have HMG := hid_mk hmg
        have HMO := hid_mk hmo
        have HST := hid_mk hst
        have hszw := hb.size
        have HCX := hide (HIH.out A' ca' G gg cc _ wr (fun b hb' => Nat.lt_of_lt_of_le (HG.out b hb') hszw) (kids_two HKC.out hb HG.out) hmg (HKI.out j))
        clear hb hnb hmg hmo hst
        by_cases hgo2 : n.max = -1 ∨ ((k + j : Nat) : Int) < n.max
        · have HGO := hid_mk hgo2
          have tst : (n.max == -1) = true ∨ ((n.max == -1) = false ∧ decide (((k : Int) + (j : Int)) < n.max) = true) := by
            by_cases h1 : n.max = -1
            · exact Or.inl (by simpa using h1)
            · exact Or.inr ⟨by simpa using h1, by have := hgo2.resolve_left h1; simp; omega⟩
          have hfin : Hid (frs (Mx.upto (Mx.sp s.data.toList c) j (Mx.iter (Mx.sp s.data.toList c) k x)) (Mx.sp s.data.toList c (Mx.iter (Mx.sp s.data.toList c) j (Mx.iter (Mx.sp s.data.toList c) k x))) (s.size + 1) = false → Mx.upto (Mx.sp s.data.toList c) (j + 1) (Mx.iter (Mx.sp s.data.toList c) k x) = Mx.upto (Mx.sp s.data.toList c) j (Mx.iter (Mx.sp s.data.toList c) k x)) := hid_mk (fun h => by
            rw [Mx.upto_succ HAD.out, Mx.iter_succ]
            refine Mx.or_of_le (fun i hi => ?_)
            rcases Nat.lt_or_ge i (s.size + 1) with h1 | h1
            · exact frs_iff.1 h i h1 hi
            · rw [HKP.out _ (HKI.out j) i h1] at hi; cases hi)
          have hneq : Hid (frs (Mx.upto (Mx.sp s.data.toList c) j (Mx.iter (Mx.sp s.data.toList c) k x)) (Mx.sp s.data.toList c (Mx.iter (Mx.sp s.data.toList c) j (Mx.iter (Mx.sp s.data.toList c) k x))) (s.size + 1) = true → Mx.upto (Mx.sp s.data.toList c) (j + 1) (Mx.iter (Mx.sp s.data.toList c) k x) ≠ Mx.upto (Mx.sp s.data.toList c) j (Mx.iter (Mx.sp s.data.toList c) k x)) := hid_mk (fun h e => by
            rw [Mx.upto_succ HAD.out, Mx.iter_succ] at e
            have hle := Mx.le_of_or e
            have : frs (Mx.upto (Mx.sp s.data.toList c) j (Mx.iter (Mx.sp s.data.toList c) k x)) (Mx.sp s.data.toList c (Mx.iter (Mx.sp s.data.toList c) j (Mx.iter (Mx.sp s.data.toList c) k x))) (s.size + 1) = false := frs_iff.2 (fun i _ hi => hle i hi)
            rw [this] at h; cases h)
          have HUS := hid_mk (Mx.upto_succ HAD.out j (Mx.iter (Mx.sp s.data.toList c) k x))
          have HIS := hid_mk (Mx.iter_succ (Mx.sp s.data.toList c) j (Mx.iter (Mx.sp s.data.toList c) k x))
          clear hgo2 hjm
          rcases tst with t1 | ⟨t1, t2⟩
          all_goals
            go_wp2_with fail
            refine (unhide HCX).mono ?_
            rintro e w3 ⟨g3, cap3, rfl, hm3, hg3, hb3⟩
            have HB3 := hid_mk (HB.out.trans (hb3.mono HB.out.size))
            have HN3 := hid_mk (HNB.out.call hb3)
            have hmo3 := HMO.out.call hb3
            have hgl := HMO.out.lt
            have hne3 : g3 ≠ go := by omega
            have HM3 := hid_mk hm3
            have HJ := hide (mjoin_any (s.size + 1) go co g3 cap3 _ _ w3 (by omega) hmo3 hm3 hne3)
            have hlw := HB3.out.size
            have hlo := hmo3.lt
            clear hb3 hmo3 hm3
            generalize hfr : frs (Mx.upto (Mx.sp s.data.toList c) j (Mx.iter (Mx.sp s.data.toList c) k x)) (Mx.sp s.data.toList c (Mx.iter (Mx.sp s.data.toList c) j (Mx.iter (Mx.sp s.data.toList c) k x))) (s.size + 1) = fr at *
            clear hfr
            cases fr
            case false =>
              have HE := hid_mk (hfin.out rfl)
              clear hfin hneq
              go_wp2_with fail
              refine (unhide HJ).mono ?_
              rintro e w4 ⟨rfl, hm4, ho4⟩
              have HR : Hid (MarksAt (s.size + 1) w4 go co (Mx.sp s.data.toList n x)) := hid_mk (by
                rw [HRP.out]
                have h1 : Mx.upto (Mx.sp s.data.toList c) (Mx.more s.data.toList.length n.min n.max) (Mx.iter (Mx.sp s.data.toList c) k x) = Mx.upto (Mx.sp s.data.toList c) j (Mx.iter (Mx.sp s.data.toList c) k x) := by
                  refine Mx.upto_stop HE.out _ ?_
                  unfold Mx.more
                  rw [len_data]
                  have := HGO.out
                  have hmn := HMN.out
                  split
                  · exact hjl
                  · rename_i h2; have := this.resolve_left h2; omega
                rw [h1, ← HE.out, HUS.out, HIS.out]
                exact hm4)
              have HB4 := hid_mk (HB3.out.trans (ho4.below (by omega) (by omega)))
              clear hm4 ho4
              go_wp2
              exact bodyPost_ret (v := .slice (some ⟨go, 0, none⟩) (s.size + 1 : Nat) co) (by simp [results, Tryd.results47, go_sem]) rfl ⟨_, _, rfl, HR.out, by omega, HB4.out⟩
            case true =>
              have HE := hid_mk (hneq.out rfl)
              clear hfin hneq
              go_wp2_with fail
              refine (unhide HJ).mono ?_
              rintro e w4 ⟨rfl, hm4, ho4⟩
              have HX4 : Hid (MoreAt (s.size + 1) go co (Mx.sp s.data.toList c) (Mx.iter (Mx.sp s.data.toList c) k x) k n.max w #[.int .i64 (n.kind), .int .u64 ((n.set).a.toNat : Int), .int .u64 ((n.set).b.toNat : Int), .int .u64 ((n.set).c.toNat : Int), .int .u64 ((n.set).d.toNat : Int), .slice (some ⟨ba, oa, none⟩) (n.kids.length) (ca), .int .i64 (n.min), .int .i64 (n.max)] (.slice (some ⟨g3, 0, none⟩) (s.size + 1 : Nat) cap3) (.int .i64 ((k + (j + 1) : Nat) : Int)) w4) := hid_mk
                ⟨j + 1, g3, cap3, rfl, rfl, HGO.out.imp id (fun h => by omega), fun i hi => by
                  rcases Nat.lt_or_ge i j with h1 | h1
                  · exact HST.out i h1
                  · obtain rfl : i = j := by omega
                    exact HE.out,
                 by rw [HIS.out]; exact HM3.out.keep (ho4.block g3 HM3.out.lt hne3), by rw [HUS.out, HIS.out]; exact hm4, hne3, hgo, by omega, HB3.out.trans (ho4.below (by omega) (by omega)), ho4.blk (by omega) HN3.out⟩
              clear hm4 ho4
              go_wp2
              go_roundw
              case rel => exact HX4.out
              case measure => simp [intOf]; omega
        · have hmx1 : ¬ n.max = -1 := fun h => hgo2 (Or.inl h)
          have t1 : (n.max == -1) = false := by simpa using hmx1
          have hnlt : ¬ ((k + j : Nat) : Int) < n.max := fun h => hgo2 (Or.inr h)
          have t2 : decide (((k : Int) + (j : Int)) < n.max) = false := by simp; omega
          have hje : ((k + j : Nat) : Int) = n.max := by have := hjm.resolve_left hmx1; omega
          have HR : Hid (MarksAt (s.size + 1) wr go co (Mx.sp s.data.toList n x)) := hid_mk (by
            rw [HRP.out]
            have h1 : Mx.more s.data.toList.length n.min n.max = j := by
              unfold Mx.more
              rw [if_neg hmx1]
              have hmn := HMN.out
              omega
            rw [h1]
            exact HMO.out)
          clear hgo2 hmx1 hnlt hje hjm
          go_wp2
          exact bodyPost_ret (v := .slice (some ⟨go, 0, none⟩) (s.size + 1 : Nat) co) (by simp [results, Tryd.results47, go_sem]) rfl ⟨_, _, rfl, HR.out, by omega, HB.out⟩
theorem moved_rep (s : ByteArray) (hs : s.size ≤ 90000) (n c : Node) (hc : n.kids = [c]) (h4 : n.kind = 4) (hmn : 0 ≤ n.min ∧ n.min ≤ 16) (hmx : n.max = -1 ∨ n.min ≤ n.max) (hmx2 : n.max ≤ 16) (ih : MovedOk s c) : MovedOk s n := by
  intro A ca G g cap x w hG hk hm hx
  obtain ⟨i0, hi, hz0, hz1, hz2⟩ := bool_parts
  have hz3 : i0.bytes * (s.size + 1) ≤ 281474976710656 := by rw [hz2]; omega
  have e1 : (n.kind == 1) = false := by rw [h4]; rfl
  have e2 : (n.kind == 2) = false := by rw [h4]; rfl
  have e3 : (n.kind == 3) = false := by rw [h4]; rfl
  have e4 : (n.kind == 4) = true := by rw [h4]; rfl
  have hsz : (s.size + 1 : Nat) ≤ 9223372036854775807 := by omega
  have hbw2 : Below w.heap.size w ((w.alloc (.cells #[.int .i64 (n.kind), .int .u64 ((n.set).a.toNat : Int), .int .u64 ((n.set).b.toNat : Int), .int .u64 ((n.set).c.toNat : Int), .int .u64 ((n.set).d.toNat : Int), .slice (A) (n.kids.length) (ca), .int .i64 (n.min), .int .i64 (n.max)] 28)).alloc (.cells (madeCells #[.bool false] (s.size + 1)) 4)) := (by repeat (first | with_reducible exact Below.refl _ _ | with_reducible assumption | with_reducible refine Below.setCell ?_ (by first | omega | (dsimp only; omega) | (simp <;> omega)) _ | with_reducible refine Below.alloc ?_ (by first | omega | (simp <;> omega)) _ | with_reducible refine below_drewN ?_ _ | with_reducible refine Below.drew ?_))
  have HO := hide (often_any s hs n c hc h4 hmn hmx hmx2 ih A ca G g cap x ((w.alloc (.cells #[.int .i64 (n.kind), .int .u64 ((n.set).a.toNat : Int), .int .u64 ((n.set).b.toNat : Int), .int .u64 ((n.set).c.toNat : Int), .int .u64 ((n.set).d.toNat : Int), .slice (A) (n.kids.length) (ca), .int .i64 (n.min), .int .i64 (n.max)] 28)).alloc (.cells (madeCells #[.bool false] (s.size + 1)) 4)) (fun b hb => Nat.lt_of_lt_of_le (hG b hb) hbw2.size) (kids_two hk hbw2 hG) (hm.call hbw2) hx)
  have HB := hid_mk hbw2
  clear hm hx hk hG h4 ih hbw2 hc hmn hmx hmx2
  go_enter Tryd.func34, Tryd.ntmps34
  go_wp2_with (refine wpList_make_row _ rfl _ _ 62 rfl 4 i0 (.bool false) Tryd.underlying62 hi hz0 hz1 rfl .i64 .i64 (s.size + 1) rfl rfl hz3 hsz ?_)
  refine (unhide HO).mono ?_
  rintro e w1 ⟨g1, cap1, rfl, hm1, hg1, hb1⟩
  have HM1 := hid_mk hm1
  have HB1 := hid_mk (HB.out.trans (hb1.mono HB.out.size))
  have hg2 : w.heap.size ≤ g1 := Nat.le_trans HB.out.size hg1
  clear hm1 hb1 hg1
  go_wp2
  exact bodyPost_ret (v := .slice (some ⟨g1, 0, none⟩) (s.size + 1 : Nat) cap1) (by simp [results, Tryd.results34, go_sem]) rfl ⟨_, _, rfl, HM1.out, hg2, HB1.out⟩
theorem moved_any (s : ByteArray) (hs : s.size ≤ 90000) : ∀ (m : Nat) (n : Node), n.size ≤ m → n.lens → Rx.right n = true → MovedOk s n := by
  intro m
  induction m with
  | zero => intro a h; exact absurd h (by have := a.size_pos; omega)
  | succ m ih =>
    intro n hn hl hr
    have hr' := hr
    rw [Rx.right_eq, Bool.and_eq_true] at hr'
    have hk := (Rx.rights_iff _ _).1 hr'.2
    have IH : ∀ c ∈ n.kids, MovedOk s c := fun c hc => ih c (by have := Node.size_mem_kids hc; omega) (Node.lens_mem hl hc) (hk c hc).1
    have hal := Node.lens_len hl
    have ht := hr'.1
    by_cases h1 : n.kind = 1
    · exact moved_one s hs n h1
    by_cases h2 : n.kind = 2
    · exact moved_cat s hs n h2 hal IH
    by_cases h3 : n.kind = 3
    · exact moved_alt s hs n h3 hal IH
    by_cases h4 : n.kind = 4
    · simp [Rx.topB, h4] at ht
      obtain ⟨c, hc⟩ : ∃ c, n.kids = [c] := List.length_eq_one_iff.1 ht.2.1
      have htm := ht.2.2
      simp [Rx.timesB] at htm
      exact moved_rep s hs n c hc h4 (by omega) (by omega) (by omega) (IH c (by rw [hc]; simp))
    · simp [Rx.topB, h1, h2, h3, h4] at ht
end Go.Proofs.YthgcefppeaopkaaDoor
