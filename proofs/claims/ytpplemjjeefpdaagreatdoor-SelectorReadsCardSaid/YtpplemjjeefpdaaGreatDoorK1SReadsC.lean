/- porterlaw23.SelectorReads returns true for every input and leaves its arguments as they were. No condition. -/
import Derived.Test.YtpplemjjeefpdaaGreatDoorCards
import Derived.Test.YtpplemjjeefpdaaGreatDoorTie
import Derived.ChangeKeysEq
import Derived.WalkKit
import Derived.KernelRfl
import Derived.Lib.TrailingZeros
import Derived.Shelf.Unicode.DecodeSlow
import Derived.Laws.Tables
import Derived.Laws.MakeOwn
import Derived.Maps.AppendAt
import Derived.Laws.BytesString
import Derived.Laws.IdiomStrings
import Derived.Laws.StructEq
import Derived.Lib.OthersKept
import Derived.Lib.AppendStr
import Derived.Laws.CopyRow
import Derived.Still
import Derived.StillTail
import Derived.LoopN
import Derived.Test.YtpplemjjeefpdaaGreatDoorProg
import Derived.Laws.BitsAllLaws
import Derived.Below
import Derived.Calls
import Derived.Deep.Draws
import Derived.WalkSpells
import Derived.Deep.QuietTactic
import Derived.BigQuiet
import Derived.BigRegion
import Derived.RegionTactic
import Derived.WalkLawsBesides
import Derived.Shelf.Spec.TrailingZeros
import Derived.Defers
import Derived.Recover
import Derived.Laws.Pointers
import Derived.Lib.Builder
import Derived.Lib.UnsafeStr
import Derived.Shelf.RegionOpenPlain
import Derived.Laws.Externs
import Derived.Shelf.Small.Bits
import Derived.Shelf.Small.Strs
import Derived.Shelf.Strconv.Itoa0
import Derived.Shelf.Strings.Search1
import Derived.Shelf.Sort.Plain
import Derived.Shelf.Unicode.Decode
import Derived.Shelf.Unicode.DecodeAny
import Derived.Shelf.Slices.CompactS
import Derived.Ground.Names2Prog
import Derived.Shelf.Slices.SearchI
import Derived.Shelf.Slices.Cells
import Derived.Shelf.Slices.In.SortNone
import Derived.Test.YtpplemjjeefpdaaGreatDoorRows
import Derived.Lib.LaidU8
import Derived.Lib.LaidTab
import Derived.Lib.DecodeN
import Derived.Sort.Walk0
import Derived.Sort.EncStr
import Derived.Sort.Grow
import Derived.ChangeArms
import Derived.OpenShut
import Derived.DataReads
import Derived.WideShapes
import Derived.Deep.Slices
import Derived.Laws.OwnMore
import Derived.Laws.AppendOwn
import Derived.ProofKit
import Derived.ShutString
import Derived.Carry
import Derived.LaidMore
import Derived.Deep.DeepHandedRow
import Derived.Test.YtpplemjjeefpdaaGreatDoorK127
import Derived.Test.YtpplemjjeefpdaaGreatDoorK143
import Derived.Test.YtpplemjjeefpdaaGreatDoorK123
import Derived.Test.YtpplemjjeefpdaaGreatDoorK114
import Derived.Test.YtpplemjjeefpdaaGreatDoorK113
import Derived.Test.YtpplemjjeefpdaaGreatDoorK112
import Derived.Test.YtpplemjjeefpdaaGreatDoorK111
import Derived.Test.YtpplemjjeefpdaaGreatDoorK110
import Derived.Test.YtpplemjjeefpdaaGreatDoorK109
import Derived.Test.YtpplemjjeefpdaaGreatDoorK108
import Derived.Test.YtpplemjjeefpdaaGreatDoorK107
import Derived.Test.YtpplemjjeefpdaaGreatDoorK106
import Derived.Test.YtpplemjjeefpdaaGreatDoorK105
import Derived.Test.YtpplemjjeefpdaaGreatDoorK104
import Derived.Test.YtpplemjjeefpdaaGreatDoorK103
import Derived.Test.YtpplemjjeefpdaaGreatDoorK102
import Derived.Test.YtpplemjjeefpdaaGreatDoorK101
import Derived.Test.YtpplemjjeefpdaaGreatDoorK122
import Derived.Test.YtpplemjjeefpdaaGreatDoorK121
import Derived.Test.YtpplemjjeefpdaaGreatDoorK120
import Derived.Test.YtpplemjjeefpdaaGreatDoorK117
import Derived.Test.YtpplemjjeefpdaaGreatDoorK115
import Derived.Test.YtpplemjjeefpdaaGreatDoorK116
import Derived.Test.YtpplemjjeefpdaaGreatDoorK119
import Derived.Test.YtpplemjjeefpdaaGreatDoorK118
import Derived.Test.YtpplemjjeefpdaaGreatDoorK126
import Derived.Test.YtpplemjjeefpdaaGreatDoorK125
import Derived.Test.YtpplemjjeefpdaaGreatDoorK124
import Derived.Test.YtpplemjjeefpdaaGreatDoorK146
import Derived.Test.YtpplemjjeefpdaaGreatDoorK131
import Derived.Test.YtpplemjjeefpdaaGreatDoorK145
import Derived.Test.YtpplemjjeefpdaaGreatDoorK144
import Derived.Test.YtpplemjjeefpdaaGreatDoorK130
import Derived.Test.YtpplemjjeefpdaaGreatDoorK129
import Derived.Test.YtpplemjjeefpdaaGreatDoorK128
import Derived.Test.YtpplemjjeefpdaaGreatDoorK147
import Derived.Test.YtpplemjjeefpdaaGreatDoorK133
import Derived.Test.YtpplemjjeefpdaaGreatDoorK132
import Derived.Test.YtpplemjjeefpdaaGreatDoorK136
import Derived.Test.YtpplemjjeefpdaaGreatDoorK135
import Derived.Test.YtpplemjjeefpdaaGreatDoorK134
import Derived.Test.YtpplemjjeefpdaaGreatDoorK137
namespace Go.Proofs.YtpplemjjeefpdaaGreatDoor.SelectorReads
open Go Go.ChangeShapes Go.WideShapes Go.ChangeAt Go.RowKit
open Go.ChangeMaps (open_string shut_string)
open Ab Sh Gn
set_option maxRecDepth 100000
set_option maxHeartbeats 600000
set_option linter.unusedVariables false
theorem op46 {H : Type} {enc : TypeId × Value → H} {W : World} {sp : Nat → Bool} {held : Bool} {fuel : Nat} {cs : List Value} {x : DataW H × List MemPlace} (h : DataW.trod enc Tryz.prog W 0 sp held fuel 46 cs = some x) : ∃ g : GMatcher, Op2.CRep (Op2.GW W) W (cMatcher g) cs := by
  obtain ⟨xs, m, rfl, hx, hl, hxl, hf⟩ := DataW.trod_struct Tryz.underlying46 h
  have hl : cs.length = 3 := hl.trans (by kernel_rfl)
  obtain ⟨y0, e0⟩ := Op2.fld hxl hf 0 _ rfl
  have e0 : DataW.trod enc Tryz.prog W 0 sp held m 9 ((cs.drop 0).take (Tryz.prog.cellsOf 9)) = some y0 := e0
  rw [show Tryz.prog.cellsOf 9 = 1 by kernel_rfl] at e0
  obtain ⟨a0, k0⟩ : ∃ a : ByteArray, Op2.CRep (Op2.GW W) W (cS a) ((cs.drop 0).take 1) := Op2.o_str Tryz.underlying9 e0
  obtain ⟨y1, e1⟩ := Op2.fld hxl hf 1 _ rfl
  have e1 : DataW.trod enc Tryz.prog W 0 sp held m 3 ((cs.drop 1).take (Tryz.prog.cellsOf 3)) = some y1 := e1
  rw [show Tryz.prog.cellsOf 3 = 1 by kernel_rfl] at e1
  obtain ⟨a1, k1⟩ : ∃ a : Int, Op2.CRep (Op2.GW W) W ((cI .i64) a) ((cs.drop 1).take 1) := Op2.o_int Tryz.underlying3 e1
  obtain ⟨y2, e2⟩ := Op2.fld hxl hf 2 _ rfl
  have e2 : DataW.trod enc Tryz.prog W 0 sp held m 9 ((cs.drop 2).take (Tryz.prog.cellsOf 9)) = some y2 := e2
  rw [show Tryz.prog.cellsOf 9 = 1 by kernel_rfl] at e2
  obtain ⟨a2, k2⟩ : ∃ a : ByteArray, Op2.CRep (Op2.GW W) W (cS a) ((cs.drop 2).take 1) := Op2.o_str Tryz.underlying9 e2
  exact ⟨⟨a0, a1, a2⟩, Op2.part k0 (Op2.part k1 (Op2.part_end (by omega) k2))⟩
theorem own : ownKnob Tryz.prog.godebug = none := by kernel_rfl
theorem laidOut : laidOutB Tryz.prog = true := by kernel_rfl
theorem contract (H : Type) (enc : TypeId × Value → H) (W : World) (base : Nat) (args : Array Value) (ds gs : List (DataW H)) (before : List MemPlace)
    (hval : ∀ (j : Nat) t v, Tryz.f3.params[j]? = some t → args[j]? = some v → Value.okWide Tryz.prog W .any base t v)
    (hW : DataW.Whole enc Tryz.prog Tryz.f3.params.toList Rows.selectorReadsSpec.vars false W args.toList ds gs before)
    (hsz : (DataW.weightsEach Tryz.prog (Tryz.f3.params.toList ++ (OpenSpec.ofChange Rows.selectorReadsSpec).bare.plain.varTypes Tryz.prog) (ds ++ gs)).all (· ≤ reachBytes) = true)
    (hL : laidMetH Tryz.prog Rows.selectorReadsRow.laid W) (hsh : W.ShapedOpen Tryz.prog) :
    Calls Tryz.prog 3 args W fun e W' => ∃ v, e = .returned v ∧ Rows.selectorReadsSpec.post enc Tryz.prog Tryz.f3 false true false false W args v W' := by
  have _u0 := hL
  have _u1 := hsz
  have _u2 := hsh
  have hW' := hW
  obtain ⟨p, q, hA0, hV, rfl, hfz, hnd⟩ := hW
  have hA : DataW.TrodAll enc Tryz.prog W 0 (fun _ => true) true Tryz.f3.params.toList args.toList ds p := hA0
  rw [Tryz.params3] at hA hval
  obtain ⟨v0, vs0, d0, ds0, p0, q0, hargs, rfl, rfl, h0, r0⟩ := trodAll_cons hA
  obtain ⟨v1, vs1, d1, ds1, p1, q1, rfl, rfl, rfl, h1, r1⟩ := trodAll_cons r0
  obtain ⟨v2, vs2, d2, ds2, p2, q2, rfl, rfl, rfl, h2, r2⟩ := trodAll_cons r1
  obtain ⟨rfl, rfl, rfl⟩ := trodAll_nil r2
  obtain rfl : args = #[v0, v1, v2] := by cases args; simp_all
  obtain ⟨rfl, rfl⟩ := trodVars_none hV
  have hv0 := hval 0 22 v0 rfl rfl
  have hv1 := hval 1 9 v1 rfl rfl
  have hv2 := hval 2 3 v2 rfl rfl
  obtain ⟨v1, rfl, -, -, hs1⟩ := open_string Tryz.underlying9 hv1 h1
  obtain ⟨v2, rfl, -, -, hs2⟩ := open_int Tryz.underlying3 hv2 h2
  obtain ⟨fu0, hf0⟩ := h0
  obtain ⟨a0, n0, q0, rfl⟩ := okWide_slice Tryz.underlying22 hv0
  have hf0 : DataW.trod enc Tryz.prog W 0 (fun _ => true) true fu0 22 [.slice a0 n0 q0] = some _ := hf0
  obtain ⟨g0, k0, -⟩ := Op2.o_slc (c := cMatcher) Tryz.underlying22 (show Tryz.prog.cellsOf 46 = 3 by kernel_rfl) (by decide) (fun _ => rfl) (fun _ _ _ h => op46 h) rfl hf0
  refine (Lw.law_true (Gn.l23_SelectorReads_w (Pl.selreads_p g0 v1 v2)) (Lw.tab_of hL) (Op2.vr_cons (Op2.v_one (t := .slc (g0.map cMatcher)) k0) (Op2.vr_cons (Lw.flat_rep rfl _ _) (Op2.vr_cons (Lw.flat_rep rfl _ _) (Op2.vr_nil))))).mono fun e W' ⟨he, hb⟩ => ?_
  exact ⟨_, he, law_post laidOut (by kernel_rfl) rfl Tryz.underlying4 rfl rfl hW' hb⟩
noncomputable def laidWorld (os : Os) : World := { World.holding Tryz.prog os ⟨#[], #[], []⟩ with heap := ((((World.holding Tryz.prog os ⟨#[], #[], []⟩).heap.modify 3 fun | .cells _ t fr => .cells (flatD Rows.laid_math_bits_deBruijn64tab).toArray t fr | o => o).modify 1 fun | .cells _ t fr => .cells (flatD Rows.laid_unicode_utf8_acceptRanges).toArray t fr | o => o).modify 0 fun | .cells _ t fr => .cells (flatD Rows.laid_unicode_utf8_first).toArray t fr | o => o) }
theorem laid_met (os : Os) : laidMet Tryz.prog Rows.selectorReadsRow.laid ((laidWorld os).forCall (fun _ _ => 0) ⟨#[], #[.slice none 0 0, .string ⟨#[]⟩, .int .i64 0], []⟩).memory :=
  laidMet_of_run' 8 (by kernel_rfl) (by kernel_rfl)
theorem reads (os : Os) {H : Type} (enc : TypeId × Value → H) : ∃ places, DataW.whole enc Tryz.prog ((laidWorld os).forCall (fun _ _ => 0) ⟨#[], #[.slice none 0 0, .string ⟨#[]⟩, .int .i64 0], []⟩).memory Tryz.f3.params.toList Rows.selectorReadsSpec.vars false (#[.slice none 0 0, .string ⟨#[]⟩, .int .i64 0] : Array Value).toList 8 = some ([.nil, .lit (.string []), .lit (.int .i64 0)], [], places) :=
  ⟨[], by kernel_rfl⟩
theorem lifted (os : Os) (started : os.Started) (H : Type) (enc : TypeId × Value → H) (F : Stop.Interp) :
    ReturnsInHanded {} Tryz.checked os 3 .any ((OpenSpec.ofChange Rows.selectorReadsSpec).preRow enc Tryz.prog Tryz.f3 Rows.selectorReadsRow.domain false Rows.selectorReadsRow.laid) (((OpenSpec.ofChange Rows.selectorReadsSpec).at F).post enc Tryz.prog Tryz.f3 false true false false) := by
  obtain ⟨places, hx⟩ := reads os enc
  refine returnsInHanded_of_row (C := Tryz.checked) (s := OpenSpec.ofChange Rows.selectorReadsSpec) own started (by kernel_rfl) Tryz.func3
    (witness_row_at (enc := enc) (C := Tryz.checked) false (laidWorld os) #[.slice none 0 0, .string ⟨#[]⟩, .int .i64 0] rfl (by kernel_rfl) (by kernel_rfl) (by kernel_rfl)
      (OpenSpec.preRow_of_cond 8 hx (by kernel_rfl) (fun k hk => by cases hk) (by kernel_rfl) (laid_met os))) ?_
  intro W base args ds gs before hval hW _ _ hsz hL hsh _
  exact contract H enc W base args ds gs before hval hW hsz hL hsh
theorem said : Rows.SelectorReadsSaid :=
  OpenClaim.holds_of_cond 3 Tryz.f3 rfl rfl rfl rfl rfl rfl rfl ⟨rfl, rfl, rfl, rfl, rfl⟩ rfl rfl rfl rfl rfl (by kernel_rfl) Tryz.func3 (by kernel_rfl)
    (of_decide_eq_true (by kernel_rfl)) (by unfold Func.isWrapper; first | (rw [if_pos (by decide +kernel)]; kernel_rfl) | (rw [if_neg (by decide +kernel)]; exact ⟨rfl, rfl⟩))
    (fun os started H enc _ F => by rw [OpenClaim.pre_eq_preRow]; exact lifted os started H enc F)
theorem plain (f : FuncId) (fn : Func) (hf : Tryz.pinned.checked.prog.funcNamed Tryz.f3.name = some f) (hfn : Tryz.pinned.checked.prog.funcs[f]? = some fn) :
    true = Tryz.pinned.checked.prog.looks [] ∧ ∀ (j : Nat) t, fn.params[j]? = some t → Tryz.pinned.checked.prog.wantsStandIn t = false := by
  obtain rfl : f = 3 := Option.some.inj ((show Tryz.prog.funcNamed Tryz.f3.name = some 3 by kernel_rfl).symm.trans hf) |>.symm
  obtain rfl : fn = Tryz.f3 := (Option.some.inj (Tryz.func3.symm.trans hfn)).symm
  refine ⟨by kernel_rfl, fun j t ht => ?_⟩
  rw [Tryz.params3] at ht
  have hm : t ∈ [22, 9, 3] := by simpa using Array.mem_of_getElem? ht
  have hall : ([22, 9, 3].all fun u => !Tryz.prog.wantsStandIn u) = true := by kernel_rfl
  exact (show Tryz.prog.wantsStandIn t = false by simpa using List.all_eq_true.1 hall t hm)
theorem holds : Rows.SelectorReadsCardSaid :=
  Claim7.holds_tied_plain_at .later [] _ _ _ _ said (fun _ h => by cases h) (by kernel_rfl) (fun _ h => by cases h) selectorReads_row_tie rfl ⟨rfl, rfl⟩ (by kernel_rfl) rfl plain (by kernel_rfl)
end Go.Proofs.YtpplemjjeefpdaaGreatDoor.SelectorReads
