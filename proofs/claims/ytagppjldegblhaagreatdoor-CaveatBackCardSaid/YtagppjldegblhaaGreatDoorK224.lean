/- Texts that the proof leans on. -/
import Derived.Shelf.Strings.Builder1
import Derived.Shelf.Strings.Builder2
import Derived.Shelf.Strings.OnBuilder
import Derived.Shelf.Small.Strs
import Derived.Shelf.Strconv.Atoi
import Derived.Shelf.Strconv.Itoa0
import Derived.Shelf.Strconv.Itoa1
import Derived.Shelf.LaysM
import Derived.Shelf.Strconv.Itoa2
import Derived.Shelf.Strconv.Itoa3
import Derived.Shelf.Strconv.AtoiErrFast
import Derived.Shelf.Strconv.ParseIntEmpty
import Derived.Shelf.Strconv.AtoiFail
import Derived.Shelf.Strconv.Clone
import Derived.Shelf.Strconv.SyntaxError
import Derived.Shelf.LaysC
import Derived.Shelf.Strconv.ToError
import Derived.Shelf.Strconv.Lower
import Derived.Shelf.Strconv.ParseUint10
import Derived.Shelf.Strconv.ParseUint10Empty
import Derived.Shelf.Strconv.ParseUint10Any
import Derived.Shelf.Strconv.ParseInt10
import Derived.Shelf.Strconv.AtoiLong
import Derived.Shelf.Strconv.AtoiInnerAll
import Derived.Shelf.Strconv.RangeError
import Derived.Shelf.Strconv.ToErrorRange
import Derived.Shelf.Strconv.AtoiAll
import Derived.Shelf.Strconv.ErrVarAll
import Derived.Shelf.Strings.Search1
import Derived.Shelf.Strings.Search2
import Derived.Shelf.Strings.Search3
import Derived.Shelf.Strings.Cut
import Derived.Shelf.Strings.Count
import Derived.Shelf.Strings.Shaped
import Derived.Shelf.Strings.Split
import Derived.Shelf.Unicode.Decode
import Derived.Shelf.Unicode.DecodeAny
import Derived.Shelf.Slices.Turned
import Derived.Test.YtagppjldegblhaaGreatDoorK223
set_option linter.unusedVariables false
set_option linter.unusedSimpArgs false
set_option maxRecDepth 100000
set_option maxHeartbeats 4000000
namespace Go.Proofs
open Go.Shelf
def Tryz.lays156_ren : Go.Shelf.Ren := ⟨fun | 156 => 56 | 165 => 75 | 166 => 49 | 169 => 51 | 240 => 68 | 241 => 106 | 276 => 93 | 277 => 142 | n => n, fun | 31 => 22 | 9 => 9 | 3 => 3 | 4 => 4 | 0 => 0 | 20 => 20 | 72 => 77 | 76 => 56 | 70 => 74 | 37 => 75 | 75 => 55 | 127 => 99 | 164 => 122 | 5 => 5 | 80 => 79 | n => n, fun | n => n⟩
theorem Tryz.lays156 : Go.Proofs.Lays.n156 Tryz.prog Tryz.lays156_ren := {
 mixed := by kernel_rfl
 f156 := Tryz.func56.trans (congrArg some (by kernel_rfl))
 f165 := Tryz.func75.trans (congrArg some (by kernel_rfl))
 f166 := Tryz.func49.trans (congrArg some (by kernel_rfl))
 f169 := Tryz.func51.trans (congrArg some (by kernel_rfl))
 f240 := Tryz.func68.trans (congrArg some (by kernel_rfl))
 f241 := Tryz.func106.trans (congrArg some (by kernel_rfl))
 f276 := Tryz.func93.trans (congrArg some (by kernel_rfl))
 f277 := Tryz.func142.trans (congrArg some (by kernel_rfl))
 t0 := Tryz.underlying0
 a0 := Tryz.isAgg0
 z0 := Tryz.sizeOf0
 v0 := Tryz.zeroValue0
 t3 := Tryz.underlying3
 a3 := Tryz.isAgg3
 z3 := Tryz.sizeOf3
 v3 := Tryz.zeroValue3
 t4 := Tryz.underlying4
 a4 := Tryz.isAgg4
 z4 := Tryz.sizeOf4
 v4 := Tryz.zeroValue4
 t9 := Tryz.underlying9
 a9 := Tryz.isAgg9
 z9 := Tryz.sizeOf9
 v9 := Tryz.zeroValue9
 t20 := Tryz.underlying20
 a20 := Tryz.isAgg20
 z20 := Tryz.sizeOf20
 v20 := Tryz.zeroValue20
 t31 := Tryz.underlying22
 a31 := Tryz.isAgg22
 z31 := Tryz.sizeOf22
 v31 := Tryz.zeroValue22
 t37 := Tryz.underlying75
 a37 := Tryz.isAgg75
 z37 := Tryz.sizeOf75
 v37 := Tryz.zeroValue75
 t70 := Tryz.underlying74
 a70 := Tryz.isAgg74
 z70 := Tryz.sizeOf74
 v70 := Tryz.zeroValue74
 t72 := Tryz.underlying77
 a72 := Tryz.isAgg77
 z72 := Tryz.sizeOf77
 v72 := Tryz.zeroValue77
 t75 := Tryz.underlying55
 a75 := Tryz.isAgg55
 z75 := Tryz.sizeOf55
 v75 := Tryz.zeroValue55
 t76 := Tryz.underlying56
 a76 := Tryz.isAgg56
 z76 := Tryz.sizeOf56
 v76 := Tryz.zeroValue56
 t127 := Tryz.underlying99
 a127 := Tryz.isAgg99
 z127 := Tryz.sizeOf99
 v127 := Tryz.zeroValue99
 t164 := Tryz.underlying122
 a164 := Tryz.isAgg122
 z164 := Tryz.sizeOf122
 v164 := Tryz.zeroValue122 }
theorem Tryz.Builder_Extra_156 : Builder.Extra Tryz.prog Tryz.lays156_ren := {
 sizeBuilder := by kernel_rfl
 liesBuilder := by kernel_rfl
 t5 := Tryz.underlying5
 a5 := Tryz.isAgg5
 z5 := Tryz.sizeOf5
 v5 := Tryz.zeroValue5
 infoByte := by kernel_rfl
 cellsByte := by kernel_rfl
 sizeByte := by kernel_rfl
 neB5 := by decide }
open Go.RowKit in
theorem Tryz.strings_Join_none (a : Option Addr) (c : Nat) (sep : ByteArray) (w : World) :
 Calls Tryz.prog 56 #[.slice a 0 c, .string sep] w fun e w' => e = .returned (.string ⟨#[]⟩) ∧ w' = w := Any.strings_Join_none Tryz.lays156 Tryz.Builder_Extra_156 a c sep w
open Go.RowKit in
theorem Tryz.strings_Join (bk o c : Nat) (xs : List ByteArray) (sep : ByteArray) (w : World) (hcells : ∀ (j : Nat) x, xs[j]? = some x → w.cell? ⟨bk, o + j, none⟩ = some (.string x)) (hbk : bk < w.heap.size) (hN : xs.length ≤ 140737488355328) (hcap : xs.length ≤ c) (hlen : (Lib.join (xs.map (·.data.toList)) sep.data.toList).length ≤ 140737488355328) :
 Calls Tryz.prog 56 #[.slice (some ⟨bk, o, none⟩) xs.length c, .string sep] w fun e w' => e = .returned (.string ⟨(Lib.join (xs.map (·.data.toList)) sep.data.toList).toArray⟩) ∧ Below w.heap.size w w' := Any.strings_Join Tryz.lays156 Tryz.Builder_Extra_156 bk o c xs sep w hcells hbk hN hcap hlen
def Tryz.lays137_ren : Go.Shelf.Ren := ⟨fun | 137 => 161 | 217 => 107 | 266 => 143 | n => n, fun | 9 => 9 | 5 => 5 | 3 => 3 | n => n, fun | n => n⟩
theorem Tryz.lays137 : Go.Proofs.Lays.n137 Tryz.prog Tryz.lays137_ren := {
 mixed := by kernel_rfl
 f137 := Tryz.func161.trans (congrArg some (by kernel_rfl))
 f217 := Tryz.func107.trans (congrArg some (by kernel_rfl))
 f266 := Tryz.func143.trans (congrArg some (by kernel_rfl))
 t3 := Tryz.underlying3
 a3 := Tryz.isAgg3
 z3 := Tryz.sizeOf3
 v3 := Tryz.zeroValue3
 t5 := Tryz.underlying5
 a5 := Tryz.isAgg5
 z5 := Tryz.sizeOf5
 v5 := Tryz.zeroValue5
 t9 := Tryz.underlying9
 a9 := Tryz.isAgg9
 z9 := Tryz.sizeOf9
 v9 := Tryz.zeroValue9 }
open Go.RowKit in
theorem Tryz.strings_IndexByte (s : ByteArray) (c : Int) (w : World) :
 Calls Tryz.prog 161 #[.string s, .int .u8 c] w fun e w' => e = .returned (.int .i64 (Lib.indexByte s.data.toList c.toNat.toUInt8)) ∧ w' = w := Any.strings_IndexByte Tryz.lays137 s c w
def Tryz.lays172_ren : Go.Shelf.Ren := ⟨fun | 172 => 37 | 244 => 58 | 245 => 59 | 247 => 77 | 279 => 78 | 280 => 79 | 281 => 80 | 282 => 81 | 287 => 111 | 316 => 112 | 171 => 27 | 205 => 113 | 321 => 145 | 322 => 146 | 243 => 55 | 246 => 74 | 283 => 102 | 284 => 103 | 285 => 104 | 286 => 105 | 129 => 138 | 317 => 137 | 318 => 139 | 319 => 140 | 320 => 141 | 337 => 159 | 338 => 160 | n => n, fun | 9 => 9 | 3 => 3 | 75 => 55 | 76 => 56 | 4 => 4 | 5 => 5 | 167 => 103 | 37 => 75 | 0 => 0 | 85 => 104 | 2 => 2 | 168 => 106 | 53 => 86 | 175 => 138 | 46 => 128 | 210 => 141 | 127 => 99 | 145 => 174 | 143 => 172 | 21 => 21 | 171 => 131 | 173 => 134 | 212 => 163 | 51 => 164 | 20 => 20 | 213 => 165 | 232 => 189 | 233 => 190 | 80 => 79 | n => n, fun | 15 => 3 | 16 => 4 | 17 => 5 | 18 => 8 | 19 => 9 | n => n⟩
def Tryz.laysM243_ren : Go.Shelf.Ren := ⟨fun | 243 => 55 | 246 => 74 | 283 => 102 | 284 => 103 | 285 => 104 | 286 => 105 | 129 => 138 | 317 => 137 | 318 => 139 | 319 => 140 | 320 => 141 | 337 => 159 | 338 => 160 | n => n, fun | 3 => 3 | 9 => 9 | 2 => 2 | 4 => 4 | 171 => 131 | 0 => 0 | 53 => 86 | 37 => 75 | 5 => 5 | 173 => 134 | 212 => 163 | 51 => 164 | 20 => 20 | 213 => 165 | 46 => 128 | 232 => 189 | 233 => 190 | n => n, fun | 17 => 5 | 18 => 8 | 19 => 9 | n => n⟩
def Tryz.laysM171_ren : Go.Shelf.Ren := ⟨fun | 171 => 27 | 243 => 55 | 246 => 74 | 283 => 102 | 284 => 103 | 285 => 104 | 286 => 105 | 129 => 138 | 317 => 137 | 318 => 139 | 319 => 140 | 320 => 141 | 337 => 159 | 338 => 160 | n => n, fun | 3 => 3 | 9 => 9 | 2 => 2 | 4 => 4 | 171 => 131 | 0 => 0 | 53 => 86 | 37 => 75 | 5 => 5 | 173 => 134 | 212 => 163 | 51 => 164 | 20 => 20 | 213 => 165 | 46 => 128 | 232 => 189 | 233 => 190 | n => n, fun | 17 => 5 | 18 => 8 | 19 => 9 | n => n⟩
theorem Tryz.laysM171 : Go.Proofs.LaysM.n171 Tryz.prog Tryz.laysM171_ren := {
 mixed := by kernel_rfl
 f129 := Tryz.func138.trans (congrArg some (by kernel_rfl))
 f171 := Tryz.func27.trans (congrArg some (by kernel_rfl))
 f243 := Tryz.func55.trans (congrArg some (by kernel_rfl))
 f246 := Tryz.func74.trans (congrArg some (by kernel_rfl))
 f283 := Tryz.func102.trans (congrArg some (by kernel_rfl))
 f284 := Tryz.func103.trans (congrArg some (by kernel_rfl))
 f285 := Tryz.func104.trans (congrArg some (by kernel_rfl))
 f286 := Tryz.func105.trans (congrArg some (by kernel_rfl))
 f317 := Tryz.func137.trans (congrArg some (by kernel_rfl))
 f318 := Tryz.func139.trans (congrArg some (by kernel_rfl))
 f319 := Tryz.func140.trans (congrArg some (by kernel_rfl))
 f320 := Tryz.func141.trans (congrArg some (by kernel_rfl))
 f337 := Tryz.func159.trans (congrArg some (by kernel_rfl))
 f338 := Tryz.func160.trans (congrArg some (by kernel_rfl))
 t0 := Tryz.underlying0
 a0 := Tryz.isAgg0
 z0 := Tryz.sizeOf0
 v0 := Tryz.zeroValue0
 t2 := Tryz.underlying2
 a2 := Tryz.isAgg2
 z2 := Tryz.sizeOf2
 v2 := Tryz.zeroValue2
 t3 := Tryz.underlying3
 a3 := Tryz.isAgg3
 z3 := Tryz.sizeOf3
 v3 := Tryz.zeroValue3
 t4 := Tryz.underlying4
 a4 := Tryz.isAgg4
 z4 := Tryz.sizeOf4
 v4 := Tryz.zeroValue4
 t5 := Tryz.underlying5
 a5 := Tryz.isAgg5
 z5 := Tryz.sizeOf5
 v5 := Tryz.zeroValue5
 t9 := Tryz.underlying9
 a9 := Tryz.isAgg9
 z9 := Tryz.sizeOf9
 v9 := Tryz.zeroValue9
 t20 := Tryz.underlying20
 a20 := Tryz.isAgg20
 z20 := Tryz.sizeOf20
 v20 := Tryz.zeroValue20
 t37 := Tryz.underlying75
 a37 := Tryz.isAgg75
 z37 := Tryz.sizeOf75
 v37 := Tryz.zeroValue75
 t46 := Tryz.underlying128
 a46 := Tryz.isAgg128
 z46 := Tryz.sizeOf128
 v46 := Tryz.zeroValue128
 t51 := Tryz.underlying164
 a51 := Tryz.isAgg164
 z51 := Tryz.sizeOf164
 v51 := Tryz.zeroValue164
 t53 := Tryz.underlying86
 a53 := Tryz.isAgg86
 z53 := Tryz.sizeOf86
 v53 := Tryz.zeroValue86
 t171 := Tryz.underlying131
 a171 := Tryz.isAgg131
 z171 := Tryz.sizeOf131
 v171 := Tryz.zeroValue131
 t173 := Tryz.underlying134
 a173 := Tryz.isAgg134
 z173 := Tryz.sizeOf134
 v173 := Tryz.zeroValue134
 t212 := Tryz.underlying163
 a212 := Tryz.isAgg163
 z212 := Tryz.sizeOf163
 v212 := Tryz.zeroValue163
 t213 := Tryz.underlying165
 a213 := Tryz.isAgg165
 z213 := Tryz.sizeOf165
 t232 := Tryz.underlying189
 a232 := Tryz.isAgg189
 z232 := Tryz.sizeOf189
 v232 := Tryz.zeroValue189
 t233 := Tryz.underlying190
 a233 := Tryz.isAgg190
 z233 := Tryz.sizeOf190
 v233 := Tryz.zeroValue190
 g17 := by kernel_rfl
 g18 := by kernel_rfl
 g19 := by kernel_rfl
 i0 := by kernel_rfl
 i2 := by kernel_rfl
 i3 := by kernel_rfl
 i4 := by kernel_rfl
 i5 := by kernel_rfl
 i9 := by kernel_rfl
 i20 := by kernel_rfl
 i37 := by kernel_rfl
 i46 := by kernel_rfl
 i51 := by kernel_rfl
 i53 := by kernel_rfl
 i171 := by kernel_rfl
 i173 := by kernel_rfl
 i212 := by kernel_rfl
 i232 := by kernel_rfl
 i233 := by kernel_rfl
 m17 := by kernel_rfl
 m18 := by kernel_rfl
 m19 := by kernel_rfl }
open Go.RowKit Go.Sort Go.Lib in
theorem Tryz.strconv_Itoa (n : Int) (h0 : -9223372036854775808 ≤ n) (h1 : n ≤ 9223372036854775807) (w : World) (htab : Lib.TabIs Tryz.prog w "internal/strconv.uint64pow10" .u64 Lib.pow10Tab) :
 Calls Tryz.prog 27 #[.int .i64 n] w fun e w' => e = .returned (.string ⟨(Lib.itoa n).toArray⟩) ∧ ∃ k os, w' = grow (w.drewN k) os := Any.strconv_Itoa Tryz.laysM171 n h0 h1 w htab
def Tryz.laysC172_ren : Go.Shelf.Ren := ⟨fun | 172 => 37 | 244 => 58 | 245 => 59 | 247 => 77 | 279 => 78 | 280 => 79 | 281 => 80 | 282 => 81 | 287 => 111 | 316 => 112 | 171 => 27 | 205 => 113 | 321 => 145 | 322 => 146 | 243 => 55 | 246 => 74 | 283 => 102 | 284 => 103 | 285 => 104 | 286 => 105 | 129 => 138 | 317 => 137 | 318 => 139 | 319 => 140 | 320 => 141 | 337 => 159 | 338 => 160 | n => n, fun | 9 => 9 | 3 => 3 | 75 => 55 | 76 => 56 | 4 => 4 | 5 => 5 | 167 => 103 | 37 => 75 | 0 => 0 | 85 => 104 | 2 => 2 | 168 => 106 | 53 => 86 | 175 => 138 | 46 => 128 | 210 => 141 | 127 => 99 | 145 => 174 | 143 => 172 | 21 => 21 | 171 => 131 | 173 => 134 | 212 => 163 | 51 => 164 | 20 => 20 | 213 => 165 | 232 => 189 | 233 => 190 | 80 => 79 | n => n, fun | 15 => 3 | 16 => 4 | 17 => 5 | 18 => 8 | 19 => 9 | n => n⟩
theorem Tryz.laysC172 : Go.Proofs.LaysC.n172 Tryz.prog Tryz.laysC172_ren := {
 mixed := by kernel_rfl
 f129 := Tryz.func138.trans (congrArg some (by kernel_rfl))
 f171 := Tryz.func27.trans (congrArg some (by kernel_rfl))
 f172 := Tryz.func37.trans (congrArg some (by kernel_rfl))
 f205 := Tryz.func113.trans (congrArg some (by kernel_rfl))
 f243 := Tryz.func55.trans (congrArg some (by kernel_rfl))
 f244 := Tryz.func58.trans (congrArg some (by kernel_rfl))
 f245 := Tryz.func59.trans (congrArg some (by kernel_rfl))
 f246 := Tryz.func74.trans (congrArg some (by kernel_rfl))
 f247 := Tryz.func77.trans (congrArg some (by kernel_rfl))
 f279 := Tryz.func78.trans (congrArg some (by kernel_rfl))
 f280 := Tryz.func79.trans (congrArg some (by kernel_rfl))
 f281 := Tryz.func80.trans (congrArg some (by kernel_rfl))
 f282 := Tryz.func81.trans (congrArg some (by kernel_rfl))
 f283 := Tryz.func102.trans (congrArg some (by kernel_rfl))
 f284 := Tryz.func103.trans (congrArg some (by kernel_rfl))
 f285 := Tryz.func104.trans (congrArg some (by kernel_rfl))
 f286 := Tryz.func105.trans (congrArg some (by kernel_rfl))
 f287 := Tryz.func111.trans (congrArg some (by kernel_rfl))
 f316 := Tryz.func112.trans (congrArg some (by kernel_rfl))
 f317 := Tryz.func137.trans (congrArg some (by kernel_rfl))
 f318 := Tryz.func139.trans (congrArg some (by kernel_rfl))
 f319 := Tryz.func140.trans (congrArg some (by kernel_rfl))
 f320 := Tryz.func141.trans (congrArg some (by kernel_rfl))
 f321 := Tryz.func145.trans (congrArg some (by kernel_rfl))
 f322 := Tryz.func146.trans (congrArg some (by kernel_rfl))
 f337 := Tryz.func159.trans (congrArg some (by kernel_rfl))
 f338 := Tryz.func160.trans (congrArg some (by kernel_rfl))
 t0 := Tryz.underlying0
 a0 := Tryz.isAgg0
 z0 := Tryz.sizeOf0
 v0 := Tryz.zeroValue0
 t2 := Tryz.underlying2
 a2 := Tryz.isAgg2
 z2 := Tryz.sizeOf2
 v2 := Tryz.zeroValue2
 t3 := Tryz.underlying3
 a3 := Tryz.isAgg3
 z3 := Tryz.sizeOf3
 v3 := Tryz.zeroValue3
 t4 := Tryz.underlying4
 a4 := Tryz.isAgg4
 z4 := Tryz.sizeOf4
 v4 := Tryz.zeroValue4
 t5 := Tryz.underlying5
 a5 := Tryz.isAgg5
 z5 := Tryz.sizeOf5
 v5 := Tryz.zeroValue5
 t9 := Tryz.underlying9
 a9 := Tryz.isAgg9
 z9 := Tryz.sizeOf9
 v9 := Tryz.zeroValue9
 t20 := Tryz.underlying20
 a20 := Tryz.isAgg20
 z20 := Tryz.sizeOf20
 v20 := Tryz.zeroValue20
 t21 := Tryz.underlying21
 a21 := Tryz.isAgg21
 z21 := Tryz.sizeOf21
 v21 := Tryz.zeroValue21
 t37 := Tryz.underlying75
 a37 := Tryz.isAgg75
 z37 := Tryz.sizeOf75
 v37 := Tryz.zeroValue75
 t46 := Tryz.underlying128
 a46 := Tryz.isAgg128
 z46 := Tryz.sizeOf128
 v46 := Tryz.zeroValue128
 t51 := Tryz.underlying164
 a51 := Tryz.isAgg164
 z51 := Tryz.sizeOf164
 v51 := Tryz.zeroValue164
 t53 := Tryz.underlying86
 a53 := Tryz.isAgg86
 z53 := Tryz.sizeOf86
 v53 := Tryz.zeroValue86
 t75 := Tryz.underlying55
 a75 := Tryz.isAgg55
 z75 := Tryz.sizeOf55
 v75 := Tryz.zeroValue55
 t76 := Tryz.underlying56
 a76 := Tryz.isAgg56
 z76 := Tryz.sizeOf56
 v76 := Tryz.zeroValue56
 t85 := Tryz.underlying104
 a85 := Tryz.isAgg104
 z85 := Tryz.sizeOf104
 v85 := Tryz.zeroValue104
 t127 := Tryz.underlying99
 a127 := Tryz.isAgg99
 z127 := Tryz.sizeOf99
 v127 := Tryz.zeroValue99
 t143 := Tryz.underlying172
 a143 := Tryz.isAgg172
 z143 := Tryz.sizeOf172
 v143 := Tryz.zeroValue172
 t145 := Tryz.underlying174
 a145 := Tryz.isAgg174
 z145 := Tryz.sizeOf174
 v145 := Tryz.zeroValue174
 t167 := Tryz.underlying103
 a167 := Tryz.isAgg103
 z167 := Tryz.sizeOf103
 v167 := Tryz.zeroValue103
 t168 := Tryz.underlying106
 a168 := Tryz.isAgg106
 z168 := Tryz.sizeOf106
 v168 := Tryz.zeroValue106
 t171 := Tryz.underlying131
 a171 := Tryz.isAgg131
 z171 := Tryz.sizeOf131
 v171 := Tryz.zeroValue131
 t173 := Tryz.underlying134
 a173 := Tryz.isAgg134
 z173 := Tryz.sizeOf134
 v173 := Tryz.zeroValue134
 t175 := Tryz.underlying138
 a175 := Tryz.isAgg138
 z175 := Tryz.sizeOf138
 v175 := Tryz.zeroValue138
 t210 := Tryz.underlying141
 a210 := Tryz.isAgg141
 z210 := Tryz.sizeOf141
 v210 := Tryz.zeroValue141
 t212 := Tryz.underlying163
 a212 := Tryz.isAgg163
 z212 := Tryz.sizeOf163
 v212 := Tryz.zeroValue163
 t213 := Tryz.underlying165
 a213 := Tryz.isAgg165
 z213 := Tryz.sizeOf165
 t232 := Tryz.underlying189
 a232 := Tryz.isAgg189
 z232 := Tryz.sizeOf189
 v232 := Tryz.zeroValue189
 t233 := Tryz.underlying190
 a233 := Tryz.isAgg190
 z233 := Tryz.sizeOf190
 v233 := Tryz.zeroValue190
 g15 := by kernel_rfl
 g16 := by kernel_rfl
 g17 := by kernel_rfl
 g18 := by kernel_rfl
 g19 := by kernel_rfl
 t80 := Tryz.underlying79
 a80 := Tryz.isAgg79
 z80 := Tryz.sizeOf79
 v80 := Tryz.zeroValue79
 i0 := by kernel_rfl
 i2 := by kernel_rfl
 i3 := by kernel_rfl
 i4 := by kernel_rfl
 i5 := by kernel_rfl
 i9 := by kernel_rfl
 i20 := by kernel_rfl
 i21 := by kernel_rfl
 i37 := by kernel_rfl
 i46 := by kernel_rfl
 i51 := by kernel_rfl
 i53 := by kernel_rfl
 i75 := by kernel_rfl
 i76 := by kernel_rfl
 i80 := by kernel_rfl
 i85 := by kernel_rfl
 i127 := by kernel_rfl
 i143 := by kernel_rfl
 i145 := by kernel_rfl
 i167 := by kernel_rfl
 i168 := by kernel_rfl
 i171 := by kernel_rfl
 i173 := by kernel_rfl
 i175 := by kernel_rfl
 i210 := by kernel_rfl
 i212 := by kernel_rfl
 i232 := by kernel_rfl
 i233 := by kernel_rfl
 m15 := by kernel_rfl
 m16 := by kernel_rfl
 m17 := by kernel_rfl
 m18 := by kernel_rfl
 m19 := by kernel_rfl
 c0 := by kernel_rfl
 c2 := by kernel_rfl
 c3 := by kernel_rfl
 c4 := by kernel_rfl
 c5 := by kernel_rfl
 c9 := by kernel_rfl
 c20 := by kernel_rfl
 c21 := by kernel_rfl
 c37 := by kernel_rfl
 c46 := by kernel_rfl
 c51 := by kernel_rfl
 c53 := by kernel_rfl
 c75 := by kernel_rfl
 c76 := by kernel_rfl
 c80 := by kernel_rfl
 c85 := by kernel_rfl
 c127 := by kernel_rfl
 c143 := by kernel_rfl
 c145 := by kernel_rfl
 c167 := by kernel_rfl
 c168 := by kernel_rfl
 c171 := by kernel_rfl
 c173 := by kernel_rfl
 c175 := by kernel_rfl
 c210 := by kernel_rfl
 c212 := by kernel_rfl
 c213 := by kernel_rfl
 c232 := by kernel_rfl
 c233 := by kernel_rfl }
open Go.RowKit in
theorem Tryz.strconv_Atoi_ok (s : ByteArray) (hmax : s.size ≤ 9223372036854775806) (v : Int) (h : Lib.atoiAll s.data.toList = .ok v) (w : World) :
 Calls Tryz.prog 37 #[.string s] w fun e w' => e = .returned (.tuple #[.int .i64 v, .nilIface]) ∧ (w' = w ∨ ∃ t, w' = Lib.bytesWorld w 5 t) := Any.strconv_Atoi_ok Tryz.laysC172 s hmax v h w
open Go.RowKit in
theorem Tryz.strconv_Atoi_syntax (s : ByteArray) (hlim : s.size ≤ 281474976710656) (h : Lib.atoiAll s.data.toList = Lib.NumEnd.syntax) (ev : Value) (w : World) (hv : w.cell? ⟨3, 0, none⟩ = some ev) (hev : ev = .nilIface ∨ ∃ te pe, ev = .iface te pe) :
 Calls Tryz.prog 37 #[.string s] w fun e w' => ∃ N, e = .returned (.tuple #[.int .i64 (0), .iface 106 (.pointer (some ⟨N, 0, none⟩))]) ∧ w.heap.size ≤ N ∧ w'.heap[N]? = some (.cells #[.string ⟨#[65, 116, 111, 105]⟩, .string s, ev] 141 (0, 0)) ∧ Below w.heap.size w w' := Any.strconv_Atoi_syntax Tryz.laysC172 s hlim h ev w hv hev
open Go.RowKit in
theorem Tryz.strconv_Atoi_range (s : ByteArray) (hlim : s.size ≤ 281474976710656) (h : Lib.atoiAll s.data.toList = .range) (ev : Value) (w : World) (hv : w.cell? ⟨4, 0, none⟩ = some ev) (hev : ev = .nilIface ∨ ∃ te pe, ev = .iface te pe) :
 Calls Tryz.prog 37 #[.string s] w fun e w' => ∃ N, e = .returned (.tuple #[.int .i64 (Lib.atoiSat s.data.toList), .iface 106 (.pointer (some ⟨N, 0, none⟩))]) ∧ w.heap.size ≤ N ∧ w'.heap[N]? = some (.cells #[.string ⟨#[65, 116, 111, 105]⟩, .string s, ev] 141 (0, 0)) ∧ Below w.heap.size w w' := Any.strconv_Atoi_range Tryz.laysC172 s hlim h ev w hv hev
def Tryz.lays145_ren : Go.Shelf.Ren := ⟨fun | 145 => 35 | 220 => 57 | 219 => 76 | 217 => 107 | 225 => 108 | 224 => 109 | 267 => 110 | 266 => 143 | 314 => 144 | n => n, fun | 9 => 9 | 4 => 4 | 59 => 51 | 3 => 3 | 5 => 5 | 46 => 128 | 146 => 169 | 51 => 164 | n => n, fun | 1 => 2 | n => n⟩
theorem Tryz.lays145 : Go.Proofs.Lays.n145 Tryz.prog Tryz.lays145_ren := {
 mixed := by kernel_rfl
 f145 := Tryz.func35.trans (congrArg some (by kernel_rfl))
 f217 := Tryz.func107.trans (congrArg some (by kernel_rfl))
 f219 := Tryz.func76.trans (congrArg some (by kernel_rfl))
 f220 := Tryz.func57.trans (congrArg some (by kernel_rfl))
 f224 := Tryz.func109.trans (congrArg some (by kernel_rfl))
 f225 := Tryz.func108.trans (congrArg some (by kernel_rfl))
 f266 := Tryz.func143.trans (congrArg some (by kernel_rfl))
 f267 := Tryz.func110.trans (congrArg some (by kernel_rfl))
 f314 := Tryz.func144.trans (congrArg some (by kernel_rfl))
 t3 := Tryz.underlying3
 a3 := Tryz.isAgg3
 z3 := Tryz.sizeOf3
 v3 := Tryz.zeroValue3
 t4 := Tryz.underlying4
 a4 := Tryz.isAgg4
 z4 := Tryz.sizeOf4
 v4 := Tryz.zeroValue4
 t5 := Tryz.underlying5
 a5 := Tryz.isAgg5
 z5 := Tryz.sizeOf5
 v5 := Tryz.zeroValue5
 t9 := Tryz.underlying9
 a9 := Tryz.isAgg9
 z9 := Tryz.sizeOf9
 v9 := Tryz.zeroValue9
 t46 := Tryz.underlying128
 a46 := Tryz.isAgg128
 z46 := Tryz.sizeOf128
 v46 := Tryz.zeroValue128
 t51 := Tryz.underlying164
 a51 := Tryz.isAgg164
 z51 := Tryz.sizeOf164
 v51 := Tryz.zeroValue164
 t59 := Tryz.underlying51
 a59 := Tryz.isAgg51
 z59 := Tryz.sizeOf51
 v59 := Tryz.zeroValue51
 t146 := Tryz.underlying169
 a146 := Tryz.isAgg169
 z146 := Tryz.sizeOf169
 v146 := Tryz.zeroValue169
 g1 := by kernel_rfl }
open Go.RowKit Go.Lib in
theorem Tryz.strings_Cut (s sep : ByteArray) (m : Int) (w : World) (hs : s.size < 4294967281) (hm : w.cell? ⟨2, 0, none⟩ = some (.int .i64 m)) :
 Calls Tryz.prog 35 #[.string s, .string sep] w fun e w' => e = .returned (.tuple #[.string ⟨(Lib.cut s.data.toList sep.data.toList).1.toArray⟩, .string ⟨(Lib.cut s.data.toList sep.data.toList).2.1.toArray⟩, .bool (Lib.cut s.data.toList sep.data.toList).2.2]) ∧ ∃ n, w' = w.drewN n := Any.strings_Cut Tryz.lays145 s sep m w hs hm
def Tryz.laysM145_ren : Go.Shelf.Ren := ⟨fun | 145 => 35 | 220 => 57 | 219 => 76 | 217 => 107 | 225 => 108 | 224 => 109 | 267 => 110 | 266 => 143 | 314 => 144 | n => n, fun | 9 => 9 | 4 => 4 | 59 => 51 | 3 => 3 | 5 => 5 | 46 => 128 | 146 => 169 | 51 => 164 | n => n, fun | 1 => 2 | n => n⟩
theorem Tryz.laysM145 : Go.Proofs.LaysM.n145 Tryz.prog Tryz.laysM145_ren := {
 mixed := by kernel_rfl
 f145 := Tryz.func35.trans (congrArg some (by kernel_rfl))
 f217 := Tryz.func107.trans (congrArg some (by kernel_rfl))
 f219 := Tryz.func76.trans (congrArg some (by kernel_rfl))
 f220 := Tryz.func57.trans (congrArg some (by kernel_rfl))
 f224 := Tryz.func109.trans (congrArg some (by kernel_rfl))
 f225 := Tryz.func108.trans (congrArg some (by kernel_rfl))
 f266 := Tryz.func143.trans (congrArg some (by kernel_rfl))
 f267 := Tryz.func110.trans (congrArg some (by kernel_rfl))
 f314 := Tryz.func144.trans (congrArg some (by kernel_rfl))
 t3 := Tryz.underlying3
 a3 := Tryz.isAgg3
 z3 := Tryz.sizeOf3
 v3 := Tryz.zeroValue3
 t4 := Tryz.underlying4
 a4 := Tryz.isAgg4
 z4 := Tryz.sizeOf4
 v4 := Tryz.zeroValue4
 t5 := Tryz.underlying5
 a5 := Tryz.isAgg5
 z5 := Tryz.sizeOf5
 v5 := Tryz.zeroValue5
 t9 := Tryz.underlying9
 a9 := Tryz.isAgg9
 z9 := Tryz.sizeOf9
 v9 := Tryz.zeroValue9
 t46 := Tryz.underlying128
 a46 := Tryz.isAgg128
 z46 := Tryz.sizeOf128
 v46 := Tryz.zeroValue128
 t51 := Tryz.underlying164
 a51 := Tryz.isAgg164
 z51 := Tryz.sizeOf164
 v51 := Tryz.zeroValue164
 t59 := Tryz.underlying51
 a59 := Tryz.isAgg51
 z59 := Tryz.sizeOf51
 v59 := Tryz.zeroValue51
 t146 := Tryz.underlying169
 a146 := Tryz.isAgg169
 z146 := Tryz.sizeOf169
 v146 := Tryz.zeroValue169
 g1 := by kernel_rfl
 i3 := by kernel_rfl
 i4 := by kernel_rfl
 i5 := by kernel_rfl
 i9 := by kernel_rfl
 i46 := by kernel_rfl
 i51 := by kernel_rfl
 i59 := by kernel_rfl
 i146 := by kernel_rfl
 m1 := by kernel_rfl
 s1_3 := fun w h => Go.Proofs.cell_of_shapedOpen_int (zero := #[.int .i64 0]) (t := 3) h (of_decide_eq_true (by kernel_rfl)) (by kernel_rfl) rfl (by kernel_rfl) (by kernel_rfl) Tryz.underlying3 }
def Tryz.lays146_ren : Go.Shelf.Ren := ⟨fun | 146 => 62 | 221 => 84 | 268 => 118 | 138 => 119 | 143 => 120 | 195 => 148 | 197 => 134 | 218 => 149 | 219 => 76 | 260 => 156 | 217 => 107 | 225 => 108 | 224 => 109 | 267 => 110 | 266 => 143 | 314 => 144 | n => n, fun | 9 => 9 | 31 => 22 | 3 => 3 | 4 => 4 | 0 => 0 | 105 => 159 | 21 => 21 | 5 => 5 | 46 => 128 | 119 => 185 | 139 => 188 | 138 => 187 | 146 => 169 | 51 => 164 | n => n, fun | 1 => 2 | 3 => 6 | 4 => 7 | n => n⟩
theorem Tryz.lays146 : Go.Proofs.Lays.n146 Tryz.prog Tryz.lays146_ren := {
 mixed := by kernel_rfl
 f138 := Tryz.func119.trans (congrArg some (by kernel_rfl))
 f143 := Tryz.func120.trans (congrArg some (by kernel_rfl))
 f146 := Tryz.func62.trans (congrArg some (by kernel_rfl))
 f195 := Tryz.func148.trans (congrArg some (by kernel_rfl))
 f197 := Tryz.func134.trans (congrArg some (by kernel_rfl))
 f217 := Tryz.func107.trans (congrArg some (by kernel_rfl))
 f218 := Tryz.func149.trans (congrArg some (by kernel_rfl))
 f219 := Tryz.func76.trans (congrArg some (by kernel_rfl))
 f221 := Tryz.func84.trans (congrArg some (by kernel_rfl))
 f224 := Tryz.func109.trans (congrArg some (by kernel_rfl))
 f225 := Tryz.func108.trans (congrArg some (by kernel_rfl))
 f260 := Tryz.func156.trans (congrArg some (by kernel_rfl))
 f266 := Tryz.func143.trans (congrArg some (by kernel_rfl))
 f267 := Tryz.func110.trans (congrArg some (by kernel_rfl))
 f268 := Tryz.func118.trans (congrArg some (by kernel_rfl))
 f314 := Tryz.func144.trans (congrArg some (by kernel_rfl))
 t0 := Tryz.underlying0
 a0 := Tryz.isAgg0
 z0 := Tryz.sizeOf0
 v0 := Tryz.zeroValue0
 t3 := Tryz.underlying3
 a3 := Tryz.isAgg3
 z3 := Tryz.sizeOf3
 v3 := Tryz.zeroValue3
 t4 := Tryz.underlying4
 a4 := Tryz.isAgg4
 z4 := Tryz.sizeOf4
 v4 := Tryz.zeroValue4
 t5 := Tryz.underlying5
 a5 := Tryz.isAgg5
 z5 := Tryz.sizeOf5
 v5 := Tryz.zeroValue5
 t9 := Tryz.underlying9
 a9 := Tryz.isAgg9
 z9 := Tryz.sizeOf9
 v9 := Tryz.zeroValue9
 t21 := Tryz.underlying21
 a21 := Tryz.isAgg21
 z21 := Tryz.sizeOf21
 v21 := Tryz.zeroValue21
 t31 := Tryz.underlying22
 a31 := Tryz.isAgg22
 z31 := Tryz.sizeOf22
 v31 := Tryz.zeroValue22
 t46 := Tryz.underlying128
 a46 := Tryz.isAgg128
 z46 := Tryz.sizeOf128
 v46 := Tryz.zeroValue128
 t51 := Tryz.underlying164
 a51 := Tryz.isAgg164
 z51 := Tryz.sizeOf164
 v51 := Tryz.zeroValue164
 t105 := Tryz.underlying159
 a105 := Tryz.isAgg159
 z105 := Tryz.sizeOf159
 v105 := Tryz.zeroValue159
 t119 := Tryz.underlying185
 a119 := Tryz.isAgg185
 z119 := Tryz.sizeOf185
 t138 := Tryz.underlying187
 a138 := Tryz.isAgg187
 z138 := Tryz.sizeOf187
 v138 := Tryz.zeroValue187
 t139 := Tryz.underlying188
 a139 := Tryz.isAgg188
 z139 := Tryz.sizeOf188
 v139 := Tryz.zeroValue188
 t146 := Tryz.underlying169
 a146 := Tryz.isAgg169
 z146 := Tryz.sizeOf169
 v146 := Tryz.zeroValue169
 g1 := by kernel_rfl
 g3 := by kernel_rfl
 g4 := by kernel_rfl }
open Go.RowKit Go.Lib in
theorem Tryz.strings_Split (s sep : ByteArray) (m : Int) (w : World) (hs : s.size < 4294967281) (hm : w.cell? ⟨2, 0, none⟩ = some (.int .i64 m)) (h1 : 1 ≤ sep.size) :
 Calls Tryz.prog 62 #[.string s, .string sep] w fun e w' =>
  e = .returned (.slice (some ⟨w.heap.size, 0, none⟩) (Lib.countB s sep + 1) (Lib.countB s sep + 1)) ∧ w' = w.alloc (.cells ((Lib.splitB sep 0 (Lib.countB s sep) s).map Value.string).toArray 9) := Any.strings_Split Tryz.lays146 (by kernel_rfl) s sep m w hs hm h1
def Tryz.lays197_ren : Go.Shelf.Ren := ⟨fun | 197 => 134 | 260 => 156 | n => n, fun | 9 => 9 | 21 => 21 | 3 => 3 | 4 => 4 | 5 => 5 | 105 => 159 | 119 => 185 | 0 => 0 | 46 => 128 | 139 => 188 | 138 => 187 | n => n, fun | 3 => 6 | 4 => 7 | n => n⟩
theorem Tryz.lays197 : Go.Proofs.Lays.n197 Tryz.prog Tryz.lays197_ren := {
 mixed := by kernel_rfl
 f197 := Tryz.func134.trans (congrArg some (by kernel_rfl))
 f260 := Tryz.func156.trans (congrArg some (by kernel_rfl))
 t0 := Tryz.underlying0
 a0 := Tryz.isAgg0
 z0 := Tryz.sizeOf0
 v0 := Tryz.zeroValue0
 t3 := Tryz.underlying3
 a3 := Tryz.isAgg3
 z3 := Tryz.sizeOf3
 v3 := Tryz.zeroValue3
 t4 := Tryz.underlying4
 a4 := Tryz.isAgg4
 z4 := Tryz.sizeOf4
 v4 := Tryz.zeroValue4
 t5 := Tryz.underlying5
 a5 := Tryz.isAgg5
 z5 := Tryz.sizeOf5
 v5 := Tryz.zeroValue5
 t9 := Tryz.underlying9
 a9 := Tryz.isAgg9
 z9 := Tryz.sizeOf9
 v9 := Tryz.zeroValue9
 t21 := Tryz.underlying21
 a21 := Tryz.isAgg21
 z21 := Tryz.sizeOf21
 v21 := Tryz.zeroValue21
 t46 := Tryz.underlying128
 a46 := Tryz.isAgg128
 z46 := Tryz.sizeOf128
 v46 := Tryz.zeroValue128
 t105 := Tryz.underlying159
 a105 := Tryz.isAgg159
 z105 := Tryz.sizeOf159
 v105 := Tryz.zeroValue159
 t119 := Tryz.underlying185
 a119 := Tryz.isAgg185
 z119 := Tryz.sizeOf185
 t138 := Tryz.underlying187
 a138 := Tryz.isAgg187
 z138 := Tryz.sizeOf187
 v138 := Tryz.zeroValue187
 t139 := Tryz.underlying188
 a139 := Tryz.isAgg188
 z139 := Tryz.sizeOf188
 v139 := Tryz.zeroValue188
 g3 := by kernel_rfl
 g4 := by kernel_rfl }
open Go.RowKit Go.Lib in
theorem Tryz.utf8_DecodeRuneInString (s : ByteArray) (w : World) (hT : Lib.Utf8Tabs 6 7 w) :
 Calls Tryz.prog 134 #[.string s] w fun e w' => e = .returned (.tuple #[.int .i32 (Lib.decodeGo s).1, .int .i64 (Lib.decodeGo s).2]) ∧ Below w.heap.size w w' := Any.utf8_DecodeRuneInString Tryz.lays197 s w hT
end Go.Proofs
namespace Go.Proofs.YtagppjldegblhaaGreatDoor
open Go Go.RowKit
open Ab Sh
namespace Gn
def setS (R : RF) (S : CSet) : V := setV S
def intS (R : RF) (n : Int) : V := shI n
def r12_Between_g (x y : Int) : Option CSet := if 0 ≤ x ∧ x < 256 ∧ 0 ≤ y ∧ y < 256 then some (CSet.between x.toNat y.toNat) else none
theorem r12_Between_w {x y : Int} {r : CSet} (h : r12_Between_g x y = some r) : FunS Tryz.prog 169 [fI .i64 x, fI .i64 y] (setS rw) r := by
 unfold r12_Between_g at h
 split at h
 · cases h; exact f_rof (by omega) (by omega) (by omega) (by omega)
 · cases h
def r12_Or_g (x y : CSet) : Option CSet := some (x.or y)
theorem r12_Or_w {x y r : CSet} (h : r12_Or_g x y = some r) : FunS Tryz.prog 178 [setV x, setV y] (setS rw) r := by cases h; exact f_ror x y
def r12_Not_g (x : CSet) : Option CSet := some x.not
theorem r12_Not_w {x r : CSet} (h : r12_Not_g x = some r) : FunS Tryz.prog 179 [setV x] (setS rw) r := by cases h; exact f_rnot x
def r12_With_g (x : CSet) (b : Int) : Option CSet := if 0 ≤ b ∧ b < 256 then some (x.put b.toNat) else none
theorem r12_With_w {x r : CSet} {b : Int} (h : r12_With_g x b = some r) : FunS Tryz.prog 176 [setV x, fI .i64 b] (setS rw) r := by
 unfold r12_With_g at h
 split at h
 · cases h; exact f_rwith x (by omega) (by omega)
 · cases h
def r12_First_g (x : CSet) : Option Int := some x.first
theorem r12_First_w {x : CSet} {r : Int} (h : r12_First_g x = some r) : FunS Tryz.prog 189 [setV x] (intS rw) r := by cases h; exact f_rfirst x
theorem tab_utf8 {G : Nat → Prop} {w : World} (h : Tab G w) : Lib.Utf8Tabs 6 7 w := by
 obtain ⟨-, h1⟩ := h.1 (6, (List.range 256).map fun c => .int .u8 (Lib.firstT c)) (by simp [tabs])
 obtain ⟨-, h2⟩ := h.1 (7, (List.range 32).map fun j => .int .u8 (if j % 2 = 0 then Lib.accLo (j / 2) else Lib.accHi (j / 2))) (by simp [tabs])
 refine ⟨fun c hc => h1 c _ (by simp [hc]), fun i hi => ⟨h2 (2 * i) _ ?_, h2 (2 * i + 1) _ ?_⟩⟩
 · have e : 2 * i < 32 := by omega
   simp [e]
 · have e : 2 * i + 1 < 32 := by omega
   have e1 : ¬ (2 * i + 1) % 2 = 0 := by omega
   have e2 : (2 * i + 1) / 2 = i := by omega
   simp [e, e1, e2]
def utf8_Decode_g (s : ByteArray) : Option (Int × Int) := some (((Lib.decodeGo s).1 : Int), ((Lib.decodeGo s).2 : Int))
def utf8_Decode_s (R : RF) (r : Int × Int) : V := .tup [fI .i32 r.1, fI .i64 r.2]
theorem utf8_Decode_w {s : ByteArray} {r : Int × Int} (h : utf8_Decode_g s = some r) : FunS Tryz.prog 134 [fS s] (utf8_Decode_s rw) r := by
 cases h
 exact fun_elder (Tryz.call134) rfl rfl fun G w hT hG => Tryz.utf8_DecodeRuneInString s w (tab_utf8 hT)
def strings_IndexByte_g (s : ByteArray) (c : Int) : Option Int := some (Lib.indexByte s.data.toList c.toNat.toUInt8)
theorem strings_IndexByte_w {s : ByteArray} {c r : Int} (h : strings_IndexByte_g s c = some r) : FunS Tryz.prog 161 [fS s, fI .u8 c] (intS rw) r := by
 cases h
 exact fun_elder (Tryz.call161) rfl rfl fun G w hT hG => (Tryz.strings_IndexByte s c w).mono fun e w' ⟨h1, h2⟩ => ⟨h1, h2 ▸ Below.refl _ _⟩
def regex_Parse_g (s : ByteArray) : Option (Node × GFault) := some ((Rx.parse s.data.toList).1, ⟨(Rx.parse s.data.toList).2.1, ((Rx.parse s.data.toList).2.2 : Nat)⟩)
def regex_Parse_s (R : RF) (r : Node × GFault) : V := .tup [.agg [fI .i64 r.1.kind, fI .u64 (r.1.set.a.toNat : Int), fI .u64 (r.1.set.b.toNat : Int), fI .u64 (r.1.set.c.toNat : Int), fI .u64 (r.1.set.d.toNat : Int), .t (.slc (R _ nodeRow r.1.kids)), fI .i64 r.1.min, fI .i64 r.1.max], .agg [fI .i64 r.2.E, fI .i64 r.2.At]]
theorem regex_Parse_w {s : ByteArray} {r : Node × GFault} (h : regex_Parse_g s = some r) : FunS Tryz.prog 92 [fS s] (regex_Parse_s rw) r := by
 cases h
 have := Rd.parse_f s
 unfold FunS at this ⊢
 have e : Rd.shP (Rx.parse s.data.toList) = regex_Parse_s rw ((Rx.parse s.data.toList).1, ⟨(Rx.parse s.data.toList).2.1, ((Rx.parse s.data.toList).2.2 : Nat)⟩) := by
  generalize Rx.parse s.data.toList = r
  unfold Rd.shP nodeV nsV ns regex_Parse_s
  simp only [nodeRows_map]
  rfl
 rw [← e]; exact this
end Gn
end Go.Proofs.YtagppjldegblhaaGreatDoor
namespace Go.Proofs.YtagppjldegblhaaGreatDoor
open Go Go.RowKit
open Ab Sh
theorem T_kinds_in : (0, T_kinds.map Value.string) ∈ tabs := by
 unfold tabs
 repeat first | exact List.mem_cons_self | apply List.mem_cons_of_mem
theorem T_kinds_len : (T_kinds.map Value.string).length = 8 := rfl
theorem T_kinds_one : (T_kinds.map Value.string).all oneV = true := rfl
theorem T_kinds_rows : ((T_kinds.map Value.string).map fun v => [Ab.T.flat v]) = rw ByteArray cS T_kinds := rfl
theorem T_dos_in : (1, T_dos.map Value.string) ∈ tabs := by
 unfold tabs
 repeat first | exact List.mem_cons_self | apply List.mem_cons_of_mem
theorem T_dos_len : (T_dos.map Value.string).length = 3 := rfl
theorem T_dos_one : (T_dos.map Value.string).all oneV = true := rfl
theorem T_dos_rows : ((T_dos.map Value.string).map fun v => [Ab.T.flat v]) = rw ByteArray cS T_dos := rfl
end Go.Proofs.YtagppjldegblhaaGreatDoor
