/- Texts that the proof leans on. -/
import Derived.WalkKit
import Derived.KernelRfl
import Derived.Test.YtpplemjjeefpdaaGreatDoorProg
import Derived.Test.YtpplemjjeefpdaaGreatDoorK102
import Derived.Test.YtpplemjjeefpdaaGreatDoorK101
namespace Go.Proofs.YtpplemjjeefpdaaGreatDoor
open Go
namespace Ab
set_option maxRecDepth 100000
namespace Ly
def l0 : Option Lt := none
def l1 : Option Lt := some { size := 1, bytes := 8, zero := [.nilFunc] }
def l2 : Option Lt := some { ik := some .i64, size := 1, bytes := 8, zero := [.int .i64 0] }
def l3 : Option Lt := some { ik := some .i64, size := 1, bytes := 8, zero := [.int .i64 0] }
def l4 : Option Lt := some { kind := 5, size := 1, bytes := 1, zero := [.bool false] }
def l5 : Option Lt := some { ik := some .u8, size := 1, bytes := 1, zero := [.int .u8 0] }
def l6 : Option Lt := some { ik := some .u8, size := 1, bytes := 1, zero := [.int .u8 0] }
def l7 : Option Lt := some { kind := 1, parts := [(0, 1, false), (1, 1, false), (2, 1, false), (3, 1, false)], size := 4, bytes := 24, zero := [.int .i64 0, .int .i64 0, .bool false, .int .u8 0] }
def l8 : Option Lt := some { kind := 1, parts := [(0, 1, false), (1, 1, false), (2, 1, false), (3, 1, false)], size := 4, bytes := 24, zero := [.int .i64 0, .int .i64 0, .bool false, .int .u8 0] }
def l9 : Option Lt := some { kind := 4, size := 1, bytes := 16, zero := [.string ByteArray.empty] }
def l10 : Option Lt := some { kind := 4, size := 1, bytes := 16, zero := [.string ByteArray.empty] }
def l11 : Option Lt := some { kind := 4, size := 1, bytes := 16, zero := [.string ByteArray.empty] }
def l12 : Option Lt := some { ik := some .u64, size := 1, bytes := 8, zero := [.int .u64 0] }
def l13 : Option Lt := some { kind := 1, parts := [(0, 1, false), (1, 1, false)], size := 2, bytes := 24, zero := [.string ByteArray.empty, .int .u64 0] }
def l14 : Option Lt := some { kind := 1, parts := [(0, 1, false), (1, 1, false)], size := 2, bytes := 24, zero := [.string ByteArray.empty, .int .u64 0] }
def l15 : Option Lt := some { size := 1, bytes := 8, zero := [.pointer none] }
def l16 : Option Lt := some { size := 1, bytes := 8, zero := [.pointer none] }
def l17 : Option Lt := some { size := 1, bytes := 8, zero := [.pointer none] }
def l18 : Option Lt := some { kind := 1, parts := [(0, 1, false)], size := 1, bytes := 8, zero := [.pointer none] }
def l19 : Option Lt := some { kind := 1, parts := [(0, 1, false)], size := 1, bytes := 8, zero := [.pointer none] }
def l20 : Option Lt := some { size := 1, bytes := 16, zero := [.nilIface] }
def l21 : Option Lt := some { ik := some .i32, size := 1, bytes := 4, zero := [.int .i32 0] }
def l22 : Option Lt := some { kind := 3, elem := 46, size := 1, bytes := 24, zero := [.slice none 0 0] }
def l23 : Option Lt := some { size := 1, bytes := 8, zero := [.nilFunc] }
def l24 : Option Lt := some { size := 1, bytes := 8, zero := [.nilFunc] }
def l25 : Option Lt := some { ik := some .i64, size := 1, bytes := 8, zero := [.int .i64 0] }
def l26 : Option Lt := some { kind := 1, parts := [(0, 1, false), (1, 1, false)], ck := some [.i .i64, .i .i64], size := 2, bytes := 16, zero := [.int .i64 0, .int .i64 0] }
def l27 : Option Lt := some { kind := 1, parts := [(0, 1, false), (1, 1, false)], ck := some [.i .i64, .i .i64], size := 2, bytes := 16, zero := [.int .i64 0, .int .i64 0] }
def l28 : Option Lt := none
def l29 : Option Lt := some { size := 1, bytes := 8, zero := [.nilFunc] }
def l30 : Option Lt := none
def l31 : Option Lt := some { size := 1, bytes := 8, zero := [.nilFunc] }
def l32 : Option Lt := some { size := 1, bytes := 8, zero := [.nilFunc] }
def l33 : Option Lt := some { size := 1, bytes := 8, zero := [.nilFunc] }
def l34 : Option Lt := some { size := 1, bytes := 8, zero := [.nilFunc] }
def l35 : Option Lt := some { kind := 3, elem := 48, size := 1, bytes := 24, zero := [.slice none 0 0] }
def l36 : Option Lt := some { size := 1, bytes := 8, zero := [.nilFunc] }
def l37 : Option Lt := some { size := 1, bytes := 8, zero := [.nilFunc] }
def l38 : Option Lt := some { size := 1, bytes := 8, zero := [.nilFunc] }
def l39 : Option Lt := some { kind := 3, elem := 9, size := 1, bytes := 24, zero := [.slice none 0 0] }
def l40 : Option Lt := some { size := 1, bytes := 8, zero := [.nilFunc] }
def l41 : Option Lt := some { size := 1, bytes := 8, zero := [.nilFunc] }
def l42 : Option Lt := some { size := 1, bytes := 8, zero := [.nilFunc] }
def l43 : Option Lt := some { size := 1, bytes := 8, zero := [.nilFunc] }
def l44 : Option Lt := some { size := 1, bytes := 8, zero := [.nilFunc] }
def l45 : Option Lt := some { kind := 1, parts := [(0, 1, false), (1, 1, false), (2, 1, false)], ck := some [.s, .i .i64, .s], size := 3, bytes := 40, zero := [.string ByteArray.empty, .int .i64 0, .string ByteArray.empty] }
def l46 : Option Lt := some { kind := 1, parts := [(0, 1, false), (1, 1, false), (2, 1, false)], ck := some [.s, .i .i64, .s], size := 3, bytes := 40, zero := [.string ByteArray.empty, .int .i64 0, .string ByteArray.empty] }
def l47 : Option Lt := some { kind := 1, parts := [(0, 1, false), (1, 1, false)], ck := some [.s, .s], size := 2, bytes := 32, zero := [.string ByteArray.empty, .string ByteArray.empty] }
def l48 : Option Lt := some { kind := 1, parts := [(0, 1, false), (1, 1, false)], ck := some [.s, .s], size := 2, bytes := 32, zero := [.string ByteArray.empty, .string ByteArray.empty] }
def l49 : Option Lt := some { size := 1, bytes := 8, zero := [.nilFunc] }
def l50 : Option Lt := some { size := 1, bytes := 8, zero := [.nilFunc] }
def l51 : Option Lt := none
def l52 : Option Lt := some { size := 1, bytes := 8, zero := [.nilFunc] }
def l53 : Option Lt := some { size := 1, bytes := 8, zero := [.nilFunc] }
def l54 : Option Lt := some { size := 1, bytes := 8, zero := [.pointer none] }
def l55 : Option Lt := some { kind := 3, elem := 5, size := 1, bytes := 24, zero := [.slice none 0 0] }
def l56 : Option Lt := some { kind := 1, parts := [(0, 1, false), (1, 1, false)], size := 2, bytes := 32, zero := [.pointer none, .slice none 0 0] }
def l57 : Option Lt := some { kind := 1, parts := [(0, 1, false), (1, 1, false)], size := 2, bytes := 32, zero := [.pointer none, .slice none 0 0] }
def l58 : Option Lt := some { size := 1, bytes := 16, zero := [.nilIface] }
def l59 : Option Lt := some { size := 1, bytes := 16, zero := [.nilIface] }
def l60 : Option Lt := none
def l61 : Option Lt := some { size := 1, bytes := 8, zero := [.nilFunc] }
def l62 : Option Lt := some { size := 1, bytes := 8, zero := [.nilFunc] }
def l63 : Option Lt := some { size := 1, bytes := 8, zero := [.nilFunc] }
def l64 : Option Lt := some { size := 1, bytes := 8, zero := [.nilFunc] }
def l65 : Option Lt := some { size := 1, bytes := 8, zero := [.nilFunc] }
def l66 : Option Lt := some { size := 1, bytes := 8, zero := [.nilFunc] }
def l67 : Option Lt := some { size := 1, bytes := 8, zero := [.nilFunc] }
def l68 : Option Lt := some { size := 1, bytes := 8, zero := [.nilFunc] }
def l69 : Option Lt := some { size := 1, bytes := 8, zero := [.nilFunc] }
def l70 : Option Lt := some { size := 1, bytes := 8, zero := [.nilFunc] }
def l71 : Option Lt := some { size := 1, bytes := 8, zero := [.nilFunc] }
def l72 : Option Lt := some { size := 1, bytes := 8, zero := [.nilFunc] }
def l73 : Option Lt := some { size := 1, bytes := 8, zero := [.nilFunc] }
def l74 : Option Lt := some { size := 1, bytes := 8, zero := [.nilFunc] }
def l75 : Option Lt := some { size := 1, bytes := 8, zero := [.nilFunc] }
def l76 : Option Lt := some { ik := some .u64, size := 1, bytes := 8, zero := [.int .u64 0] }
def l77 : Option Lt := some { kind := 2, len := 4, elem := 76, ck := some [.i .u64, .i .u64, .i .u64, .i .u64], size := 4, bytes := 32, zero := [.int .u64 0, .int .u64 0, .int .u64 0, .int .u64 0] }
def l78 : Option Lt := some { kind := 2, len := 4, elem := 76, ck := some [.i .u64, .i .u64, .i .u64, .i .u64], size := 4, bytes := 32, zero := [.int .u64 0, .int .u64 0, .int .u64 0, .int .u64 0] }
def l79 : Option Lt := some { kind := 3, elem := 81, size := 1, bytes := 24, zero := [.slice none 0 0] }
def l80 : Option Lt := some { kind := 1, parts := [(0, 1, false), (1, 4, true), (5, 1, false), (6, 1, false), (7, 1, false)], size := 8, bytes := 80, zero := [.int .i64 0, .int .u64 0, .int .u64 0, .int .u64 0, .int .u64 0, .slice none 0 0, .int .i64 0, .int .i64 0] }
def l81 : Option Lt := some { kind := 1, parts := [(0, 1, false), (1, 4, true), (5, 1, false), (6, 1, false), (7, 1, false)], size := 8, bytes := 80, zero := [.int .i64 0, .int .u64 0, .int .u64 0, .int .u64 0, .int .u64 0, .slice none 0 0, .int .i64 0, .int .i64 0] }
def l82 : Option Lt := none
def l83 : Option Lt := some { size := 1, bytes := 8, zero := [.nilFunc] }
def l84 : Option Lt := some { size := 1, bytes := 8, zero := [.nilFunc] }
def l85 : Option Lt := none
def l86 : Option Lt := some { size := 1, bytes := 8, zero := [.nilFunc] }
def l87 : Option Lt := some { size := 1, bytes := 8, zero := [.nilFunc] }
def l88 : Option Lt := none
def l89 : Option Lt := some { size := 1, bytes := 8, zero := [.nilFunc] }
def l90 : Option Lt := some { size := 1, bytes := 8, zero := [.nilFunc] }
def l91 : Option Lt := none
def l92 : Option Lt := some { size := 1, bytes := 8, zero := [.nilFunc] }
def l93 : Option Lt := some { size := 1, bytes := 8, zero := [.nilFunc] }
def l94 : Option Lt := some { size := 1, bytes := 8, zero := [.nilFunc] }
def l95 : Option Lt := some { size := 1, bytes := 8, zero := [.nilFunc] }
def l96 : Option Lt := some { size := 1, bytes := 8, zero := [.pointer none] }
def l97 : Option Lt := none
def l98 : Option Lt := some { size := 1, bytes := 8, zero := [.nilFunc] }
def l99 : Option Lt := some { size := 1, bytes := 8, zero := [.nilFunc] }
def l100 : Option Lt := some { size := 1, bytes := 8, zero := [.nilFunc] }
def l101 : Option Lt := some { size := 1, bytes := 8, zero := [.nilFunc] }
def l102 : Option Lt := some { size := 1, bytes := 8, zero := [.nilFunc] }
def l103 : Option Lt := some { size := 1, bytes := 8, zero := [.nilFunc] }
def l104 : Option Lt := some { ik := some .u64, size := 1, bytes := 8, zero := [.int .u64 0] }
def l105 : Option Lt := some { size := 1, bytes := 8, zero := [.nilFunc] }
def l106 : Option Lt := some { size := 1, bytes := 8, zero := [.nilFunc] }
def l107 : Option Lt := some { size := 1, bytes := 8, zero := [.nilFunc] }
def l108 : Option Lt := some { kind := 1, parts := [(0, 8, true), (8, 4, true), (12, 1, false), (13, 1, false), (14, 2, true)], size := 16, bytes := 144, zero := [.int .i64 0, .int .u64 0, .int .u64 0, .int .u64 0, .int .u64 0, .slice none 0 0, .int .i64 0, .int .i64 0, .int .u64 0, .int .u64 0, .int .u64 0, .int .u64 0, .bool false, .int .i64 0, .int .i64 0, .int .i64 0] }
def l109 : Option Lt := some { kind := 1, parts := [(0, 8, true), (8, 4, true), (12, 1, false), (13, 1, false), (14, 2, true)], size := 16, bytes := 144, zero := [.int .i64 0, .int .u64 0, .int .u64 0, .int .u64 0, .int .u64 0, .slice none 0 0, .int .i64 0, .int .i64 0, .int .u64 0, .int .u64 0, .int .u64 0, .int .u64 0, .bool false, .int .i64 0, .int .i64 0, .int .i64 0] }
def l110 : Option Lt := some { size := 1, bytes := 8, zero := [.nilFunc] }
def l111 : Option Lt := some { size := 1, bytes := 8, zero := [.nilFunc] }
def l112 : Option Lt := some { size := 1, bytes := 8, zero := [.nilFunc] }
def l113 : Option Lt := some { size := 1, bytes := 8, zero := [.nilFunc] }
def l114 : Option Lt := some { kind := 2, len := 4, elem := 3, ck := some [.i .i64, .i .i64, .i .i64, .i .i64], size := 4, bytes := 32, zero := [.int .i64 0, .int .i64 0, .int .i64 0, .int .i64 0] }
def l115 : Option Lt := none
def l116 : Option Lt := some { size := 1, bytes := 8, zero := [.nilFunc] }
def l117 : Option Lt := none
def l118 : Option Lt := some { size := 1, bytes := 8, zero := [.nilFunc] }
def l119 : Option Lt := some { size := 1, bytes := 8, zero := [.nilFunc] }
def l120 : Option Lt := some { size := 1, bytes := 8, zero := [.nilFunc] }
def l121 : Option Lt := some { size := 1, bytes := 8, zero := [.nilFunc] }
def l122 : Option Lt := none
def l123 : Option Lt := some { size := 1, bytes := 8, zero := [.nilFunc] }
def l124 : Option Lt := some { size := 1, bytes := 8, zero := [.nilFunc] }
def l125 : Option Lt := some { size := 1, bytes := 8, zero := [.nilFunc] }
def l126 : Option Lt := some { kind := 4, size := 1, bytes := 16, zero := [.string ByteArray.empty] }
def l127 : Option Lt := some { kind := 1, parts := [(0, 8, true)], size := 8, bytes := 80, zero := [.int .i64 0, .int .u64 0, .int .u64 0, .int .u64 0, .int .u64 0, .slice none 0 0, .int .i64 0, .int .i64 0] }
def l128 : Option Lt := some { kind := 1, parts := [(0, 8, true)], size := 8, bytes := 80, zero := [.int .i64 0, .int .u64 0, .int .u64 0, .int .u64 0, .int .u64 0, .slice none 0 0, .int .i64 0, .int .i64 0] }
def l129 : Option Lt := some { size := 1, bytes := 16, zero := [.nilIface] }
def l130 : Option Lt := some { size := 1, bytes := 16, zero := [.nilIface] }
def l131 : Option Lt := none
def l132 : Option Lt := some { size := 1, bytes := 8, zero := [.nilFunc] }
def l133 : Option Lt := some { size := 1, bytes := 8, zero := [.nilFunc] }
def l134 : Option Lt := some { size := 1, bytes := 8, zero := [.nilFunc] }
def l135 : Option Lt := some { size := 1, bytes := 8, zero := [.nilFunc] }
def l136 : Option Lt := some { ik := some .i64, size := 1, bytes := 8, zero := [.int .i64 0] }
def l137 : Option Lt := none
def l138 : Option Lt := some { size := 1, bytes := 8, zero := [.nilFunc] }
def l139 : Option Lt := some { size := 1, bytes := 8, zero := [.nilFunc] }
def l140 : Option Lt := some { size := 1, bytes := 8, zero := [.nilFunc] }
def l141 : Option Lt := none
def l142 : Option Lt := some { size := 1, bytes := 8, zero := [.nilFunc] }
def l143 : Option Lt := some { size := 1, bytes := 8, zero := [.nilFunc] }
def l144 : Option Lt := some { ik := some .u32, size := 1, bytes := 4, zero := [.int .u32 0] }
def l145 : Option Lt := some { size := 1, bytes := 8, zero := [.nilFunc] }
def l146 : Option Lt := some { kind := 3, elem := 3, size := 1, bytes := 24, zero := [.slice none 0 0] }
def l147 : Option Lt := some { size := 1, bytes := 8, zero := [.nilFunc] }
def l148 : Option Lt := some { size := 1, bytes := 8, zero := [.nilFunc] }
def l149 : Option Lt := some { size := 1, bytes := 8, zero := [.nilFunc] }
def l150 : Option Lt := some { size := 1, bytes := 8, zero := [.nilFunc] }
def l151 : Option Lt := some { size := 1, bytes := 8, zero := [.nilFunc] }
def l152 : Option Lt := some { size := 1, bytes := 8, zero := [.nilFunc] }
def l153 : Option Lt := some { size := 1, bytes := 8, zero := [.nilFunc] }
def l154 : Option Lt := some { size := 1, bytes := 8, zero := [.nilFunc] }
def l155 : Option Lt := some { size := 1, bytes := 8, zero := [.nilFunc] }
def l156 : Option Lt := some { size := 1, bytes := 8, zero := [.nilFunc] }
def l157 : Option Lt := some { size := 1, bytes := 8, zero := [.nilFunc] }
def l158 : Option Lt := some { size := 1, bytes := 8, zero := [.nilFunc] }
def l159 : Option Lt := some { kind := 1, parts := [(0, 2, true)], size := 2, bytes := 16, zero := [.int .i64 0, .int .i64 0] }
def l160 : Option Lt := some { kind := 1, parts := [(0, 2, true)], size := 2, bytes := 16, zero := [.int .i64 0, .int .i64 0] }
def l161 : Option Lt := some { size := 1, bytes := 8, zero := [.pointer none] }
def l162 : Option Lt := some { kind := 1, parts := [(0, 1, false), (1, 1, false), (2, 1, false)], ck := some [.s, .i .i64, .i .i64], size := 3, bytes := 32, zero := [.string ByteArray.empty, .int .i64 0, .int .i64 0] }
def l163 : Option Lt := some { kind := 1, parts := [(0, 1, false), (1, 1, false), (2, 1, false)], ck := some [.s, .i .i64, .i .i64], size := 3, bytes := 32, zero := [.string ByteArray.empty, .int .i64 0, .int .i64 0] }
def l164 : Option Lt := some { size := 1, bytes := 8, zero := [.nilFunc] }
def l165 : Option Lt := some { size := 1, bytes := 8, zero := [.nilFunc] }
def l166 : Option Lt := some { kind := 3, elem := 4, size := 1, bytes := 24, zero := [.slice none 0 0] }
def l167 : Option Lt := some { size := 1, bytes := 8, zero := [.nilFunc] }
def l168 : Option Lt := some { ik := some .u64, size := 1, bytes := 8, zero := [.int .u64 0] }
def l169 : Option Lt := some { size := 1, bytes := 8, zero := [.nilFunc] }
def l170 : Option Lt := some { size := 1, bytes := 8, zero := [.nilFunc] }
def l171 : Option Lt := some { size := 1, bytes := 8, zero := [.nilFunc] }
def l172 : Option Lt := some { size := 1, bytes := 8, zero := [.pointer none] }
def l173 : Option Lt := some { size := 1, bytes := 8, zero := [.nilFunc] }
def l174 : Option Lt := some { size := 1, bytes := 8, zero := [.nilFunc] }
def l175 : Option Lt := some { size := 1, bytes := 8, zero := [.nilFunc] }
def l176 : Option Lt := some { kind := 2, len := 256, elem := 5, size := 256, bytes := 256, zero := [.int .u8 0, .int .u8 0, .int .u8 0, .int .u8 0, .int .u8 0, .int .u8 0, .int .u8 0, .int .u8 0, .int .u8 0, .int .u8 0, .int .u8 0, .int .u8 0, .int .u8 0, .int .u8 0, .int .u8 0, .int .u8 0, .int .u8 0, .int .u8 0, .int .u8 0, .int .u8 0, .int .u8 0, .int .u8 0, .int .u8 0, .int .u8 0, .int .u8 0, .int .u8 0, .int .u8 0, .int .u8 0, .int .u8 0, .int .u8 0, .int .u8 0, .int .u8 0, .int .u8 0, .int .u8 0, .int .u8 0, .int .u8 0, .int .u8 0, .int .u8 0, .int .u8 0, .int .u8 0, .int .u8 0, .int .u8 0, .int .u8 0, .int .u8 0, .int .u8 0, .int .u8 0, .int .u8 0, .int .u8 0, .int .u8 0, .int .u8 0, .int .u8 0, .int .u8 0, .int .u8 0, .int .u8 0, .int .u8 0, .int .u8 0, .int .u8 0, .int .u8 0, .int .u8 0, .int .u8 0, .int .u8 0, .int .u8 0, .int .u8 0, .int .u8 0, .int .u8 0, .int .u8 0, .int .u8 0, .int .u8 0, .int .u8 0, .int .u8 0, .int .u8 0, .int .u8 0, .int .u8 0, .int .u8 0, .int .u8 0, .int .u8 0, .int .u8 0, .int .u8 0, .int .u8 0, .int .u8 0, .int .u8 0, .int .u8 0, .int .u8 0, .int .u8 0, .int .u8 0, .int .u8 0, .int .u8 0, .int .u8 0, .int .u8 0, .int .u8 0, .int .u8 0, .int .u8 0, .int .u8 0, .int .u8 0, .int .u8 0, .int .u8 0, .int .u8 0, .int .u8 0, .int .u8 0, .int .u8 0, .int .u8 0, .int .u8 0, .int .u8 0, .int .u8 0, .int .u8 0, .int .u8 0, .int .u8 0, .int .u8 0, .int .u8 0, .int .u8 0, .int .u8 0, .int .u8 0, .int .u8 0, .int .u8 0, .int .u8 0, .int .u8 0, .int .u8 0, .int .u8 0, .int .u8 0, .int .u8 0, .int .u8 0, .int .u8 0, .int .u8 0, .int .u8 0, .int .u8 0, .int .u8 0, .int .u8 0, .int .u8 0, .int .u8 0, .int .u8 0, .int .u8 0, .int .u8 0, .int .u8 0, .int .u8 0, .int .u8 0, .int .u8 0, .int .u8 0, .int .u8 0, .int .u8 0, .int .u8 0, .int .u8 0, .int .u8 0, .int .u8 0, .int .u8 0, .int .u8 0, .int .u8 0, .int .u8 0, .int .u8 0, .int .u8 0, .int .u8 0, .int .u8 0, .int .u8 0, .int .u8 0, .int .u8 0, .int .u8 0, .int .u8 0, .int .u8 0, .int .u8 0, .int .u8 0, .int .u8 0, .int .u8 0, .int .u8 0, .int .u8 0, .int .u8 0, .int .u8 0, .int .u8 0, .int .u8 0, .int .u8 0, .int .u8 0, .int .u8 0, .int .u8 0, .int .u8 0, .int .u8 0, .int .u8 0, .int .u8 0, .int .u8 0, .int .u8 0, .int .u8 0, .int .u8 0, .int .u8 0, .int .u8 0, .int .u8 0, .int .u8 0, .int .u8 0, .int .u8 0, .int .u8 0, .int .u8 0, .int .u8 0, .int .u8 0, .int .u8 0, .int .u8 0, .int .u8 0, .int .u8 0, .int .u8 0, .int .u8 0, .int .u8 0, .int .u8 0, .int .u8 0, .int .u8 0, .int .u8 0, .int .u8 0, .int .u8 0, .int .u8 0, .int .u8 0, .int .u8 0, .int .u8 0, .int .u8 0, .int .u8 0, .int .u8 0, .int .u8 0, .int .u8 0, .int .u8 0, .int .u8 0, .int .u8 0, .int .u8 0, .int .u8 0, .int .u8 0, .int .u8 0, .int .u8 0, .int .u8 0, .int .u8 0, .int .u8 0, .int .u8 0, .int .u8 0, .int .u8 0, .int .u8 0, .int .u8 0, .int .u8 0, .int .u8 0, .int .u8 0, .int .u8 0, .int .u8 0, .int .u8 0, .int .u8 0, .int .u8 0, .int .u8 0, .int .u8 0, .int .u8 0, .int .u8 0, .int .u8 0, .int .u8 0, .int .u8 0, .int .u8 0, .int .u8 0, .int .u8 0, .int .u8 0, .int .u8 0, .int .u8 0, .int .u8 0, .int .u8 0, .int .u8 0, .int .u8 0, .int .u8 0, .int .u8 0, .int .u8 0, .int .u8 0] }
def l177 : Option Lt := some { kind := 1, parts := [(0, 1, false), (1, 1, false)], size := 2, bytes := 2, zero := [.int .u8 0, .int .u8 0] }
def l178 : Option Lt := some { kind := 1, parts := [(0, 1, false), (1, 1, false)], size := 2, bytes := 2, zero := [.int .u8 0, .int .u8 0] }
def l179 : Option Lt := some { kind := 2, len := 16, elem := 178, size := 32, bytes := 32, zero := [.int .u8 0, .int .u8 0, .int .u8 0, .int .u8 0, .int .u8 0, .int .u8 0, .int .u8 0, .int .u8 0, .int .u8 0, .int .u8 0, .int .u8 0, .int .u8 0, .int .u8 0, .int .u8 0, .int .u8 0, .int .u8 0, .int .u8 0, .int .u8 0, .int .u8 0, .int .u8 0, .int .u8 0, .int .u8 0, .int .u8 0, .int .u8 0, .int .u8 0, .int .u8 0, .int .u8 0, .int .u8 0, .int .u8 0, .int .u8 0, .int .u8 0, .int .u8 0] }
def l180 : Option Lt := some { size := 1, bytes := 8, zero := [.nilFunc] }
def l181 : Option Lt := some { size := 1, bytes := 8, zero := [.nilFunc] }
def l182 : Option Lt := some { size := 1, bytes := 8, zero := [.nilFunc] }
def l183 : Option Lt := some { size := 1, bytes := 8, zero := [.nilFunc] }
def l184 : Option Lt := some { size := 1, bytes := 8, zero := [.nilFunc] }
def l185 : Option Lt := some { size := 1, bytes := 8, zero := [.pointer none] }
def l186 : Option Lt := none
def l187 : Option Lt := some { size := 1, bytes := 8, zero := [.nilFunc] }
def l188 : Option Lt := some { size := 1, bytes := 8, zero := [.nilFunc] }
def l189 : Option Lt := some { size := 1, bytes := 8, zero := [.nilFunc] }
def l190 : Option Lt := some { size := 1, bytes := 8, zero := [.nilFunc] }
def l191 : Option Lt := some { size := 1, bytes := 8, zero := [.nilFunc] }
def l192 : Option Lt := some { size := 1, bytes := 8, zero := [.nilFunc] }
def l193 : Option Lt := none
def l194 : Option Lt := some { size := 1, bytes := 8, zero := [.nilFunc] }
def l195 : Option Lt := some { size := 1, bytes := 8, zero := [.nilFunc] }
def l196 : Option Lt := some { size := 1, bytes := 8, zero := [.nilFunc] }
def l197 : Option Lt := some { size := 1, bytes := 8, zero := [.nilFunc] }
def l198 : Option Lt := some { size := 1, bytes := 8, zero := [.nilFunc] }
def l199 : Option Lt := some { size := 1, bytes := 8, zero := [.nilFunc] }
def l200 : Option Lt := some { size := 1, bytes := 8, zero := [.nilFunc] }
def l201 : Option Lt := some { size := 1, bytes := 8, zero := [.nilFunc] }
def l202 : Option Lt := none
def l203 : Option Lt := some { size := 1, bytes := 8, zero := [.nilFunc] }
def l204 : Option Lt := some { size := 1, bytes := 8, zero := [.nilFunc] }
def l205 : Option Lt := some { size := 1, bytes := 8, zero := [.nilFunc] }
def l206 : Option Lt := some { kind := 2, len := 64, elem := 5, size := 64, bytes := 64, zero := [.int .u8 0, .int .u8 0, .int .u8 0, .int .u8 0, .int .u8 0, .int .u8 0, .int .u8 0, .int .u8 0, .int .u8 0, .int .u8 0, .int .u8 0, .int .u8 0, .int .u8 0, .int .u8 0, .int .u8 0, .int .u8 0, .int .u8 0, .int .u8 0, .int .u8 0, .int .u8 0, .int .u8 0, .int .u8 0, .int .u8 0, .int .u8 0, .int .u8 0, .int .u8 0, .int .u8 0, .int .u8 0, .int .u8 0, .int .u8 0, .int .u8 0, .int .u8 0, .int .u8 0, .int .u8 0, .int .u8 0, .int .u8 0, .int .u8 0, .int .u8 0, .int .u8 0, .int .u8 0, .int .u8 0, .int .u8 0, .int .u8 0, .int .u8 0, .int .u8 0, .int .u8 0, .int .u8 0, .int .u8 0, .int .u8 0, .int .u8 0, .int .u8 0, .int .u8 0, .int .u8 0, .int .u8 0, .int .u8 0, .int .u8 0, .int .u8 0, .int .u8 0, .int .u8 0, .int .u8 0, .int .u8 0, .int .u8 0, .int .u8 0, .int .u8 0] }
def l207 : Option Lt := some { kind := 1, parts := [(0, 1, false), (1, 1, false), (2, 1, false), (3, 1, false)], size := 4, bytes := 40, zero := [.pointer none, .pointer none, .pointer none, .string ByteArray.empty] }
def l208 : Option Lt := some { kind := 1, parts := [(0, 1, false), (1, 1, false), (2, 1, false), (3, 1, false)], size := 4, bytes := 40, zero := [.pointer none, .pointer none, .pointer none, .string ByteArray.empty] }
def l209 : Option Lt := some { kind := 2, len := 0, elem := 16, size := 0, bytes := 0, zero := [] }
def l210 : Option Lt := some { kind := 1, parts := [(0, 0, true)], size := 0, bytes := 0, zero := [] }
def l211 : Option Lt := some { kind := 1, parts := [(0, 0, true)], size := 0, bytes := 0, zero := [] }
def l212 : Option Lt := some { ik := some .u8, size := 1, bytes := 1, zero := [.int .u8 0] }
def l213 : Option Lt := some { ik := some .u8, size := 1, bytes := 1, zero := [.int .u8 0] }
def l214 : Option Lt := some { size := 1, bytes := 8, zero := [.nilFunc] }
def l215 : Option Lt := some { ik := some .i32, size := 1, bytes := 4, zero := [.int .i32 0] }
def l216 : Option Lt := some { ik := some .i32, size := 1, bytes := 4, zero := [.int .i32 0] }
def l217 : Option Lt := some { kind := 1, parts := [(0, 1, false), (1, 1, false), (2, 1, false), (3, 1, false), (4, 1, false), (5, 1, false), (6, 1, false), (7, 1, false), (8, 1, false), (9, 1, false), (10, 1, false)], size := 11, bytes := 48, zero := [.int .u64 0, .int .u64 0, .int .u32 0, .int .u8 0, .int .u8 0, .int .u8 0, .int .u8 0, .nilFunc, .pointer none, .int .i32 0, .int .i32 0] }
def l218 : Option Lt := some { kind := 1, parts := [(0, 1, false), (1, 1, false), (2, 1, false), (3, 1, false), (4, 1, false), (5, 1, false), (6, 1, false), (7, 1, false), (8, 1, false), (9, 1, false), (10, 1, false)], size := 11, bytes := 48, zero := [.int .u64 0, .int .u64 0, .int .u32 0, .int .u8 0, .int .u8 0, .int .u8 0, .int .u8 0, .nilFunc, .pointer none, .int .i32 0, .int .i32 0] }
def l219 : Option Lt := some { size := 1, bytes := 8, zero := [.nilFunc] }
def l220 : Option Lt := some { size := 1, bytes := 8, zero := [.nilFunc] }
def l221 : Option Lt := some { size := 1, bytes := 8, zero := [.nilFunc] }
def l222 : Option Lt := some { kind := 3, elem := 4, size := 1, bytes := 24, zero := [.slice none 0 0] }
def l223 : Option Lt := some { size := 1, bytes := 8, zero := [.nilFunc] }
def l224 : Option Lt := some { size := 1, bytes := 8, zero := [.nilFunc] }
def l225 : Option Lt := some { size := 1, bytes := 8, zero := [.nilFunc] }
def l226 : Option Lt := some { size := 1, bytes := 8, zero := [.nilFunc] }
def l227 : Option Lt := some { size := 1, bytes := 8, zero := [.nilFunc] }
def lay (t : TypeId) : Option Lt :=
  match Nat.ble 114 t with
  | true =>
    match Nat.ble 171 t with
    | true =>
      match Nat.ble 199 t with
      | true =>
        match Nat.ble 213 t with
        | true =>
          match Nat.ble 220 t with
          | true =>
            match Nat.ble 224 t with
            | true =>
              match Nat.ble 226 t with
              | true =>
                match Nat.ble 227 t with
                | true =>
                  l227
                | false =>
                  l226
              | false =>
                match Nat.ble 225 t with
                | true =>
                  l225
                | false =>
                  l224
            | false =>
              match Nat.ble 222 t with
              | true =>
                match Nat.ble 223 t with
                | true =>
                  l223
                | false =>
                  l222
              | false =>
                match Nat.ble 221 t with
                | true =>
                  l221
                | false =>
                  l220
          | false =>
            match Nat.ble 216 t with
            | true =>
              match Nat.ble 218 t with
              | true =>
                match Nat.ble 219 t with
                | true =>
                  l219
                | false =>
                  l218
              | false =>
                match Nat.ble 217 t with
                | true =>
                  l217
                | false =>
                  l216
            | false =>
              match Nat.ble 214 t with
              | true =>
                match Nat.ble 215 t with
                | true =>
                  l215
                | false =>
                  l214
              | false =>
                l213
        | false =>
          match Nat.ble 206 t with
          | true =>
            match Nat.ble 209 t with
            | true =>
              match Nat.ble 211 t with
              | true =>
                match Nat.ble 212 t with
                | true =>
                  l212
                | false =>
                  l211
              | false =>
                match Nat.ble 210 t with
                | true =>
                  l210
                | false =>
                  l209
            | false =>
              match Nat.ble 207 t with
              | true =>
                match Nat.ble 208 t with
                | true =>
                  l208
                | false =>
                  l207
              | false =>
                l206
          | false =>
            match Nat.ble 202 t with
            | true =>
              match Nat.ble 204 t with
              | true =>
                match Nat.ble 205 t with
                | true =>
                  l205
                | false =>
                  l204
              | false =>
                match Nat.ble 203 t with
                | true =>
                  l203
                | false =>
                  l202
            | false =>
              match Nat.ble 200 t with
              | true =>
                match Nat.ble 201 t with
                | true =>
                  l201
                | false =>
                  l200
              | false =>
                l199
      | false =>
        match Nat.ble 185 t with
        | true =>
          match Nat.ble 192 t with
          | true =>
            match Nat.ble 195 t with
            | true =>
              match Nat.ble 197 t with
              | true =>
                match Nat.ble 198 t with
                | true =>
                  l198
                | false =>
                  l197
              | false =>
                match Nat.ble 196 t with
                | true =>
                  l196
                | false =>
                  l195
            | false =>
              match Nat.ble 193 t with
              | true =>
                match Nat.ble 194 t with
                | true =>
                  l194
                | false =>
                  l193
              | false =>
                l192
          | false =>
            match Nat.ble 188 t with
            | true =>
              match Nat.ble 190 t with
              | true =>
                match Nat.ble 191 t with
                | true =>
                  l191
                | false =>
                  l190
              | false =>
                match Nat.ble 189 t with
                | true =>
                  l189
                | false =>
                  l188
            | false =>
              match Nat.ble 186 t with
              | true =>
                match Nat.ble 187 t with
                | true =>
                  l187
                | false =>
                  l186
              | false =>
                l185
        | false =>
          match Nat.ble 178 t with
          | true =>
            match Nat.ble 181 t with
            | true =>
              match Nat.ble 183 t with
              | true =>
                match Nat.ble 184 t with
                | true =>
                  l184
                | false =>
                  l183
              | false =>
                match Nat.ble 182 t with
                | true =>
                  l182
                | false =>
                  l181
            | false =>
              match Nat.ble 179 t with
              | true =>
                match Nat.ble 180 t with
                | true =>
                  l180
                | false =>
                  l179
              | false =>
                l178
          | false =>
            match Nat.ble 174 t with
            | true =>
              match Nat.ble 176 t with
              | true =>
                match Nat.ble 177 t with
                | true =>
                  l177
                | false =>
                  l176
              | false =>
                match Nat.ble 175 t with
                | true =>
                  l175
                | false =>
                  l174
            | false =>
              match Nat.ble 172 t with
              | true =>
                match Nat.ble 173 t with
                | true =>
                  l173
                | false =>
                  l172
              | false =>
                l171
    | false =>
      match Nat.ble 142 t with
      | true =>
        match Nat.ble 156 t with
        | true =>
          match Nat.ble 163 t with
          | true =>
            match Nat.ble 167 t with
            | true =>
              match Nat.ble 169 t with
              | true =>
                match Nat.ble 170 t with
                | true =>
                  l170
                | false =>
                  l169
              | false =>
                match Nat.ble 168 t with
                | true =>
                  l168
                | false =>
                  l167
            | false =>
              match Nat.ble 165 t with
              | true =>
                match Nat.ble 166 t with
                | true =>
                  l166
                | false =>
                  l165
              | false =>
                match Nat.ble 164 t with
                | true =>
                  l164
                | false =>
                  l163
          | false =>
            match Nat.ble 159 t with
            | true =>
              match Nat.ble 161 t with
              | true =>
                match Nat.ble 162 t with
                | true =>
                  l162
                | false =>
                  l161
              | false =>
                match Nat.ble 160 t with
                | true =>
                  l160
                | false =>
                  l159
            | false =>
              match Nat.ble 157 t with
              | true =>
                match Nat.ble 158 t with
                | true =>
                  l158
                | false =>
                  l157
              | false =>
                l156
        | false =>
          match Nat.ble 149 t with
          | true =>
            match Nat.ble 152 t with
            | true =>
              match Nat.ble 154 t with
              | true =>
                match Nat.ble 155 t with
                | true =>
                  l155
                | false =>
                  l154
              | false =>
                match Nat.ble 153 t with
                | true =>
                  l153
                | false =>
                  l152
            | false =>
              match Nat.ble 150 t with
              | true =>
                match Nat.ble 151 t with
                | true =>
                  l151
                | false =>
                  l150
              | false =>
                l149
          | false =>
            match Nat.ble 145 t with
            | true =>
              match Nat.ble 147 t with
              | true =>
                match Nat.ble 148 t with
                | true =>
                  l148
                | false =>
                  l147
              | false =>
                match Nat.ble 146 t with
                | true =>
                  l146
                | false =>
                  l145
            | false =>
              match Nat.ble 143 t with
              | true =>
                match Nat.ble 144 t with
                | true =>
                  l144
                | false =>
                  l143
              | false =>
                l142
      | false =>
        match Nat.ble 128 t with
        | true =>
          match Nat.ble 135 t with
          | true =>
            match Nat.ble 138 t with
            | true =>
              match Nat.ble 140 t with
              | true =>
                match Nat.ble 141 t with
                | true =>
                  l141
                | false =>
                  l140
              | false =>
                match Nat.ble 139 t with
                | true =>
                  l139
                | false =>
                  l138
            | false =>
              match Nat.ble 136 t with
              | true =>
                match Nat.ble 137 t with
                | true =>
                  l137
                | false =>
                  l136
              | false =>
                l135
          | false =>
            match Nat.ble 131 t with
            | true =>
              match Nat.ble 133 t with
              | true =>
                match Nat.ble 134 t with
                | true =>
                  l134
                | false =>
                  l133
              | false =>
                match Nat.ble 132 t with
                | true =>
                  l132
                | false =>
                  l131
            | false =>
              match Nat.ble 129 t with
              | true =>
                match Nat.ble 130 t with
                | true =>
                  l130
                | false =>
                  l129
              | false =>
                l128
        | false =>
          match Nat.ble 121 t with
          | true =>
            match Nat.ble 124 t with
            | true =>
              match Nat.ble 126 t with
              | true =>
                match Nat.ble 127 t with
                | true =>
                  l127
                | false =>
                  l126
              | false =>
                match Nat.ble 125 t with
                | true =>
                  l125
                | false =>
                  l124
            | false =>
              match Nat.ble 122 t with
              | true =>
                match Nat.ble 123 t with
                | true =>
                  l123
                | false =>
                  l122
              | false =>
                l121
          | false =>
            match Nat.ble 117 t with
            | true =>
              match Nat.ble 119 t with
              | true =>
                match Nat.ble 120 t with
                | true =>
                  l120
                | false =>
                  l119
              | false =>
                match Nat.ble 118 t with
                | true =>
                  l118
                | false =>
                  l117
            | false =>
              match Nat.ble 115 t with
              | true =>
                match Nat.ble 116 t with
                | true =>
                  l116
                | false =>
                  l115
              | false =>
                l114
  | false =>
    match Nat.ble 57 t with
    | true =>
      match Nat.ble 85 t with
      | true =>
        match Nat.ble 99 t with
        | true =>
          match Nat.ble 106 t with
          | true =>
            match Nat.ble 110 t with
            | true =>
              match Nat.ble 112 t with
              | true =>
                match Nat.ble 113 t with
                | true =>
                  l113
                | false =>
                  l112
              | false =>
                match Nat.ble 111 t with
                | true =>
                  l111
                | false =>
                  l110
            | false =>
              match Nat.ble 108 t with
              | true =>
                match Nat.ble 109 t with
                | true =>
                  l109
                | false =>
                  l108
              | false =>
                match Nat.ble 107 t with
                | true =>
                  l107
                | false =>
                  l106
          | false =>
            match Nat.ble 102 t with
            | true =>
              match Nat.ble 104 t with
              | true =>
                match Nat.ble 105 t with
                | true =>
                  l105
                | false =>
                  l104
              | false =>
                match Nat.ble 103 t with
                | true =>
                  l103
                | false =>
                  l102
            | false =>
              match Nat.ble 100 t with
              | true =>
                match Nat.ble 101 t with
                | true =>
                  l101
                | false =>
                  l100
              | false =>
                l99
        | false =>
          match Nat.ble 92 t with
          | true =>
            match Nat.ble 95 t with
            | true =>
              match Nat.ble 97 t with
              | true =>
                match Nat.ble 98 t with
                | true =>
                  l98
                | false =>
                  l97
              | false =>
                match Nat.ble 96 t with
                | true =>
                  l96
                | false =>
                  l95
            | false =>
              match Nat.ble 93 t with
              | true =>
                match Nat.ble 94 t with
                | true =>
                  l94
                | false =>
                  l93
              | false =>
                l92
          | false =>
            match Nat.ble 88 t with
            | true =>
              match Nat.ble 90 t with
              | true =>
                match Nat.ble 91 t with
                | true =>
                  l91
                | false =>
                  l90
              | false =>
                match Nat.ble 89 t with
                | true =>
                  l89
                | false =>
                  l88
            | false =>
              match Nat.ble 86 t with
              | true =>
                match Nat.ble 87 t with
                | true =>
                  l87
                | false =>
                  l86
              | false =>
                l85
      | false =>
        match Nat.ble 71 t with
        | true =>
          match Nat.ble 78 t with
          | true =>
            match Nat.ble 81 t with
            | true =>
              match Nat.ble 83 t with
              | true =>
                match Nat.ble 84 t with
                | true =>
                  l84
                | false =>
                  l83
              | false =>
                match Nat.ble 82 t with
                | true =>
                  l82
                | false =>
                  l81
            | false =>
              match Nat.ble 79 t with
              | true =>
                match Nat.ble 80 t with
                | true =>
                  l80
                | false =>
                  l79
              | false =>
                l78
          | false =>
            match Nat.ble 74 t with
            | true =>
              match Nat.ble 76 t with
              | true =>
                match Nat.ble 77 t with
                | true =>
                  l77
                | false =>
                  l76
              | false =>
                match Nat.ble 75 t with
                | true =>
                  l75
                | false =>
                  l74
            | false =>
              match Nat.ble 72 t with
              | true =>
                match Nat.ble 73 t with
                | true =>
                  l73
                | false =>
                  l72
              | false =>
                l71
        | false =>
          match Nat.ble 64 t with
          | true =>
            match Nat.ble 67 t with
            | true =>
              match Nat.ble 69 t with
              | true =>
                match Nat.ble 70 t with
                | true =>
                  l70
                | false =>
                  l69
              | false =>
                match Nat.ble 68 t with
                | true =>
                  l68
                | false =>
                  l67
            | false =>
              match Nat.ble 65 t with
              | true =>
                match Nat.ble 66 t with
                | true =>
                  l66
                | false =>
                  l65
              | false =>
                l64
          | false =>
            match Nat.ble 60 t with
            | true =>
              match Nat.ble 62 t with
              | true =>
                match Nat.ble 63 t with
                | true =>
                  l63
                | false =>
                  l62
              | false =>
                match Nat.ble 61 t with
                | true =>
                  l61
                | false =>
                  l60
            | false =>
              match Nat.ble 58 t with
              | true =>
                match Nat.ble 59 t with
                | true =>
                  l59
                | false =>
                  l58
              | false =>
                l57
    | false =>
      match Nat.ble 28 t with
      | true =>
        match Nat.ble 42 t with
        | true =>
          match Nat.ble 49 t with
          | true =>
            match Nat.ble 53 t with
            | true =>
              match Nat.ble 55 t with
              | true =>
                match Nat.ble 56 t with
                | true =>
                  l56
                | false =>
                  l55
              | false =>
                match Nat.ble 54 t with
                | true =>
                  l54
                | false =>
                  l53
            | false =>
              match Nat.ble 51 t with
              | true =>
                match Nat.ble 52 t with
                | true =>
                  l52
                | false =>
                  l51
              | false =>
                match Nat.ble 50 t with
                | true =>
                  l50
                | false =>
                  l49
          | false =>
            match Nat.ble 45 t with
            | true =>
              match Nat.ble 47 t with
              | true =>
                match Nat.ble 48 t with
                | true =>
                  l48
                | false =>
                  l47
              | false =>
                match Nat.ble 46 t with
                | true =>
                  l46
                | false =>
                  l45
            | false =>
              match Nat.ble 43 t with
              | true =>
                match Nat.ble 44 t with
                | true =>
                  l44
                | false =>
                  l43
              | false =>
                l42
        | false =>
          match Nat.ble 35 t with
          | true =>
            match Nat.ble 38 t with
            | true =>
              match Nat.ble 40 t with
              | true =>
                match Nat.ble 41 t with
                | true =>
                  l41
                | false =>
                  l40
              | false =>
                match Nat.ble 39 t with
                | true =>
                  l39
                | false =>
                  l38
            | false =>
              match Nat.ble 36 t with
              | true =>
                match Nat.ble 37 t with
                | true =>
                  l37
                | false =>
                  l36
              | false =>
                l35
          | false =>
            match Nat.ble 31 t with
            | true =>
              match Nat.ble 33 t with
              | true =>
                match Nat.ble 34 t with
                | true =>
                  l34
                | false =>
                  l33
              | false =>
                match Nat.ble 32 t with
                | true =>
                  l32
                | false =>
                  l31
            | false =>
              match Nat.ble 29 t with
              | true =>
                match Nat.ble 30 t with
                | true =>
                  l30
                | false =>
                  l29
              | false =>
                l28
      | false =>
        match Nat.ble 14 t with
        | true =>
          match Nat.ble 21 t with
          | true =>
            match Nat.ble 24 t with
            | true =>
              match Nat.ble 26 t with
              | true =>
                match Nat.ble 27 t with
                | true =>
                  l27
                | false =>
                  l26
              | false =>
                match Nat.ble 25 t with
                | true =>
                  l25
                | false =>
                  l24
            | false =>
              match Nat.ble 22 t with
              | true =>
                match Nat.ble 23 t with
                | true =>
                  l23
                | false =>
                  l22
              | false =>
                l21
          | false =>
            match Nat.ble 17 t with
            | true =>
              match Nat.ble 19 t with
              | true =>
                match Nat.ble 20 t with
                | true =>
                  l20
                | false =>
                  l19
              | false =>
                match Nat.ble 18 t with
                | true =>
                  l18
                | false =>
                  l17
            | false =>
              match Nat.ble 15 t with
              | true =>
                match Nat.ble 16 t with
                | true =>
                  l16
                | false =>
                  l15
              | false =>
                l14
        | false =>
          match Nat.ble 7 t with
          | true =>
            match Nat.ble 10 t with
            | true =>
              match Nat.ble 12 t with
              | true =>
                match Nat.ble 13 t with
                | true =>
                  l13
                | false =>
                  l12
              | false =>
                match Nat.ble 11 t with
                | true =>
                  l11
                | false =>
                  l10
            | false =>
              match Nat.ble 8 t with
              | true =>
                match Nat.ble 9 t with
                | true =>
                  l9
                | false =>
                  l8
              | false =>
                l7
          | false =>
            match Nat.ble 3 t with
            | true =>
              match Nat.ble 5 t with
              | true =>
                match Nat.ble 6 t with
                | true =>
                  l6
                | false =>
                  l5
              | false =>
                match Nat.ble 4 t with
                | true =>
                  l4
                | false =>
                  l3
            | false =>
              match Nat.ble 1 t with
              | true =>
                match Nat.ble 2 t with
                | true =>
                  l2
                | false =>
                  l1
              | false =>
                l0
end Ly
def lay (t : TypeId) : Option Lt :=
  match Nat.blt t 228 with
  | true => Ly.lay t
  | false => none
theorem lay_ok : LayOk Tryz.prog lay := layOk_fn 228 lay (fun t h => by unfold lay; rw [blt_no h]) (by kernel_rfl)
end Ab
end Go.Proofs.YtpplemjjeefpdaaGreatDoor
