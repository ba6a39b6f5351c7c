/- The layout of the types, as the plain machine reads it. -/
import Derived.Test.YtampjnpnekekiaaDoorProg
import Derived.Test.YtampjnpnekekiaaDoorK102
namespace Go.Proofs.YtampjnpnekekiaaDoor
open Go
namespace Ab
set_option maxRecDepth 100000
namespace Ly
def l0 : Option Lt := none
def l1 : Option Lt := some { size := 1, bytes := 8, zero := [.nilFunc] }
def l2 : Option Lt := some { ik := some .i64, size := 1, bytes := 8, zero := [.int .i64 0] }
def l3 : Option Lt := some { ik := some .i64, size := 1, bytes := 8, zero := [.int .i64 0] }
def l4 : Option Lt := some { kind := 5, size := 1, bytes := 1, zero := [.bool false] }
def l5 : Option Lt := some { ik := some .u8, size := 1, bytes := 1, zero := [.int .u8 0] }
def l6 : Option Lt := some { ik := some .u8, size := 1, bytes := 1, zero := [.int .u8 0] }
def l7 : Option Lt := some { kind := 1, parts := [(0, 1, false), (1, 1, false), (2, 1, false), (3, 1, false)], size := 4, bytes := 24, zero := [.int .i64 0, .int .i64 0, .bool false, .int .u8 0] }
def l8 : Option Lt := some { kind := 1, parts := [(0, 1, false), (1, 1, false), (2, 1, false), (3, 1, false)], size := 4, bytes := 24, zero := [.int .i64 0, .int .i64 0, .bool false, .int .u8 0] }
def l9 : Option Lt := some { kind := 4, size := 1, bytes := 16, zero := [.string ByteArray.empty] }
def l10 : Option Lt := some { kind := 4, size := 1, bytes := 16, zero := [.string ByteArray.empty] }
def l11 : Option Lt := some { kind := 4, size := 1, bytes := 16, zero := [.string ByteArray.empty] }
def l12 : Option Lt := some { ik := some .u64, size := 1, bytes := 8, zero := [.int .u64 0] }
def l13 : Option Lt := some { kind := 1, parts := [(0, 1, false), (1, 1, false)], size := 2, bytes := 24, zero := [.string ByteArray.empty, .int .u64 0] }
def l14 : Option Lt := some { kind := 1, parts := [(0, 1, false), (1, 1, false)], size := 2, bytes := 24, zero := [.string ByteArray.empty, .int .u64 0] }
def l15 : Option Lt := some { size := 1, bytes := 8, zero := [.pointer none] }
def l16 : Option Lt := some { size := 1, bytes := 8, zero := [.pointer none] }
def l17 : Option Lt := some { size := 1, bytes := 8, zero := [.pointer none] }
def l18 : Option Lt := some { kind := 1, parts := [(0, 1, false)], size := 1, bytes := 8, zero := [.pointer none] }
def l19 : Option Lt := some { kind := 1, parts := [(0, 1, false)], size := 1, bytes := 8, zero := [.pointer none] }
def l20 : Option Lt := some { size := 1, bytes := 16, zero := [.nilIface] }
def l21 : Option Lt := some { ik := some .i32, size := 1, bytes := 4, zero := [.int .i32 0] }
def l22 : Option Lt := some { kind := 1, parts := [(0, 1, false), (1, 1, false), (2, 1, false)], ck := some [.s, .i .i64, .s], size := 3, bytes := 40, zero := [.string ByteArray.empty, .int .i64 0, .string ByteArray.empty] }
def l23 : Option Lt := some { kind := 1, parts := [(0, 1, false), (1, 1, false), (2, 1, false)], ck := some [.s, .i .i64, .s], size := 3, bytes := 40, zero := [.string ByteArray.empty, .int .i64 0, .string ByteArray.empty] }
def l24 : Option Lt := some { ik := some .i64, size := 1, bytes := 8, zero := [.int .i64 0] }
def l25 : Option Lt := some { size := 1, bytes := 8, zero := [.nilFunc] }
def l26 : Option Lt := some { size := 1, bytes := 8, zero := [.nilFunc] }
def l27 : Option Lt := some { size := 1, bytes := 8, zero := [.nilFunc] }
def l28 : Option Lt := some { kind := 1, parts := [(0, 1, false), (1, 1, false)], ck := some [.i .i64, .i .i64], size := 2, bytes := 16, zero := [.int .i64 0, .int .i64 0] }
def l29 : Option Lt := some { kind := 1, parts := [(0, 1, false), (1, 1, false)], ck := some [.i .i64, .i .i64], size := 2, bytes := 16, zero := [.int .i64 0, .int .i64 0] }
def l30 : Option Lt := none
def l31 : Option Lt := some { size := 1, bytes := 8, zero := [.nilFunc] }
def l32 : Option Lt := some { kind := 1, parts := [(0, 1, false), (1, 1, false)], ck := some [.s, .s], size := 2, bytes := 32, zero := [.string ByteArray.empty, .string ByteArray.empty] }
def l33 : Option Lt := some { kind := 1, parts := [(0, 1, false), (1, 1, false)], ck := some [.s, .s], size := 2, bytes := 32, zero := [.string ByteArray.empty, .string ByteArray.empty] }
def l34 : Option Lt := some { kind := 3, elem := 33, size := 1, bytes := 24, zero := [.slice none 0 0] }
def l35 : Option Lt := some { size := 1, bytes := 8, zero := [.nilFunc] }
def l36 : Option Lt := some { size := 1, bytes := 8, zero := [.nilFunc] }
def l37 : Option Lt := some { size := 1, bytes := 8, zero := [.nilFunc] }
def l38 : Option Lt := none
def l39 : Option Lt := some { size := 1, bytes := 8, zero := [.nilFunc] }
def l40 : Option Lt := some { size := 1, bytes := 8, zero := [.nilFunc] }
def l41 : Option Lt := some { size := 1, bytes := 8, zero := [.nilFunc] }
def l42 : Option Lt := none
def l43 : Option Lt := some { size := 1, bytes := 8, zero := [.nilFunc] }
def l44 : Option Lt := some { size := 1, bytes := 8, zero := [.nilFunc] }
def l45 : Option Lt := none
def l46 : Option Lt := some { size := 1, bytes := 8, zero := [.nilFunc] }
def l47 : Option Lt := none
def l48 : Option Lt := some { size := 1, bytes := 8, zero := [.nilFunc] }
def l49 : Option Lt := some { size := 1, bytes := 16, zero := [.nilIface] }
def l50 : Option Lt := some { size := 1, bytes := 16, zero := [.nilIface] }
def l51 : Option Lt := none
def l52 : Option Lt := some { size := 1, bytes := 8, zero := [.nilFunc] }
def l53 : Option Lt := some { kind := 4, size := 1, bytes := 16, zero := [.string ByteArray.empty] }
def l54 : Option Lt := some { ik := some .u64, size := 1, bytes := 8, zero := [.int .u64 0] }
def l55 : Option Lt := some { kind := 2, len := 4, elem := 54, ck := some [.i .u64, .i .u64, .i .u64, .i .u64], size := 4, bytes := 32, zero := [.int .u64 0, .int .u64 0, .int .u64 0, .int .u64 0] }
def l56 : Option Lt := some { kind := 2, len := 4, elem := 54, ck := some [.i .u64, .i .u64, .i .u64, .i .u64], size := 4, bytes := 32, zero := [.int .u64 0, .int .u64 0, .int .u64 0, .int .u64 0] }
def l57 : Option Lt := some { kind := 3, elem := 59, size := 1, bytes := 24, zero := [.slice none 0 0] }
def l58 : Option Lt := some { kind := 1, parts := [(0, 1, false), (1, 4, true), (5, 1, false), (6, 1, false), (7, 1, false)], size := 8, bytes := 80, zero := [.int .i64 0, .int .u64 0, .int .u64 0, .int .u64 0, .int .u64 0, .slice none 0 0, .int .i64 0, .int .i64 0] }
def l59 : Option Lt := some { kind := 1, parts := [(0, 1, false), (1, 4, true), (5, 1, false), (6, 1, false), (7, 1, false)], size := 8, bytes := 80, zero := [.int .i64 0, .int .u64 0, .int .u64 0, .int .u64 0, .int .u64 0, .slice none 0 0, .int .i64 0, .int .i64 0] }
def l60 : Option Lt := none
def l61 : Option Lt := some { size := 1, bytes := 8, zero := [.nilFunc] }
def l62 : Option Lt := some { kind := 1, parts := [(0, 8, true)], size := 8, bytes := 80, zero := [.int .i64 0, .int .u64 0, .int .u64 0, .int .u64 0, .int .u64 0, .slice none 0 0, .int .i64 0, .int .i64 0] }
def l63 : Option Lt := some { kind := 1, parts := [(0, 8, true)], size := 8, bytes := 80, zero := [.int .i64 0, .int .u64 0, .int .u64 0, .int .u64 0, .int .u64 0, .slice none 0 0, .int .i64 0, .int .i64 0] }
def l64 : Option Lt := some { size := 1, bytes := 8, zero := [.pointer none] }
def l65 : Option Lt := some { kind := 3, elem := 5, size := 1, bytes := 24, zero := [.slice none 0 0] }
def l66 : Option Lt := some { kind := 1, parts := [(0, 1, false), (1, 1, false)], size := 2, bytes := 32, zero := [.pointer none, .slice none 0 0] }
def l67 : Option Lt := some { kind := 1, parts := [(0, 1, false), (1, 1, false)], size := 2, bytes := 32, zero := [.pointer none, .slice none 0 0] }
def l68 : Option Lt := some { size := 1, bytes := 16, zero := [.nilIface] }
def l69 : Option Lt := some { size := 1, bytes := 16, zero := [.nilIface] }
def l70 : Option Lt := some { size := 1, bytes := 8, zero := [.nilFunc] }
def l71 : Option Lt := some { size := 1, bytes := 8, zero := [.nilFunc] }
def l72 : Option Lt := none
def l73 : Option Lt := some { size := 1, bytes := 8, zero := [.nilFunc] }
def l74 : Option Lt := some { size := 1, bytes := 8, zero := [.nilFunc] }
def l75 : Option Lt := some { size := 1, bytes := 8, zero := [.nilFunc] }
def l76 : Option Lt := some { ik := some .u64, size := 1, bytes := 8, zero := [.int .u64 0] }
def l77 : Option Lt := some { size := 1, bytes := 8, zero := [.nilFunc] }
def l78 : Option Lt := some { size := 1, bytes := 8, zero := [.nilFunc] }
def l79 : Option Lt := some { kind := 2, len := 4, elem := 3, ck := some [.i .i64, .i .i64, .i .i64, .i .i64], size := 4, bytes := 32, zero := [.int .i64 0, .int .i64 0, .int .i64 0, .int .i64 0] }
def l80 : Option Lt := some { size := 1, bytes := 8, zero := [.nilFunc] }
def l81 : Option Lt := none
def l82 : Option Lt := some { size := 1, bytes := 8, zero := [.nilFunc] }
def l83 : Option Lt := none
def l84 : Option Lt := some { size := 1, bytes := 8, zero := [.nilFunc] }
def l85 : Option Lt := some { size := 1, bytes := 8, zero := [.nilFunc] }
def l86 : Option Lt := some { size := 1, bytes := 8, zero := [.nilFunc] }
def l87 : Option Lt := some { kind := 1, parts := [(0, 2, true)], size := 2, bytes := 16, zero := [.int .i64 0, .int .i64 0] }
def l88 : Option Lt := some { kind := 1, parts := [(0, 2, true)], size := 2, bytes := 16, zero := [.int .i64 0, .int .i64 0] }
def l89 : Option Lt := some { size := 1, bytes := 8, zero := [.pointer none] }
def l90 : Option Lt := some { kind := 1, parts := [(0, 1, false), (1, 1, false), (2, 1, false)], ck := some [.s, .i .i64, .i .i64], size := 3, bytes := 32, zero := [.string ByteArray.empty, .int .i64 0, .int .i64 0] }
def l91 : Option Lt := some { kind := 1, parts := [(0, 1, false), (1, 1, false), (2, 1, false)], ck := some [.s, .i .i64, .i .i64], size := 3, bytes := 32, zero := [.string ByteArray.empty, .int .i64 0, .int .i64 0] }
def l92 : Option Lt := some { size := 1, bytes := 8, zero := [.nilFunc] }
def l93 : Option Lt := some { size := 1, bytes := 8, zero := [.nilFunc] }
def l94 : Option Lt := some { size := 1, bytes := 8, zero := [.pointer none] }
def l95 : Option Lt := some { size := 1, bytes := 8, zero := [.nilFunc] }
def l96 : Option Lt := some { size := 1, bytes := 8, zero := [.nilFunc] }
def l97 : Option Lt := some { size := 1, bytes := 8, zero := [.nilFunc] }
def l98 : Option Lt := some { size := 1, bytes := 8, zero := [.nilFunc] }
def l99 : Option Lt := none
def l100 : Option Lt := some { size := 1, bytes := 8, zero := [.nilFunc] }
def l101 : Option Lt := some { ik := some .u32, size := 1, bytes := 4, zero := [.int .u32 0] }
def l102 : Option Lt := some { kind := 2, len := 256, elem := 5, size := 256, bytes := 256, zero := [.int .u8 0, .int .u8 0, .int .u8 0, .int .u8 0, .int .u8 0, .int .u8 0, .int .u8 0, .int .u8 0, .int .u8 0, .int .u8 0, .int .u8 0, .int .u8 0, .int .u8 0, .int .u8 0, .int .u8 0, .int .u8 0, .int .u8 0, .int .u8 0, .int .u8 0, .int .u8 0, .int .u8 0, .int .u8 0, .int .u8 0, .int .u8 0, .int .u8 0, .int .u8 0, .int .u8 0, .int .u8 0, .int .u8 0, .int .u8 0, .int .u8 0, .int .u8 0, .int .u8 0, .int .u8 0, .int .u8 0, .int .u8 0, .int .u8 0, .int .u8 0, .int .u8 0, .int .u8 0, .int .u8 0, .int .u8 0, .int .u8 0, .int .u8 0, .int .u8 0, .int .u8 0, .int .u8 0, .int .u8 0, .int .u8 0, .int .u8 0, .int .u8 0, .int .u8 0, .int .u8 0, .int .u8 0, .int .u8 0, .int .u8 0, .int .u8 0, .int .u8 0, .int .u8 0, .int .u8 0, .int .u8 0, .int .u8 0, .int .u8 0, .int .u8 0, .int .u8 0, .int .u8 0, .int .u8 0, .int .u8 0, .int .u8 0, .int .u8 0, .int .u8 0, .int .u8 0, .int .u8 0, .int .u8 0, .int .u8 0, .int .u8 0, .int .u8 0, .int .u8 0, .int .u8 0, .int .u8 0, .int .u8 0, .int .u8 0, .int .u8 0, .int .u8 0, .int .u8 0, .int .u8 0, .int .u8 0, .int .u8 0, .int .u8 0, .int .u8 0, .int .u8 0, .int .u8 0, .int .u8 0, .int .u8 0, .int .u8 0, .int .u8 0, .int .u8 0, .int .u8 0, .int .u8 0, .int .u8 0, .int .u8 0, .int .u8 0, .int .u8 0, .int .u8 0, .int .u8 0, .int .u8 0, .int .u8 0, .int .u8 0, .int .u8 0, .int .u8 0, .int .u8 0, .int .u8 0, .int .u8 0, .int .u8 0, .int .u8 0, .int .u8 0, .int .u8 0, .int .u8 0, .int .u8 0, .int .u8 0, .int .u8 0, .int .u8 0, .int .u8 0, .int .u8 0, .int .u8 0, .int .u8 0, .int .u8 0, .int .u8 0, .int .u8 0, .int .u8 0, .int .u8 0, .int .u8 0, .int .u8 0, .int .u8 0, .int .u8 0, .int .u8 0, .int .u8 0, .int .u8 0, .int .u8 0, .int .u8 0, .int .u8 0, .int .u8 0, .int .u8 0, .int .u8 0, .int .u8 0, .int .u8 0, .int .u8 0, .int .u8 0, .int .u8 0, .int .u8 0, .int .u8 0, .int .u8 0, .int .u8 0, .int .u8 0, .int .u8 0, .int .u8 0, .int .u8 0, .int .u8 0, .int .u8 0, .int .u8 0, .int .u8 0, .int .u8 0, .int .u8 0, .int .u8 0, .int .u8 0, .int .u8 0, .int .u8 0, .int .u8 0, .int .u8 0, .int .u8 0, .int .u8 0, .int .u8 0, .int .u8 0, .int .u8 0, .int .u8 0, .int .u8 0, .int .u8 0, .int .u8 0, .int .u8 0, .int .u8 0, .int .u8 0, .int .u8 0, .int .u8 0, .int .u8 0, .int .u8 0, .int .u8 0, .int .u8 0, .int .u8 0, .int .u8 0, .int .u8 0, .int .u8 0, .int .u8 0, .int .u8 0, .int .u8 0, .int .u8 0, .int .u8 0, .int .u8 0, .int .u8 0, .int .u8 0, .int .u8 0, .int .u8 0, .int .u8 0, .int .u8 0, .int .u8 0, .int .u8 0, .int .u8 0, .int .u8 0, .int .u8 0, .int .u8 0, .int .u8 0, .int .u8 0, .int .u8 0, .int .u8 0, .int .u8 0, .int .u8 0, .int .u8 0, .int .u8 0, .int .u8 0, .int .u8 0, .int .u8 0, .int .u8 0, .int .u8 0, .int .u8 0, .int .u8 0, .int .u8 0, .int .u8 0, .int .u8 0, .int .u8 0, .int .u8 0, .int .u8 0, .int .u8 0, .int .u8 0, .int .u8 0, .int .u8 0, .int .u8 0, .int .u8 0, .int .u8 0, .int .u8 0, .int .u8 0, .int .u8 0, .int .u8 0, .int .u8 0, .int .u8 0, .int .u8 0, .int .u8 0, .int .u8 0, .int .u8 0, .int .u8 0, .int .u8 0, .int .u8 0, .int .u8 0, .int .u8 0, .int .u8 0, .int .u8 0, .int .u8 0, .int .u8 0] }
def l103 : Option Lt := some { kind := 1, parts := [(0, 1, false), (1, 1, false)], size := 2, bytes := 2, zero := [.int .u8 0, .int .u8 0] }
def l104 : Option Lt := some { kind := 1, parts := [(0, 1, false), (1, 1, false)], size := 2, bytes := 2, zero := [.int .u8 0, .int .u8 0] }
def l105 : Option Lt := some { kind := 2, len := 16, elem := 104, size := 32, bytes := 32, zero := [.int .u8 0, .int .u8 0, .int .u8 0, .int .u8 0, .int .u8 0, .int .u8 0, .int .u8 0, .int .u8 0, .int .u8 0, .int .u8 0, .int .u8 0, .int .u8 0, .int .u8 0, .int .u8 0, .int .u8 0, .int .u8 0, .int .u8 0, .int .u8 0, .int .u8 0, .int .u8 0, .int .u8 0, .int .u8 0, .int .u8 0, .int .u8 0, .int .u8 0, .int .u8 0, .int .u8 0, .int .u8 0, .int .u8 0, .int .u8 0, .int .u8 0, .int .u8 0] }
def l106 : Option Lt := none
def l107 : Option Lt := some { size := 1, bytes := 8, zero := [.nilFunc] }
def l108 : Option Lt := some { size := 1, bytes := 8, zero := [.nilFunc] }
def l109 : Option Lt := some { size := 1, bytes := 8, zero := [.nilFunc] }
def l110 : Option Lt := some { size := 1, bytes := 8, zero := [.nilFunc] }
def l111 : Option Lt := none
def l112 : Option Lt := some { size := 1, bytes := 8, zero := [.nilFunc] }
def l113 : Option Lt := some { size := 1, bytes := 8, zero := [.nilFunc] }
def l114 : Option Lt := some { size := 1, bytes := 8, zero := [.nilFunc] }
def l115 : Option Lt := some { size := 1, bytes := 8, zero := [.nilFunc] }
def l116 : Option Lt := some { size := 1, bytes := 8, zero := [.nilFunc] }
def l117 : Option Lt := some { size := 1, bytes := 8, zero := [.nilFunc] }
def l118 : Option Lt := some { kind := 2, len := 64, elem := 5, size := 64, bytes := 64, zero := [.int .u8 0, .int .u8 0, .int .u8 0, .int .u8 0, .int .u8 0, .int .u8 0, .int .u8 0, .int .u8 0, .int .u8 0, .int .u8 0, .int .u8 0, .int .u8 0, .int .u8 0, .int .u8 0, .int .u8 0, .int .u8 0, .int .u8 0, .int .u8 0, .int .u8 0, .int .u8 0, .int .u8 0, .int .u8 0, .int .u8 0, .int .u8 0, .int .u8 0, .int .u8 0, .int .u8 0, .int .u8 0, .int .u8 0, .int .u8 0, .int .u8 0, .int .u8 0, .int .u8 0, .int .u8 0, .int .u8 0, .int .u8 0, .int .u8 0, .int .u8 0, .int .u8 0, .int .u8 0, .int .u8 0, .int .u8 0, .int .u8 0, .int .u8 0, .int .u8 0, .int .u8 0, .int .u8 0, .int .u8 0, .int .u8 0, .int .u8 0, .int .u8 0, .int .u8 0, .int .u8 0, .int .u8 0, .int .u8 0, .int .u8 0, .int .u8 0, .int .u8 0, .int .u8 0, .int .u8 0, .int .u8 0, .int .u8 0, .int .u8 0, .int .u8 0] }
def l119 : Option Lt := some { kind := 1, parts := [(0, 1, false), (1, 1, false), (2, 1, false), (3, 1, false)], size := 4, bytes := 40, zero := [.pointer none, .pointer none, .pointer none, .string ByteArray.empty] }
def l120 : Option Lt := some { kind := 1, parts := [(0, 1, false), (1, 1, false), (2, 1, false), (3, 1, false)], size := 4, bytes := 40, zero := [.pointer none, .pointer none, .pointer none, .string ByteArray.empty] }
def l121 : Option Lt := some { kind := 2, len := 0, elem := 16, size := 0, bytes := 0, zero := [] }
def l122 : Option Lt := some { kind := 1, parts := [(0, 0, true)], size := 0, bytes := 0, zero := [] }
def l123 : Option Lt := some { kind := 1, parts := [(0, 0, true)], size := 0, bytes := 0, zero := [] }
def l124 : Option Lt := some { ik := some .u8, size := 1, bytes := 1, zero := [.int .u8 0] }
def l125 : Option Lt := some { ik := some .u8, size := 1, bytes := 1, zero := [.int .u8 0] }
def l126 : Option Lt := some { size := 1, bytes := 8, zero := [.nilFunc] }
def l127 : Option Lt := some { ik := some .i32, size := 1, bytes := 4, zero := [.int .i32 0] }
def l128 : Option Lt := some { ik := some .i32, size := 1, bytes := 4, zero := [.int .i32 0] }
def l129 : Option Lt := some { kind := 1, parts := [(0, 1, false), (1, 1, false), (2, 1, false), (3, 1, false), (4, 1, false), (5, 1, false), (6, 1, false), (7, 1, false), (8, 1, false), (9, 1, false), (10, 1, false)], size := 11, bytes := 48, zero := [.int .u64 0, .int .u64 0, .int .u32 0, .int .u8 0, .int .u8 0, .int .u8 0, .int .u8 0, .nilFunc, .pointer none, .int .i32 0, .int .i32 0] }
def l130 : Option Lt := some { kind := 1, parts := [(0, 1, false), (1, 1, false), (2, 1, false), (3, 1, false), (4, 1, false), (5, 1, false), (6, 1, false), (7, 1, false), (8, 1, false), (9, 1, false), (10, 1, false)], size := 11, bytes := 48, zero := [.int .u64 0, .int .u64 0, .int .u32 0, .int .u8 0, .int .u8 0, .int .u8 0, .int .u8 0, .nilFunc, .pointer none, .int .i32 0, .int .i32 0] }
def l131 : Option Lt := some { size := 1, bytes := 8, zero := [.nilFunc] }
def l132 : Option Lt := some { size := 1, bytes := 8, zero := [.nilFunc] }
def l133 : Option Lt := some { kind := 3, elem := 3, size := 1, bytes := 24, zero := [.slice none 0 0] }
def l134 : Option Lt := some { size := 1, bytes := 8, zero := [.nilFunc] }
def l135 : Option Lt := some { size := 1, bytes := 8, zero := [.nilFunc] }
def l136 : Option Lt := some { size := 1, bytes := 8, zero := [.nilFunc] }
def l137 : Option Lt := some { kind := 3, elem := 4, size := 1, bytes := 24, zero := [.slice none 0 0] }
def l138 : Option Lt := some { kind := 3, elem := 4, size := 1, bytes := 24, zero := [.slice none 0 0] }
def l139 : Option Lt := some { size := 1, bytes := 8, zero := [.nilFunc] }
def l140 : Option Lt := some { size := 1, bytes := 8, zero := [.nilFunc] }
def l141 : Option Lt := some { size := 1, bytes := 8, zero := [.nilFunc] }
def l142 : Option Lt := some { size := 1, bytes := 8, zero := [.nilFunc] }
def l143 : Option Lt := some { size := 1, bytes := 8, zero := [.nilFunc] }
def l144 : Option Lt := some { size := 1, bytes := 8, zero := [.nilFunc] }
def lay (t : TypeId) : Option Lt :=
  match Nat.ble 72 t with
  | true =>
    match Nat.ble 108 t with
    | true =>
      match Nat.ble 126 t with
      | true =>
        match Nat.ble 135 t with
        | true =>
          match Nat.ble 140 t with
          | true =>
            match Nat.ble 142 t with
            | true =>
              match Nat.ble 143 t with
              | true =>
                match Nat.ble 144 t with
                | true =>
                  l144
                | false =>
                  l143
              | false =>
                l142
            | false =>
              match Nat.ble 141 t with
              | true =>
                l141
              | false =>
                l140
          | false =>
            match Nat.ble 137 t with
            | true =>
              match Nat.ble 138 t with
              | true =>
                match Nat.ble 139 t with
                | true =>
                  l139
                | false =>
                  l138
              | false =>
                l137
            | false =>
              match Nat.ble 136 t with
              | true =>
                l136
              | false =>
                l135
        | false =>
          match Nat.ble 130 t with
          | true =>
            match Nat.ble 132 t with
            | true =>
              match Nat.ble 133 t with
              | true =>
                match Nat.ble 134 t with
                | true =>
                  l134
                | false =>
                  l133
              | false =>
                l132
            | false =>
              match Nat.ble 131 t with
              | true =>
                l131
              | false =>
                l130
          | false =>
            match Nat.ble 128 t with
            | true =>
              match Nat.ble 129 t with
              | true =>
                l129
              | false =>
                l128
            | false =>
              match Nat.ble 127 t with
              | true =>
                l127
              | false =>
                l126
      | false =>
        match Nat.ble 117 t with
        | true =>
          match Nat.ble 121 t with
          | true =>
            match Nat.ble 123 t with
            | true =>
              match Nat.ble 124 t with
              | true =>
                match Nat.ble 125 t with
                | true =>
                  l125
                | false =>
                  l124
              | false =>
                l123
            | false =>
              match Nat.ble 122 t with
              | true =>
                l122
              | false =>
                l121
          | false =>
            match Nat.ble 119 t with
            | true =>
              match Nat.ble 120 t with
              | true =>
                l120
              | false =>
                l119
            | false =>
              match Nat.ble 118 t with
              | true =>
                l118
              | false =>
                l117
        | false =>
          match Nat.ble 112 t with
          | true =>
            match Nat.ble 114 t with
            | true =>
              match Nat.ble 115 t with
              | true =>
                match Nat.ble 116 t with
                | true =>
                  l116
                | false =>
                  l115
              | false =>
                l114
            | false =>
              match Nat.ble 113 t with
              | true =>
                l113
              | false =>
                l112
          | false =>
            match Nat.ble 110 t with
            | true =>
              match Nat.ble 111 t with
              | true =>
                l111
              | false =>
                l110
            | false =>
              match Nat.ble 109 t with
              | true =>
                l109
              | false =>
                l108
    | false =>
      match Nat.ble 90 t with
      | true =>
        match Nat.ble 99 t with
        | true =>
          match Nat.ble 103 t with
          | true =>
            match Nat.ble 105 t with
            | true =>
              match Nat.ble 106 t with
              | true =>
                match Nat.ble 107 t with
                | true =>
                  l107
                | false =>
                  l106
              | false =>
                l105
            | false =>
              match Nat.ble 104 t with
              | true =>
                l104
              | false =>
                l103
          | false =>
            match Nat.ble 101 t with
            | true =>
              match Nat.ble 102 t with
              | true =>
                l102
              | false =>
                l101
            | false =>
              match Nat.ble 100 t with
              | true =>
                l100
              | false =>
                l99
        | false =>
          match Nat.ble 94 t with
          | true =>
            match Nat.ble 96 t with
            | true =>
              match Nat.ble 97 t with
              | true =>
                match Nat.ble 98 t with
                | true =>
                  l98
                | false =>
                  l97
              | false =>
                l96
            | false =>
              match Nat.ble 95 t with
              | true =>
                l95
              | false =>
                l94
          | false =>
            match Nat.ble 92 t with
            | true =>
              match Nat.ble 93 t with
              | true =>
                l93
              | false =>
                l92
            | false =>
              match Nat.ble 91 t with
              | true =>
                l91
              | false =>
                l90
      | false =>
        match Nat.ble 81 t with
        | true =>
          match Nat.ble 85 t with
          | true =>
            match Nat.ble 87 t with
            | true =>
              match Nat.ble 88 t with
              | true =>
                match Nat.ble 89 t with
                | true =>
                  l89
                | false =>
                  l88
              | false =>
                l87
            | false =>
              match Nat.ble 86 t with
              | true =>
                l86
              | false =>
                l85
          | false =>
            match Nat.ble 83 t with
            | true =>
              match Nat.ble 84 t with
              | true =>
                l84
              | false =>
                l83
            | false =>
              match Nat.ble 82 t with
              | true =>
                l82
              | false =>
                l81
        | false =>
          match Nat.ble 76 t with
          | true =>
            match Nat.ble 78 t with
            | true =>
              match Nat.ble 79 t with
              | true =>
                match Nat.ble 80 t with
                | true =>
                  l80
                | false =>
                  l79
              | false =>
                l78
            | false =>
              match Nat.ble 77 t with
              | true =>
                l77
              | false =>
                l76
          | false =>
            match Nat.ble 74 t with
            | true =>
              match Nat.ble 75 t with
              | true =>
                l75
              | false =>
                l74
            | false =>
              match Nat.ble 73 t with
              | true =>
                l73
              | false =>
                l72
  | false =>
    match Nat.ble 36 t with
    | true =>
      match Nat.ble 54 t with
      | true =>
        match Nat.ble 63 t with
        | true =>
          match Nat.ble 67 t with
          | true =>
            match Nat.ble 69 t with
            | true =>
              match Nat.ble 70 t with
              | true =>
                match Nat.ble 71 t with
                | true =>
                  l71
                | false =>
                  l70
              | false =>
                l69
            | false =>
              match Nat.ble 68 t with
              | true =>
                l68
              | false =>
                l67
          | false =>
            match Nat.ble 65 t with
            | true =>
              match Nat.ble 66 t with
              | true =>
                l66
              | false =>
                l65
            | false =>
              match Nat.ble 64 t with
              | true =>
                l64
              | false =>
                l63
        | false =>
          match Nat.ble 58 t with
          | true =>
            match Nat.ble 60 t with
            | true =>
              match Nat.ble 61 t with
              | true =>
                match Nat.ble 62 t with
                | true =>
                  l62
                | false =>
                  l61
              | false =>
                l60
            | false =>
              match Nat.ble 59 t with
              | true =>
                l59
              | false =>
                l58
          | false =>
            match Nat.ble 56 t with
            | true =>
              match Nat.ble 57 t with
              | true =>
                l57
              | false =>
                l56
            | false =>
              match Nat.ble 55 t with
              | true =>
                l55
              | false =>
                l54
      | false =>
        match Nat.ble 45 t with
        | true =>
          match Nat.ble 49 t with
          | true =>
            match Nat.ble 51 t with
            | true =>
              match Nat.ble 52 t with
              | true =>
                match Nat.ble 53 t with
                | true =>
                  l53
                | false =>
                  l52
              | false =>
                l51
            | false =>
              match Nat.ble 50 t with
              | true =>
                l50
              | false =>
                l49
          | false =>
            match Nat.ble 47 t with
            | true =>
              match Nat.ble 48 t with
              | true =>
                l48
              | false =>
                l47
            | false =>
              match Nat.ble 46 t with
              | true =>
                l46
              | false =>
                l45
        | false =>
          match Nat.ble 40 t with
          | true =>
            match Nat.ble 42 t with
            | true =>
              match Nat.ble 43 t with
              | true =>
                match Nat.ble 44 t with
                | true =>
                  l44
                | false =>
                  l43
              | false =>
                l42
            | false =>
              match Nat.ble 41 t with
              | true =>
                l41
              | false =>
                l40
          | false =>
            match Nat.ble 38 t with
            | true =>
              match Nat.ble 39 t with
              | true =>
                l39
              | false =>
                l38
            | false =>
              match Nat.ble 37 t with
              | true =>
                l37
              | false =>
                l36
    | false =>
      match Nat.ble 18 t with
      | true =>
        match Nat.ble 27 t with
        | true =>
          match Nat.ble 31 t with
          | true =>
            match Nat.ble 33 t with
            | true =>
              match Nat.ble 34 t with
              | true =>
                match Nat.ble 35 t with
                | true =>
                  l35
                | false =>
                  l34
              | false =>
                l33
            | false =>
              match Nat.ble 32 t with
              | true =>
                l32
              | false =>
                l31
          | false =>
            match Nat.ble 29 t with
            | true =>
              match Nat.ble 30 t with
              | true =>
                l30
              | false =>
                l29
            | false =>
              match Nat.ble 28 t with
              | true =>
                l28
              | false =>
                l27
        | false =>
          match Nat.ble 22 t with
          | true =>
            match Nat.ble 24 t with
            | true =>
              match Nat.ble 25 t with
              | true =>
                match Nat.ble 26 t with
                | true =>
                  l26
                | false =>
                  l25
              | false =>
                l24
            | false =>
              match Nat.ble 23 t with
              | true =>
                l23
              | false =>
                l22
          | false =>
            match Nat.ble 20 t with
            | true =>
              match Nat.ble 21 t with
              | true =>
                l21
              | false =>
                l20
            | false =>
              match Nat.ble 19 t with
              | true =>
                l19
              | false =>
                l18
      | false =>
        match Nat.ble 9 t with
        | true =>
          match Nat.ble 13 t with
          | true =>
            match Nat.ble 15 t with
            | true =>
              match Nat.ble 16 t with
              | true =>
                match Nat.ble 17 t with
                | true =>
                  l17
                | false =>
                  l16
              | false =>
                l15
            | false =>
              match Nat.ble 14 t with
              | true =>
                l14
              | false =>
                l13
          | false =>
            match Nat.ble 11 t with
            | true =>
              match Nat.ble 12 t with
              | true =>
                l12
              | false =>
                l11
            | false =>
              match Nat.ble 10 t with
              | true =>
                l10
              | false =>
                l9
        | false =>
          match Nat.ble 4 t with
          | true =>
            match Nat.ble 6 t with
            | true =>
              match Nat.ble 7 t with
              | true =>
                match Nat.ble 8 t with
                | true =>
                  l8
                | false =>
                  l7
              | false =>
                l6
            | false =>
              match Nat.ble 5 t with
              | true =>
                l5
              | false =>
                l4
          | false =>
            match Nat.ble 2 t with
            | true =>
              match Nat.ble 3 t with
              | true =>
                l3
              | false =>
                l2
            | false =>
              match Nat.ble 1 t with
              | true =>
                l1
              | false =>
                l0
end Ly
def lay (t : TypeId) : Option Lt :=
  match Nat.blt t 145 with
  | true => Ly.lay t
  | false => none
theorem lay_ok : LayOk Tryd.prog lay := layOk_fn 145 lay (fun t h => by unfold lay; rw [blt_no h]) (by kernel_rfl)
end Ab
end Go.Proofs.YtampjnpnekekiaaDoor
