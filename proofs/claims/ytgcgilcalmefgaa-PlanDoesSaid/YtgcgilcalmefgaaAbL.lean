/- The layout of the types, as the plain machine reads it. -/
import Derived.Test.YtgcgilcalmefgaaAbZ
import Derived.Test.YtgcgilcalmefgaaProg
namespace Go.Proofs.Ytgcgilcalmefgaa
open Go
namespace Ab
set_option maxRecDepth 100000
namespace Ly
def l0 : Option Lt := none
def l1 : Option Lt := some { size := 1, bytes := 8, zero := [.nilFunc] }
def l2 : Option Lt := some { ik := some .i64, size := 1, bytes := 8, zero := [.int .i64 0] }
def l3 : Option Lt := some { ik := some .i64, size := 1, bytes := 8, zero := [.int .i64 0] }
def l4 : Option Lt := some { kind := 5, size := 1, bytes := 1, zero := [.bool false] }
def l5 : Option Lt := some { ik := some .u8, size := 1, bytes := 1, zero := [.int .u8 0] }
def l6 : Option Lt := some { ik := some .u8, size := 1, bytes := 1, zero := [.int .u8 0] }
def l7 : Option Lt := some { kind := 1, parts := [(0, 1, false), (1, 1, false), (2, 1, false), (3, 1, false)], size := 4, bytes := 24, zero := [.int .i64 0, .int .i64 0, .bool false, .int .u8 0] }
def l8 : Option Lt := some { kind := 1, parts := [(0, 1, false), (1, 1, false), (2, 1, false), (3, 1, false)], size := 4, bytes := 24, zero := [.int .i64 0, .int .i64 0, .bool false, .int .u8 0] }
def l9 : Option Lt := some { kind := 4, size := 1, bytes := 16, zero := [.string ByteArray.empty] }
def l10 : Option Lt := some { kind := 4, size := 1, bytes := 16, zero := [.string ByteArray.empty] }
def l11 : Option Lt := some { kind := 4, size := 1, bytes := 16, zero := [.string ByteArray.empty] }
def l12 : Option Lt := some { ik := some .u64, size := 1, bytes := 8, zero := [.int .u64 0] }
def l13 : Option Lt := some { kind := 1, parts := [(0, 1, false), (1, 1, false)], size := 2, bytes := 24, zero := [.string ByteArray.empty, .int .u64 0] }
def l14 : Option Lt := some { kind := 1, parts := [(0, 1, false), (1, 1, false)], size := 2, bytes := 24, zero := [.string ByteArray.empty, .int .u64 0] }
def l15 : Option Lt := some { size := 1, bytes := 8, zero := [.pointer none] }
def l16 : Option Lt := some { size := 1, bytes := 8, zero := [.pointer none] }
def l17 : Option Lt := some { size := 1, bytes := 8, zero := [.pointer none] }
def l18 : Option Lt := some { kind := 1, parts := [(0, 1, false)], size := 1, bytes := 8, zero := [.pointer none] }
def l19 : Option Lt := some { kind := 1, parts := [(0, 1, false)], size := 1, bytes := 8, zero := [.pointer none] }
def l20 : Option Lt := some { size := 1, bytes := 16, zero := [.nilIface] }
def l21 : Option Lt := some { ik := some .i32, size := 1, bytes := 4, zero := [.int .i32 0] }
def l22 : Option Lt := some { kind := 3, elem := 38, size := 1, bytes := 24, zero := [.slice none 0 0] }
def l23 : Option Lt := some { kind := 1, parts := [(0, 1, false), (1, 1, false)], size := 2, bytes := 32, zero := [.slice none 0 0, .int .i64 0] }
def l24 : Option Lt := some { kind := 1, parts := [(0, 1, false), (1, 1, false)], size := 2, bytes := 32, zero := [.slice none 0 0, .int .i64 0] }
def l25 : Option Lt := some { kind := 1, parts := [(0, 1, false), (1, 1, false), (2, 1, false), (3, 1, false), (4, 1, false)], ck := some [.i .i64, .s, .i .i64, .i .i64, .s], size := 5, bytes := 56, zero := [.int .i64 0, .string ByteArray.empty, .int .i64 0, .int .i64 0, .string ByteArray.empty] }
def l26 : Option Lt := some { kind := 1, parts := [(0, 1, false), (1, 1, false), (2, 1, false), (3, 1, false), (4, 1, false)], ck := some [.i .i64, .s, .i .i64, .i .i64, .s], size := 5, bytes := 56, zero := [.int .i64 0, .string ByteArray.empty, .int .i64 0, .int .i64 0, .string ByteArray.empty] }
def l27 : Option Lt := some { size := 1, bytes := 8, zero := [.nilFunc] }
def l28 : Option Lt := some { size := 1, bytes := 8, zero := [.nilFunc] }
def l29 : Option Lt := some { ik := some .i64, size := 1, bytes := 8, zero := [.int .i64 0] }
def l30 : Option Lt := none
def l31 : Option Lt := some { size := 1, bytes := 8, zero := [.nilFunc] }
def l32 : Option Lt := some { size := 1, bytes := 8, zero := [.nilFunc] }
def l33 : Option Lt := some { size := 1, bytes := 8, zero := [.nilFunc] }
def l34 : Option Lt := some { size := 1, bytes := 8, zero := [.nilFunc] }
def l35 : Option Lt := some { size := 1, bytes := 8, zero := [.nilFunc] }
def l36 : Option Lt := some { kind := 3, elem := 44, size := 1, bytes := 24, zero := [.slice none 0 0] }
def l37 : Option Lt := some { kind := 1, parts := [(0, 1, false), (1, 1, false), (2, 1, false), (3, 1, false)], size := 4, bytes := 56, zero := [.string ByteArray.empty, .int .i64 0, .int .i64 0, .slice none 0 0] }
def l38 : Option Lt := some { kind := 1, parts := [(0, 1, false), (1, 1, false), (2, 1, false), (3, 1, false)], size := 4, bytes := 56, zero := [.string ByteArray.empty, .int .i64 0, .int .i64 0, .slice none 0 0] }
def l39 : Option Lt := some { kind := 3, elem := 26, size := 1, bytes := 24, zero := [.slice none 0 0] }
def l40 : Option Lt := some { size := 1, bytes := 8, zero := [.nilFunc] }
def l41 : Option Lt := none
def l42 : Option Lt := some { size := 1, bytes := 8, zero := [.nilFunc] }
def l43 : Option Lt := some { kind := 1, parts := [(0, 1, false), (1, 1, false)], ck := some [.i .i64, .s], size := 2, bytes := 24, zero := [.int .i64 0, .string ByteArray.empty] }
def l44 : Option Lt := some { kind := 1, parts := [(0, 1, false), (1, 1, false)], ck := some [.i .i64, .s], size := 2, bytes := 24, zero := [.int .i64 0, .string ByteArray.empty] }
def l45 : Option Lt := none
def l46 : Option Lt := some { size := 1, bytes := 8, zero := [.nilFunc] }
def l47 : Option Lt := some { size := 1, bytes := 8, zero := [.nilFunc] }
def l48 : Option Lt := some { size := 1, bytes := 8, zero := [.nilFunc] }
def l49 : Option Lt := some { kind := 2, len := 2, elem := 9, size := 2, bytes := 32, zero := [.string ByteArray.empty, .string ByteArray.empty] }
def l50 : Option Lt := none
def l51 : Option Lt := some { size := 1, bytes := 8, zero := [.nilFunc] }
def l52 : Option Lt := some { size := 1, bytes := 8, zero := [.nilFunc] }
def l53 : Option Lt := some { size := 1, bytes := 8, zero := [.nilFunc] }
def l54 : Option Lt := some { size := 1, bytes := 8, zero := [.nilFunc] }
def l55 : Option Lt := some { size := 1, bytes := 8, zero := [.nilFunc] }
def l56 : Option Lt := some { size := 1, bytes := 8, zero := [.nilFunc] }
def l57 : Option Lt := some { size := 1, bytes := 8, zero := [.nilFunc] }
def l58 : Option Lt := some { size := 1, bytes := 8, zero := [.nilFunc] }
def l59 : Option Lt := some { size := 1, bytes := 8, zero := [.nilFunc] }
def l60 : Option Lt := some { size := 1, bytes := 8, zero := [.nilFunc] }
def l61 : Option Lt := some { size := 1, bytes := 8, zero := [.nilFunc] }
def l62 : Option Lt := some { size := 1, bytes := 8, zero := [.nilFunc] }
def l63 : Option Lt := some { size := 1, bytes := 8, zero := [.nilFunc] }
def l64 : Option Lt := some { size := 1, bytes := 8, zero := [.nilFunc] }
def l65 : Option Lt := some { size := 1, bytes := 8, zero := [.nilFunc] }
def l66 : Option Lt := some { size := 1, bytes := 8, zero := [.pointer none] }
def l67 : Option Lt := some { size := 1, bytes := 8, zero := [.nilFunc] }
def l68 : Option Lt := some { size := 1, bytes := 8, zero := [.nilFunc] }
def l69 : Option Lt := some { size := 1, bytes := 8, zero := [.nilFunc] }
def l70 : Option Lt := some { size := 1, bytes := 8, zero := [.nilFunc] }
def l71 : Option Lt := some { size := 1, bytes := 8, zero := [.nilFunc] }
def l72 : Option Lt := some { size := 1, bytes := 8, zero := [.nilFunc] }
def l73 : Option Lt := some { size := 1, bytes := 8, zero := [.nilFunc] }
def l74 : Option Lt := some { size := 1, bytes := 8, zero := [.nilFunc] }
def l75 : Option Lt := some { size := 1, bytes := 8, zero := [.nilFunc] }
def l76 : Option Lt := none
def l77 : Option Lt := some { size := 1, bytes := 8, zero := [.nilFunc] }
def l78 : Option Lt := some { size := 1, bytes := 8, zero := [.nilFunc] }
def l79 : Option Lt := some { size := 1, bytes := 8, zero := [.nilFunc] }
def l80 : Option Lt := some { size := 1, bytes := 8, zero := [.pointer none] }
def l81 : Option Lt := some { size := 1, bytes := 8, zero := [.nilFunc] }
def l82 : Option Lt := some { size := 1, bytes := 8, zero := [.nilFunc] }
def l83 : Option Lt := some { size := 1, bytes := 8, zero := [.nilFunc] }
def l84 : Option Lt := some { size := 1, bytes := 8, zero := [.nilFunc] }
def l85 : Option Lt := some { ik := some .u64, size := 1, bytes := 8, zero := [.int .u64 0] }
def l86 : Option Lt := some { size := 1, bytes := 8, zero := [.nilFunc] }
def l87 : Option Lt := some { size := 1, bytes := 8, zero := [.nilFunc] }
def l88 : Option Lt := some { size := 1, bytes := 8, zero := [.nilFunc] }
def l89 : Option Lt := some { size := 1, bytes := 8, zero := [.nilFunc] }
def l90 : Option Lt := some { size := 1, bytes := 8, zero := [.nilFunc] }
def l91 : Option Lt := some { size := 1, bytes := 8, zero := [.nilFunc] }
def l92 : Option Lt := some { size := 1, bytes := 8, zero := [.nilFunc] }
def l93 : Option Lt := some { size := 1, bytes := 8, zero := [.nilFunc] }
def l94 : Option Lt := some { size := 1, bytes := 8, zero := [.nilFunc] }
def l95 : Option Lt := some { kind := 1, parts := [(0, 1, false), (1, 1, false), (2, 1, false), (3, 1, false)], size := 4, bytes := 40, zero := [.pointer none, .pointer none, .pointer none, .string ByteArray.empty] }
def l96 : Option Lt := some { kind := 1, parts := [(0, 1, false), (1, 1, false), (2, 1, false), (3, 1, false)], size := 4, bytes := 40, zero := [.pointer none, .pointer none, .pointer none, .string ByteArray.empty] }
def l97 : Option Lt := some { kind := 2, len := 0, elem := 16, size := 0, bytes := 0, zero := [] }
def l98 : Option Lt := some { kind := 1, parts := [(0, 0, true)], size := 0, bytes := 0, zero := [] }
def l99 : Option Lt := some { kind := 1, parts := [(0, 0, true)], size := 0, bytes := 0, zero := [] }
def l100 : Option Lt := some { size := 1, bytes := 8, zero := [.nilFunc] }
def l101 : Option Lt := some { ik := some .u32, size := 1, bytes := 4, zero := [.int .u32 0] }
def l102 : Option Lt := some { ik := some .u8, size := 1, bytes := 1, zero := [.int .u8 0] }
def l103 : Option Lt := some { ik := some .u8, size := 1, bytes := 1, zero := [.int .u8 0] }
def l104 : Option Lt := some { size := 1, bytes := 8, zero := [.nilFunc] }
def l105 : Option Lt := some { size := 1, bytes := 8, zero := [.pointer none] }
def l106 : Option Lt := some { ik := some .i32, size := 1, bytes := 4, zero := [.int .i32 0] }
def l107 : Option Lt := some { ik := some .i32, size := 1, bytes := 4, zero := [.int .i32 0] }
def l108 : Option Lt := some { kind := 1, parts := [(0, 1, false), (1, 1, false), (2, 1, false), (3, 1, false), (4, 1, false), (5, 1, false), (6, 1, false), (7, 1, false), (8, 1, false), (9, 1, false), (10, 1, false)], size := 11, bytes := 48, zero := [.int .u64 0, .int .u64 0, .int .u32 0, .int .u8 0, .int .u8 0, .int .u8 0, .int .u8 0, .nilFunc, .pointer none, .int .i32 0, .int .i32 0] }
def l109 : Option Lt := some { kind := 1, parts := [(0, 1, false), (1, 1, false), (2, 1, false), (3, 1, false), (4, 1, false), (5, 1, false), (6, 1, false), (7, 1, false), (8, 1, false), (9, 1, false), (10, 1, false)], size := 11, bytes := 48, zero := [.int .u64 0, .int .u64 0, .int .u32 0, .int .u8 0, .int .u8 0, .int .u8 0, .int .u8 0, .nilFunc, .pointer none, .int .i32 0, .int .i32 0] }
def l110 : Option Lt := none
def lay (t : TypeId) : Option Lt :=
  match Nat.ble 55 t with
  | true =>
    match Nat.ble 83 t with
    | true =>
      match Nat.ble 97 t with
      | true =>
        match Nat.ble 104 t with
        | true =>
          match Nat.ble 107 t with
          | true =>
            match Nat.ble 109 t with
            | true =>
              match Nat.ble 110 t with
              | true =>
                l110
              | false =>
                l109
            | false =>
              match Nat.ble 108 t with
              | true =>
                l108
              | false =>
                l107
          | false =>
            match Nat.ble 105 t with
            | true =>
              match Nat.ble 106 t with
              | true =>
                l106
              | false =>
                l105
            | false =>
              l104
        | false =>
          match Nat.ble 100 t with
          | true =>
            match Nat.ble 102 t with
            | true =>
              match Nat.ble 103 t with
              | true =>
                l103
              | false =>
                l102
            | false =>
              match Nat.ble 101 t with
              | true =>
                l101
              | false =>
                l100
          | false =>
            match Nat.ble 98 t with
            | true =>
              match Nat.ble 99 t with
              | true =>
                l99
              | false =>
                l98
            | false =>
              l97
      | false =>
        match Nat.ble 90 t with
        | true =>
          match Nat.ble 93 t with
          | true =>
            match Nat.ble 95 t with
            | true =>
              match Nat.ble 96 t with
              | true =>
                l96
              | false =>
                l95
            | false =>
              match Nat.ble 94 t with
              | true =>
                l94
              | false =>
                l93
          | false =>
            match Nat.ble 91 t with
            | true =>
              match Nat.ble 92 t with
              | true =>
                l92
              | false =>
                l91
            | false =>
              l90
        | false =>
          match Nat.ble 86 t with
          | true =>
            match Nat.ble 88 t with
            | true =>
              match Nat.ble 89 t with
              | true =>
                l89
              | false =>
                l88
            | false =>
              match Nat.ble 87 t with
              | true =>
                l87
              | false =>
                l86
          | false =>
            match Nat.ble 84 t with
            | true =>
              match Nat.ble 85 t with
              | true =>
                l85
              | false =>
                l84
            | false =>
              l83
    | false =>
      match Nat.ble 69 t with
      | true =>
        match Nat.ble 76 t with
        | true =>
          match Nat.ble 79 t with
          | true =>
            match Nat.ble 81 t with
            | true =>
              match Nat.ble 82 t with
              | true =>
                l82
              | false =>
                l81
            | false =>
              match Nat.ble 80 t with
              | true =>
                l80
              | false =>
                l79
          | false =>
            match Nat.ble 77 t with
            | true =>
              match Nat.ble 78 t with
              | true =>
                l78
              | false =>
                l77
            | false =>
              l76
        | false =>
          match Nat.ble 72 t with
          | true =>
            match Nat.ble 74 t with
            | true =>
              match Nat.ble 75 t with
              | true =>
                l75
              | false =>
                l74
            | false =>
              match Nat.ble 73 t with
              | true =>
                l73
              | false =>
                l72
          | false =>
            match Nat.ble 70 t with
            | true =>
              match Nat.ble 71 t with
              | true =>
                l71
              | false =>
                l70
            | false =>
              l69
      | false =>
        match Nat.ble 62 t with
        | true =>
          match Nat.ble 65 t with
          | true =>
            match Nat.ble 67 t with
            | true =>
              match Nat.ble 68 t with
              | true =>
                l68
              | false =>
                l67
            | false =>
              match Nat.ble 66 t with
              | true =>
                l66
              | false =>
                l65
          | false =>
            match Nat.ble 63 t with
            | true =>
              match Nat.ble 64 t with
              | true =>
                l64
              | false =>
                l63
            | false =>
              l62
        | false =>
          match Nat.ble 58 t with
          | true =>
            match Nat.ble 60 t with
            | true =>
              match Nat.ble 61 t with
              | true =>
                l61
              | false =>
                l60
            | false =>
              match Nat.ble 59 t with
              | true =>
                l59
              | false =>
                l58
          | false =>
            match Nat.ble 56 t with
            | true =>
              match Nat.ble 57 t with
              | true =>
                l57
              | false =>
                l56
            | false =>
              l55
  | false =>
    match Nat.ble 27 t with
    | true =>
      match Nat.ble 41 t with
      | true =>
        match Nat.ble 48 t with
        | true =>
          match Nat.ble 51 t with
          | true =>
            match Nat.ble 53 t with
            | true =>
              match Nat.ble 54 t with
              | true =>
                l54
              | false =>
                l53
            | false =>
              match Nat.ble 52 t with
              | true =>
                l52
              | false =>
                l51
          | false =>
            match Nat.ble 49 t with
            | true =>
              match Nat.ble 50 t with
              | true =>
                l50
              | false =>
                l49
            | false =>
              l48
        | false =>
          match Nat.ble 44 t with
          | true =>
            match Nat.ble 46 t with
            | true =>
              match Nat.ble 47 t with
              | true =>
                l47
              | false =>
                l46
            | false =>
              match Nat.ble 45 t with
              | true =>
                l45
              | false =>
                l44
          | false =>
            match Nat.ble 42 t with
            | true =>
              match Nat.ble 43 t with
              | true =>
                l43
              | false =>
                l42
            | false =>
              l41
      | false =>
        match Nat.ble 34 t with
        | true =>
          match Nat.ble 37 t with
          | true =>
            match Nat.ble 39 t with
            | true =>
              match Nat.ble 40 t with
              | true =>
                l40
              | false =>
                l39
            | false =>
              match Nat.ble 38 t with
              | true =>
                l38
              | false =>
                l37
          | false =>
            match Nat.ble 35 t with
            | true =>
              match Nat.ble 36 t with
              | true =>
                l36
              | false =>
                l35
            | false =>
              l34
        | false =>
          match Nat.ble 30 t with
          | true =>
            match Nat.ble 32 t with
            | true =>
              match Nat.ble 33 t with
              | true =>
                l33
              | false =>
                l32
            | false =>
              match Nat.ble 31 t with
              | true =>
                l31
              | false =>
                l30
          | false =>
            match Nat.ble 28 t with
            | true =>
              match Nat.ble 29 t with
              | true =>
                l29
              | false =>
                l28
            | false =>
              l27
    | false =>
      match Nat.ble 13 t with
      | true =>
        match Nat.ble 20 t with
        | true =>
          match Nat.ble 23 t with
          | true =>
            match Nat.ble 25 t with
            | true =>
              match Nat.ble 26 t with
              | true =>
                l26
              | false =>
                l25
            | false =>
              match Nat.ble 24 t with
              | true =>
                l24
              | false =>
                l23
          | false =>
            match Nat.ble 21 t with
            | true =>
              match Nat.ble 22 t with
              | true =>
                l22
              | false =>
                l21
            | false =>
              l20
        | false =>
          match Nat.ble 16 t with
          | true =>
            match Nat.ble 18 t with
            | true =>
              match Nat.ble 19 t with
              | true =>
                l19
              | false =>
                l18
            | false =>
              match Nat.ble 17 t with
              | true =>
                l17
              | false =>
                l16
          | false =>
            match Nat.ble 14 t with
            | true =>
              match Nat.ble 15 t with
              | true =>
                l15
              | false =>
                l14
            | false =>
              l13
      | false =>
        match Nat.ble 6 t with
        | true =>
          match Nat.ble 9 t with
          | true =>
            match Nat.ble 11 t with
            | true =>
              match Nat.ble 12 t with
              | true =>
                l12
              | false =>
                l11
            | false =>
              match Nat.ble 10 t with
              | true =>
                l10
              | false =>
                l9
          | false =>
            match Nat.ble 7 t with
            | true =>
              match Nat.ble 8 t with
              | true =>
                l8
              | false =>
                l7
            | false =>
              l6
        | false =>
          match Nat.ble 3 t with
          | true =>
            match Nat.ble 4 t with
            | true =>
              match Nat.ble 5 t with
              | true =>
                l5
              | false =>
                l4
            | false =>
              l3
          | false =>
            match Nat.ble 1 t with
            | true =>
              match Nat.ble 2 t with
              | true =>
                l2
              | false =>
                l1
            | false =>
              l0
end Ly
def lay (t : TypeId) : Option Lt :=
  match Nat.blt t 111 with
  | true => Ly.lay t
  | false => none
theorem lay_ok : LayOk Try.prog lay := layOk_fn 111 lay (fun t h => by unfold lay; rw [blt_no h]) (by kernel_rfl)
end Ab
end Go.Proofs.Ytgcgilcalmefgaa
