/- Texts that the proof leans on. -/
import Derived.Test.YtbpihhelojjedaaDoorProg
import Derived.Test.YtbpihhelojjedaaDoorK201
set_option linter.unusedVariables false
set_option linter.unusedSimpArgs false
set_option maxRecDepth 100000
set_option maxHeartbeats 4000000
namespace Go.Proofs.YtbpihhelojjedaaDoor
open Go
namespace Ab
namespace Ly
def l1:Option Lt:=some {size:=1,bytes:=8,zero:=[.nilFunc]}
def l2:Option Lt:=some {ik:=some .i64,size:=1,bytes:=8,zero:=[.int .i64 0]}
def l3:Option Lt:=some {ik:=some .i64,size:=1,bytes:=8,zero:=[.int .i64 0]}
def l4:Option Lt:=some {kind:=5,size:=1,bytes:=1,zero:=[.bool false]}
def l5:Option Lt:=some {ik:=some .u8,size:=1,bytes:=1,zero:=[.int .u8 0]}
def l6:Option Lt:=some {ik:=some .u8,size:=1,bytes:=1,zero:=[.int .u8 0]}
def l7:Option Lt:=some {kind:=1,parts:=[(0,1,false),(1,1,false),(2,1,false),(3,1,false)],size:=4,bytes:=24,zero:=[.int .i64 0,.int .i64 0,.bool false,.int .u8 0]}
def l8:Option Lt:=some {kind:=1,parts:=[(0,1,false),(1,1,false),(2,1,false),(3,1,false)],size:=4,bytes:=24,zero:=[.int .i64 0,.int .i64 0,.bool false,.int .u8 0]}
def l9:Option Lt:=some {kind:=4,size:=1,bytes:=16,zero:=[.string ByteArray.empty]}
def l10:Option Lt:=some {kind:=4,size:=1,bytes:=16,zero:=[.string ByteArray.empty]}
def l11:Option Lt:=some {kind:=4,size:=1,bytes:=16,zero:=[.string ByteArray.empty]}
def l12:Option Lt:=some {ik:=some .u64,size:=1,bytes:=8,zero:=[.int .u64 0]}
def l13:Option Lt:=some {kind:=1,parts:=[(0,1,false),(1,1,false)],size:=2,bytes:=24,zero:=[.string ByteArray.empty,.int .u64 0]}
def l14:Option Lt:=some {kind:=1,parts:=[(0,1,false),(1,1,false)],size:=2,bytes:=24,zero:=[.string ByteArray.empty,.int .u64 0]}
def l15:Option Lt:=some {size:=1,bytes:=8,zero:=[.pointer none]}
def l16:Option Lt:=some {size:=1,bytes:=8,zero:=[.pointer none]}
def l17:Option Lt:=some {size:=1,bytes:=8,zero:=[.pointer none]}
def l18:Option Lt:=some {kind:=1,parts:=[(0,1,false)],size:=1,bytes:=8,zero:=[.pointer none]}
def l19:Option Lt:=some {kind:=1,parts:=[(0,1,false)],size:=1,bytes:=8,zero:=[.pointer none]}
def l20:Option Lt:=some {size:=1,bytes:=16,zero:=[.nilIface]}
def l21:Option Lt:=some {ik:=some .i32,size:=1,bytes:=4,zero:=[.int .i32 0]}
def l22:Option Lt:=some {kind:=3,elem:=32,size:=1,bytes:=24,zero:=[.slice none 0 0]}
def l23:Option Lt:=some {kind:=3,elem:=3,size:=1,bytes:=24,zero:=[.slice none 0 0]}
def l24:Option Lt:=some {kind:=3,elem:=23,size:=1,bytes:=24,zero:=[.slice none 0 0]}
def l25:Option Lt:=some {kind:=1,parts:=[(0,1,false),(1,1,false),(2,1,false),(3,1,false),(4,1,false)],size:=5,bytes:=104,zero:=[.slice none 0 0,.bool false,.slice none 0 0,.slice none 0 0,.slice none 0 0]}
def l26:Option Lt:=some {kind:=1,parts:=[(0,1,false),(1,1,false),(2,1,false),(3,1,false),(4,1,false)],size:=5,bytes:=104,zero:=[.slice none 0 0,.bool false,.slice none 0 0,.slice none 0 0,.slice none 0 0]}
def l27:Option Lt:=some {size:=1,bytes:=8,zero:=[.nilFunc]}
def l28:Option Lt:=some {size:=1,bytes:=8,zero:=[.nilFunc]}
def l29:Option Lt:=some {size:=1,bytes:=8,zero:=[.nilFunc]}
def l30:Option Lt:=some {ik:=some .u64,size:=1,bytes:=8,zero:=[.int .u64 0]}
def l31:Option Lt:=some {kind:=2,len:=4,elem:=30,ck:=some [.i .u64,.i .u64,.i .u64,.i .u64],size:=4,bytes:=32,zero:=[.int .u64 0,.int .u64 0,.int .u64 0,.int .u64 0]}
def l32:Option Lt:=some {kind:=2,len:=4,elem:=30,ck:=some [.i .u64,.i .u64,.i .u64,.i .u64],size:=4,bytes:=32,zero:=[.int .u64 0,.int .u64 0,.int .u64 0,.int .u64 0]}
def l33:Option Lt:=some {kind:=3,elem:=35,size:=1,bytes:=24,zero:=[.slice none 0 0]}
def l34:Option Lt:=some {kind:=1,parts:=[(0,1,false),(1,4,true),(5,1,false),(6,1,false),(7,1,false)],size:=8,bytes:=80,zero:=[.int .i64 0,.int .u64 0,.int .u64 0,.int .u64 0,.int .u64 0,.slice none 0 0,.int .i64 0,.int .i64 0]}
def l35:Option Lt:=some {kind:=1,parts:=[(0,1,false),(1,4,true),(5,1,false),(6,1,false),(7,1,false)],size:=8,bytes:=80,zero:=[.int .i64 0,.int .u64 0,.int .u64 0,.int .u64 0,.int .u64 0,.slice none 0 0,.int .i64 0,.int .i64 0]}
def l36:Option Lt:=some {size:=1,bytes:=8,zero:=[.nilFunc]}
def l37:Option Lt:=some {size:=1,bytes:=8,zero:=[.nilFunc]}
def l38:Option Lt:=some {ik:=some .i64,size:=1,bytes:=8,zero:=[.int .i64 0]}
def l40:Option Lt:=some {size:=1,bytes:=8,zero:=[.nilFunc]}
def l41:Option Lt:=some {size:=1,bytes:=8,zero:=[.nilFunc]}
def l42:Option Lt:=some {size:=1,bytes:=8,zero:=[.nilFunc]}
def l43:Option Lt:=some {kind:=1,parts:=[(0,1,false),(1,1,false)],ck:=some [.i .i64,.i .i64],size:=2,bytes:=16,zero:=[.int .i64 0,.int .i64 0]}
def l44:Option Lt:=some {kind:=1,parts:=[(0,1,false),(1,1,false)],ck:=some [.i .i64,.i .i64],size:=2,bytes:=16,zero:=[.int .i64 0,.int .i64 0]}
def l46:Option Lt:=some {size:=1,bytes:=8,zero:=[.nilFunc]}
def l47:Option Lt:=some {size:=1,bytes:=8,zero:=[.nilFunc]}
def l48:Option Lt:=some {size:=1,bytes:=8,zero:=[.nilFunc]}
def l49:Option Lt:=some {size:=1,bytes:=8,zero:=[.nilFunc]}
def l50:Option Lt:=some {kind:=3,elem:=4,size:=1,bytes:=24,zero:=[.slice none 0 0]}
def l51:Option Lt:=some {size:=1,bytes:=8,zero:=[.nilFunc]}
def l52:Option Lt:=some {size:=1,bytes:=8,zero:=[.nilFunc]}
def l53:Option Lt:=some {size:=1,bytes:=8,zero:=[.nilFunc]}
def l54:Option Lt:=some {size:=1,bytes:=8,zero:=[.nilFunc]}
def l55:Option Lt:=some {size:=1,bytes:=8,zero:=[.nilFunc]}
def l57:Option Lt:=some {size:=1,bytes:=8,zero:=[.nilFunc]}
def l58:Option Lt:=some {kind:=1,parts:=[(0,5,true)],size:=5,bytes:=104,zero:=[.slice none 0 0,.bool false,.slice none 0 0,.slice none 0 0,.slice none 0 0]}
def l59:Option Lt:=some {kind:=1,parts:=[(0,5,true)],size:=5,bytes:=104,zero:=[.slice none 0 0,.bool false,.slice none 0 0,.slice none 0 0,.slice none 0 0]}
def l60:Option Lt:=some {kind:=1,parts:=[(0,1,false),(1,1,false),(2,1,false)],size:=3,bytes:=56,zero:=[.slice none 0 0,.slice none 0 0,.bool false]}
def l61:Option Lt:=some {kind:=1,parts:=[(0,1,false),(1,1,false),(2,1,false)],size:=3,bytes:=56,zero:=[.slice none 0 0,.slice none 0 0,.bool false]}
def l62:Option Lt:=some {size:=1,bytes:=8,zero:=[.nilFunc]}
def l63:Option Lt:=some {size:=1,bytes:=8,zero:=[.nilFunc]}
def l64:Option Lt:=some {kind:=1,parts:=[(0,1,false),(1,1,false),(2,1,false),(3,1,false),(4,1,false)],size:=5,bytes:=104,zero:=[.slice none 0 0,.slice none 0 0,.slice none 0 0,.slice none 0 0,.bool false]}
def l65:Option Lt:=some {kind:=1,parts:=[(0,1,false),(1,1,false),(2,1,false),(3,1,false),(4,1,false)],size:=5,bytes:=104,zero:=[.slice none 0 0,.slice none 0 0,.slice none 0 0,.slice none 0 0,.bool false]}
def l66:Option Lt:=some {size:=1,bytes:=8,zero:=[.nilFunc]}
def l67:Option Lt:=some {size:=1,bytes:=8,zero:=[.nilFunc]}
def l68:Option Lt:=some {size:=1,bytes:=8,zero:=[.nilFunc]}
def l69:Option Lt:=some {size:=1,bytes:=8,zero:=[.nilFunc]}
def l70:Option Lt:=some {kind:=1,parts:=[(0,2,true)],size:=2,bytes:=16,zero:=[.int .i64 0,.int .i64 0]}
def l71:Option Lt:=some {kind:=1,parts:=[(0,2,true)],size:=2,bytes:=16,zero:=[.int .i64 0,.int .i64 0]}
def l72:Option Lt:=some {size:=1,bytes:=8,zero:=[.pointer none]}
def l73:Option Lt:=some {kind:=1,parts:=[(0,1,false),(1,1,false),(2,1,false)],ck:=some [.s,.i .i64,.i .i64],size:=3,bytes:=32,zero:=[.string ByteArray.empty,.int .i64 0,.int .i64 0]}
def l74:Option Lt:=some {kind:=1,parts:=[(0,1,false),(1,1,false),(2,1,false)],ck:=some [.s,.i .i64,.i .i64],size:=3,bytes:=32,zero:=[.string ByteArray.empty,.int .i64 0,.int .i64 0]}
def l75:Option Lt:=some {size:=1,bytes:=8,zero:=[.nilFunc]}
def l76:Option Lt:=some {size:=1,bytes:=8,zero:=[.nilFunc]}
def l77:Option Lt:=some {size:=1,bytes:=8,zero:=[.nilFunc]}
def l78:Option Lt:=some {size:=1,bytes:=8,zero:=[.pointer none]}
def l79:Option Lt:=some {size:=1,bytes:=8,zero:=[.nilFunc]}
def l80:Option Lt:=some {size:=1,bytes:=8,zero:=[.nilFunc]}
def l81:Option Lt:=some {size:=1,bytes:=8,zero:=[.nilFunc]}
def l82:Option Lt:=some {size:=1,bytes:=8,zero:=[.nilFunc]}
def l83:Option Lt:=some {size:=1,bytes:=8,zero:=[.nilFunc]}
def l84:Option Lt:=some {size:=1,bytes:=8,zero:=[.nilFunc]}
def l85:Option Lt:=some {kind:=3,elem:=4,size:=1,bytes:=24,zero:=[.slice none 0 0]}
def l86:Option Lt:=some {size:=1,bytes:=8,zero:=[.nilFunc]}
def l87:Option Lt:=some {size:=1,bytes:=8,zero:=[.nilFunc]}
def l88:Option Lt:=some {size:=1,bytes:=8,zero:=[.nilFunc]}
def l89:Option Lt:=some {size:=1,bytes:=8,zero:=[.nilFunc]}
def l90:Option Lt:=some {size:=1,bytes:=8,zero:=[.nilFunc]}
def l91:Option Lt:=some {size:=1,bytes:=8,zero:=[.nilFunc]}
def l92:Option Lt:=some {size:=1,bytes:=8,zero:=[.nilFunc]}
def l93:Option Lt:=some {size:=1,bytes:=8,zero:=[.nilFunc]}
def l94:Option Lt:=some {size:=1,bytes:=8,zero:=[.nilFunc]}
def l95:Option Lt:=some {size:=1,bytes:=8,zero:=[.nilFunc]}
def l96:Option Lt:=some {size:=1,bytes:=8,zero:=[.nilFunc]}
def l97:Option Lt:=some {size:=1,bytes:=8,zero:=[.nilFunc]}
def l98:Option Lt:=some {ik:=some .u64,size:=1,bytes:=8,zero:=[.int .u64 0]}
def l99:Option Lt:=some {size:=1,bytes:=8,zero:=[.nilFunc]}
def l100:Option Lt:=some {size:=1,bytes:=8,zero:=[.nilFunc]}
def l101:Option Lt:=some {size:=1,bytes:=8,zero:=[.nilFunc]}
def l102:Option Lt:=some {size:=1,bytes:=8,zero:=[.nilFunc]}
def l103:Option Lt:=some {size:=1,bytes:=8,zero:=[.nilFunc]}
def l104:Option Lt:=some {ik:=some .i64,size:=1,bytes:=8,zero:=[.int .i64 0]}
def l106:Option Lt:=some {size:=1,bytes:=8,zero:=[.nilFunc]}
def l107:Option Lt:=some {size:=1,bytes:=8,zero:=[.nilFunc]}
def l108:Option Lt:=some {size:=1,bytes:=8,zero:=[.nilFunc]}
def l110:Option Lt:=some {size:=1,bytes:=8,zero:=[.nilFunc]}
def l111:Option Lt:=some {size:=1,bytes:=8,zero:=[.nilFunc]}
def l112:Option Lt:=some {ik:=some .u32,size:=1,bytes:=4,zero:=[.int .u32 0]}
def l113:Option Lt:=some {size:=1,bytes:=8,zero:=[.nilFunc]}
def l114:Option Lt:=some {size:=1,bytes:=8,zero:=[.nilFunc]}
def l115:Option Lt:=some {size:=1,bytes:=8,zero:=[.nilFunc]}
def l117:Option Lt:=some {size:=1,bytes:=8,zero:=[.nilFunc]}
def l118:Option Lt:=some {ik:=some .u64,size:=1,bytes:=8,zero:=[.int .u64 0]}
def l119:Option Lt:=some {size:=1,bytes:=8,zero:=[.nilFunc]}
def l120:Option Lt:=some {size:=1,bytes:=8,zero:=[.nilFunc]}
def l121:Option Lt:=some {size:=1,bytes:=8,zero:=[.nilFunc]}
def l122:Option Lt:=some {size:=1,bytes:=8,zero:=[.pointer none]}
def l123:Option Lt:=some {size:=1,bytes:=8,zero:=[.nilFunc]}
def l124:Option Lt:=some {size:=1,bytes:=8,zero:=[.nilFunc]}
def l125:Option Lt:=some {size:=1,bytes:=8,zero:=[.nilFunc]}
def l126:Option Lt:=some {size:=1,bytes:=8,zero:=[.nilFunc]}
def l127:Option Lt:=some {size:=1,bytes:=8,zero:=[.pointer none]}
def l128:Option Lt:=some {size:=1,bytes:=8,zero:=[.nilFunc]}
def l129:Option Lt:=some {size:=1,bytes:=8,zero:=[.nilFunc]}
def l130:Option Lt:=some {kind:=2,len:=64,elem:=5,size:=64,bytes:=64,zero:=[.int .u8 0,.int .u8 0,.int .u8 0,.int .u8 0,.int .u8 0,.int .u8 0,.int .u8 0,.int .u8 0,.int .u8 0,.int .u8 0,.int .u8 0,.int .u8 0,.int .u8 0,.int .u8 0,.int .u8 0,.int .u8 0,.int .u8 0,.int .u8 0,.int .u8 0,.int .u8 0,.int .u8 0,.int .u8 0,.int .u8 0,.int .u8 0,.int .u8 0,.int .u8 0,.int .u8 0,.int .u8 0,.int .u8 0,.int .u8 0,.int .u8 0,.int .u8 0,.int .u8 0,.int .u8 0,.int .u8 0,.int .u8 0,.int .u8 0,.int .u8 0,.int .u8 0,.int .u8 0,.int .u8 0,.int .u8 0,.int .u8 0,.int .u8 0,.int .u8 0,.int .u8 0,.int .u8 0,.int .u8 0,.int .u8 0,.int .u8 0,.int .u8 0,.int .u8 0,.int .u8 0,.int .u8 0,.int .u8 0,.int .u8 0,.int .u8 0,.int .u8 0,.int .u8 0,.int .u8 0,.int .u8 0,.int .u8 0,.int .u8 0,.int .u8 0]}
def l131:Option Lt:=some {size:=1,bytes:=8,zero:=[.nilFunc]}
def l132:Option Lt:=some {kind:=1,parts:=[(0,1,false),(1,1,false),(2,1,false),(3,1,false)],size:=4,bytes:=40,zero:=[.pointer none,.pointer none,.pointer none,.string ByteArray.empty]}
def l133:Option Lt:=some {kind:=1,parts:=[(0,1,false),(1,1,false),(2,1,false),(3,1,false)],size:=4,bytes:=40,zero:=[.pointer none,.pointer none,.pointer none,.string ByteArray.empty]}
def l134:Option Lt:=some {kind:=2,len:=0,elem:=16,size:=0,bytes:=0,zero:=[]}
def l135:Option Lt:=some {kind:=1,parts:=[(0,0,true)],size:=0,bytes:=0,zero:=[]}
def l136:Option Lt:=some {kind:=1,parts:=[(0,0,true)],size:=0,bytes:=0,zero:=[]}
def l137:Option Lt:=some {ik:=some .u8,size:=1,bytes:=1,zero:=[.int .u8 0]}
def l138:Option Lt:=some {ik:=some .u8,size:=1,bytes:=1,zero:=[.int .u8 0]}
def l139:Option Lt:=some {size:=1,bytes:=8,zero:=[.nilFunc]}
def l140:Option Lt:=some {size:=1,bytes:=8,zero:=[.pointer none]}
def l141:Option Lt:=some {ik:=some .i32,size:=1,bytes:=4,zero:=[.int .i32 0]}
def l142:Option Lt:=some {ik:=some .i32,size:=1,bytes:=4,zero:=[.int .i32 0]}
def l143:Option Lt:=some {kind:=1,parts:=[(0,1,false),(1,1,false),(2,1,false),(3,1,false),(4,1,false),(5,1,false),(6,1,false),(7,1,false),(8,1,false),(9,1,false),(10,1,false)],size:=11,bytes:=48,zero:=[.int .u64 0,.int .u64 0,.int .u32 0,.int .u8 0,.int .u8 0,.int .u8 0,.int .u8 0,.nilFunc,.pointer none,.int .i32 0,.int .i32 0]}
def l144:Option Lt:=some {kind:=1,parts:=[(0,1,false),(1,1,false),(2,1,false),(3,1,false),(4,1,false),(5,1,false),(6,1,false),(7,1,false),(8,1,false),(9,1,false),(10,1,false)],size:=11,bytes:=48,zero:=[.int .u64 0,.int .u64 0,.int .u32 0,.int .u8 0,.int .u8 0,.int .u8 0,.int .u8 0,.nilFunc,.pointer none,.int .i32 0,.int .i32 0]}
def lay (t : TypeId):Option Lt:=
 match Nat.ble 73 t with
 | true=>
   match Nat.ble 108 t with
   | true=>
     match Nat.ble 127 t with
     | true=>
       match Nat.ble 136 t with
       | true=>
         match Nat.ble 140 t with
         | true=>
           match Nat.ble 142 t with
           | true=>
             match Nat.ble 143 t with
             | true=>
               match Nat.ble 144 t with
               | true=>
                 match Nat.beq 144 t with
                 | true=>l144
                 | false=>none
               | false=>
                 match Nat.beq 143 t with
                 | true=>l143
                 | false=>none
             | false=>
               match Nat.beq 142 t with
               | true=>l142
               | false=>none
           | false=>
             match Nat.ble 141 t with
             | true=>
               match Nat.beq 141 t with
               | true=>l141
               | false=>none
             | false=>
               match Nat.beq 140 t with
               | true=>l140
               | false=>none
         | false=>
           match Nat.ble 138 t with
           | true=>
             match Nat.ble 139 t with
             | true=>
               match Nat.beq 139 t with
               | true=>l139
               | false=>none
             | false=>
               match Nat.beq 138 t with
               | true=>l138
               | false=>none
           | false=>
             match Nat.ble 137 t with
             | true=>
               match Nat.beq 137 t with
               | true=>l137
               | false=>none
             | false=>
               match Nat.beq 136 t with
               | true=>l136
               | false=>none
       | false =>
         match Nat.ble 131 t with
         | true=>
           match Nat.ble 133 t with
           | true=>
             match Nat.ble 134 t with
             | true=>
               match Nat.ble 135 t with
               | true=>
                 match Nat.beq 135 t with
                 | true=>l135
                 | false=>none
               | false=>
                 match Nat.beq 134 t with
                 | true=>l134
                 | false=>none
             | false=>
               match Nat.beq 133 t with
               | true=>l133
               | false=>none
           | false=>
             match Nat.ble 132 t with
             | true=>
               match Nat.beq 132 t with
               | true=>l132
               | false=>none
             | false=>
               match Nat.beq 131 t with
               | true=>l131
               | false=>none
         | false=>
           match Nat.ble 129 t with
           | true=>
             match Nat.ble 130 t with
             | true=>
               match Nat.beq 130 t with
               | true=>l130
               | false=>none
             | false=>
               match Nat.beq 129 t with
               | true=>l129
               | false=>none
           | false=>
             match Nat.ble 128 t with
             | true=>
               match Nat.beq 128 t with
               | true=>l128
               | false=>none
             | false=>
               match Nat.beq 127 t with
               | true=>l127
               | false=>none
     | false =>
       match Nat.ble 118 t with
       | true=>
         match Nat.ble 122 t with
         | true=>
           match Nat.ble 124 t with
           | true=>
             match Nat.ble 125 t with
             | true=>
               match Nat.ble 126 t with
               | true=>
                 match Nat.beq 126 t with
                 | true=>l126
                 | false=>none
               | false=>
                 match Nat.beq 125 t with
                 | true=>l125
                 | false=>none
             | false=>
               match Nat.beq 124 t with
               | true=>l124
               | false=>none
           | false=>
             match Nat.ble 123 t with
             | true=>
               match Nat.beq 123 t with
               | true=>l123
               | false=>none
             | false=>
               match Nat.beq 122 t with
               | true=>l122
               | false=>none
         | false=>
           match Nat.ble 120 t with
           | true=>
             match Nat.ble 121 t with
             | true=>
               match Nat.beq 121 t with
               | true=>l121
               | false=>none
             | false=>
               match Nat.beq 120 t with
               | true=>l120
               | false=>none
           | false=>
             match Nat.ble 119 t with
             | true=>
               match Nat.beq 119 t with
               | true=>l119
               | false=>none
             | false=>
               match Nat.beq 118 t with
               | true=>l118
               | false=>none
       | false =>
         match Nat.ble 113 t with
         | true=>
           match Nat.ble 115 t with
           | true=>
             match Nat.ble 117 t with
             | true=>
               match Nat.beq 117 t with
               | true=>l117
               | false=>none
             | false=>
               match Nat.beq 115 t with
               | true=>l115
               | false=>none
           | false=>
             match Nat.ble 114 t with
             | true=>
               match Nat.beq 114 t with
               | true=>l114
               | false=>none
             | false=>
               match Nat.beq 113 t with
               | true=>l113
               | false=>none
         | false=>
           match Nat.ble 111 t with
           | true=>
             match Nat.ble 112 t with
             | true=>
               match Nat.beq 112 t with
               | true=>l112
               | false=>none
             | false=>
               match Nat.beq 111 t with
               | true=>l111
               | false=>none
           | false=>
             match Nat.ble 110 t with
             | true=>
               match Nat.beq 110 t with
               | true=>l110
               | false=>none
             | false=>
               match Nat.beq 108 t with
               | true=>l108
               | false=>none
   | false =>
     match Nat.ble 90 t with
     | true=>
       match Nat.ble 98 t with
       | true=>
         match Nat.ble 102 t with
         | true=>
           match Nat.ble 104 t with
           | true=>
             match Nat.ble 106 t with
             | true=>
               match Nat.ble 107 t with
               | true=>
                 match Nat.beq 107 t with
                 | true=>l107
                 | false=>none
               | false=>
                 match Nat.beq 106 t with
                 | true=>l106
                 | false=>none
             | false=>
               match Nat.beq 104 t with
               | true=>l104
               | false=>none
           | false=>
             match Nat.ble 103 t with
             | true=>
               match Nat.beq 103 t with
               | true=>l103
               | false=>none
             | false=>
               match Nat.beq 102 t with
               | true=>l102
               | false=>none
         | false=>
           match Nat.ble 100 t with
           | true=>
             match Nat.ble 101 t with
             | true=>
               match Nat.beq 101 t with
               | true=>l101
               | false=>none
             | false=>
               match Nat.beq 100 t with
               | true=>l100
               | false=>none
           | false=>
             match Nat.ble 99 t with
             | true=>
               match Nat.beq 99 t with
               | true=>l99
               | false=>none
             | false=>
               match Nat.beq 98 t with
               | true=>l98
               | false=>none
       | false =>
         match Nat.ble 94 t with
         | true=>
           match Nat.ble 96 t with
           | true=>
             match Nat.ble 97 t with
             | true=>
               match Nat.beq 97 t with
               | true=>l97
               | false=>none
             | false=>
               match Nat.beq 96 t with
               | true=>l96
               | false=>none
           | false=>
             match Nat.ble 95 t with
             | true=>
               match Nat.beq 95 t with
               | true=>l95
               | false=>none
             | false=>
               match Nat.beq 94 t with
               | true=>l94
               | false=>none
         | false=>
           match Nat.ble 92 t with
           | true=>
             match Nat.ble 93 t with
             | true=>
               match Nat.beq 93 t with
               | true=>l93
               | false=>none
             | false=>
               match Nat.beq 92 t with
               | true=>l92
               | false=>none
           | false=>
             match Nat.ble 91 t with
             | true=>
               match Nat.beq 91 t with
               | true=>l91
               | false=>none
             | false=>
               match Nat.beq 90 t with
               | true=>l90
               | false=>none
     | false =>
       match Nat.ble 81 t with
       | true=>
         match Nat.ble 85 t with
         | true=>
           match Nat.ble 87 t with
           | true=>
             match Nat.ble 88 t with
             | true=>
               match Nat.ble 89 t with
               | true=>
                 match Nat.beq 89 t with
                 | true=>l89
                 | false=>none
               | false=>
                 match Nat.beq 88 t with
                 | true=>l88
                 | false=>none
             | false=>
               match Nat.beq 87 t with
               | true=>l87
               | false=>none
           | false=>
             match Nat.ble 86 t with
             | true=>
               match Nat.beq 86 t with
               | true=>l86
               | false=>none
             | false=>
               match Nat.beq 85 t with
               | true=>l85
               | false=>none
         | false=>
           match Nat.ble 83 t with
           | true=>
             match Nat.ble 84 t with
             | true=>
               match Nat.beq 84 t with
               | true=>l84
               | false=>none
             | false=>
               match Nat.beq 83 t with
               | true=>l83
               | false=>none
           | false=>
             match Nat.ble 82 t with
             | true=>
               match Nat.beq 82 t with
               | true=>l82
               | false=>none
             | false=>
               match Nat.beq 81 t with
               | true=>l81
               | false=>none
       | false =>
         match Nat.ble 77 t with
         | true=>
           match Nat.ble 79 t with
           | true=>
             match Nat.ble 80 t with
             | true=>
               match Nat.beq 80 t with
               | true=>l80
               | false=>none
             | false=>
               match Nat.beq 79 t with
               | true=>l79
               | false=>none
           | false=>
             match Nat.ble 78 t with
             | true=>
               match Nat.beq 78 t with
               | true=>l78
               | false=>none
             | false=>
               match Nat.beq 77 t with
               | true=>l77
               | false=>none
         | false=>
           match Nat.ble 75 t with
           | true=>
             match Nat.ble 76 t with
             | true=>
               match Nat.beq 76 t with
               | true=>l76
               | false=>none
             | false=>
               match Nat.beq 75 t with
               | true=>l75
               | false=>none
           | false=>
             match Nat.ble 74 t with
             | true=>
               match Nat.beq 74 t with
               | true=>l74
               | false=>none
             | false=>
               match Nat.beq 73 t with
               | true=>l73
               | false=>none
 | false =>
   match Nat.ble 35 t with
   | true=>
     match Nat.ble 54 t with
     | true=>
       match Nat.ble 64 t with
       | true=>
         match Nat.ble 68 t with
         | true=>
           match Nat.ble 70 t with
           | true=>
             match Nat.ble 71 t with
             | true=>
               match Nat.ble 72 t with
               | true=>
                 match Nat.beq 72 t with
                 | true=>l72
                 | false=>none
               | false=>
                 match Nat.beq 71 t with
                 | true=>l71
                 | false=>none
             | false=>
               match Nat.beq 70 t with
               | true=>l70
               | false=>none
           | false=>
             match Nat.ble 69 t with
             | true=>
               match Nat.beq 69 t with
               | true=>l69
               | false=>none
             | false=>
               match Nat.beq 68 t with
               | true=>l68
               | false=>none
         | false=>
           match Nat.ble 66 t with
           | true=>
             match Nat.ble 67 t with
             | true=>
               match Nat.beq 67 t with
               | true=>l67
               | false=>none
             | false=>
               match Nat.beq 66 t with
               | true=>l66
               | false=>none
           | false=>
             match Nat.ble 65 t with
             | true=>
               match Nat.beq 65 t with
               | true=>l65
               | false=>none
             | false=>
               match Nat.beq 64 t with
               | true=>l64
               | false=>none
       | false =>
         match Nat.ble 59 t with
         | true=>
           match Nat.ble 61 t with
           | true=>
             match Nat.ble 62 t with
             | true=>
               match Nat.ble 63 t with
               | true=>
                 match Nat.beq 63 t with
                 | true=>l63
                 | false=>none
               | false=>
                 match Nat.beq 62 t with
                 | true=>l62
                 | false=>none
             | false=>
               match Nat.beq 61 t with
               | true=>l61
               | false=>none
           | false=>
             match Nat.ble 60 t with
             | true=>
               match Nat.beq 60 t with
               | true=>l60
               | false=>none
             | false=>
               match Nat.beq 59 t with
               | true=>l59
               | false=>none
         | false=>
           match Nat.ble 57 t with
           | true=>
             match Nat.ble 58 t with
             | true=>
               match Nat.beq 58 t with
               | true=>l58
               | false=>none
             | false=>
               match Nat.beq 57 t with
               | true=>l57
               | false=>none
           | false=>
             match Nat.ble 55 t with
             | true=>
               match Nat.beq 55 t with
               | true=>l55
               | false=>none
             | false=>
               match Nat.beq 54 t with
               | true=>l54
               | false=>none
     | false =>
       match Nat.ble 44 t with
       | true=>
         match Nat.ble 49 t with
         | true=>
           match Nat.ble 51 t with
           | true=>
             match Nat.ble 52 t with
             | true=>
               match Nat.ble 53 t with
               | true=>
                 match Nat.beq 53 t with
                 | true=>l53
                 | false=>none
               | false=>
                 match Nat.beq 52 t with
                 | true=>l52
                 | false=>none
             | false=>
               match Nat.beq 51 t with
               | true=>l51
               | false=>none
           | false=>
             match Nat.ble 50 t with
             | true=>
               match Nat.beq 50 t with
               | true=>l50
               | false=>none
             | false=>
               match Nat.beq 49 t with
               | true=>l49
               | false=>none
         | false=>
           match Nat.ble 47 t with
           | true=>
             match Nat.ble 48 t with
             | true=>
               match Nat.beq 48 t with
               | true=>l48
               | false=>none
             | false=>
               match Nat.beq 47 t with
               | true=>l47
               | false=>none
           | false=>
             match Nat.ble 46 t with
             | true=>
               match Nat.beq 46 t with
               | true=>l46
               | false=>none
             | false=>
               match Nat.beq 44 t with
               | true=>l44
               | false=>none
       | false =>
         match Nat.ble 40 t with
         | true=>
           match Nat.ble 42 t with
           | true=>
             match Nat.ble 43 t with
             | true=>
               match Nat.beq 43 t with
               | true=>l43
               | false=>none
             | false=>
               match Nat.beq 42 t with
               | true=>l42
               | false=>none
           | false=>
             match Nat.ble 41 t with
             | true=>
               match Nat.beq 41 t with
               | true=>l41
               | false=>none
             | false=>
               match Nat.beq 40 t with
               | true=>l40
               | false=>none
         | false=>
           match Nat.ble 37 t with
           | true=>
             match Nat.ble 38 t with
             | true=>
               match Nat.beq 38 t with
               | true=>l38
               | false=>none
             | false=>
               match Nat.beq 37 t with
               | true=>l37
               | false=>none
           | false=>
             match Nat.ble 36 t with
             | true=>
               match Nat.beq 36 t with
               | true=>l36
               | false=>none
             | false=>
               match Nat.beq 35 t with
               | true=>l35
               | false=>none
   | false =>
     match Nat.ble 18 t with
     | true=>
       match Nat.ble 26 t with
       | true=>
         match Nat.ble 30 t with
         | true=>
           match Nat.ble 32 t with
           | true=>
             match Nat.ble 33 t with
             | true=>
               match Nat.ble 34 t with
               | true=>
                 match Nat.beq 34 t with
                 | true=>l34
                 | false=>none
               | false=>
                 match Nat.beq 33 t with
                 | true=>l33
                 | false=>none
             | false=>
               match Nat.beq 32 t with
               | true=>l32
               | false=>none
           | false=>
             match Nat.ble 31 t with
             | true=>
               match Nat.beq 31 t with
               | true=>l31
               | false=>none
             | false=>
               match Nat.beq 30 t with
               | true=>l30
               | false=>none
         | false=>
           match Nat.ble 28 t with
           | true=>
             match Nat.ble 29 t with
             | true=>
               match Nat.beq 29 t with
               | true=>l29
               | false=>none
             | false=>
               match Nat.beq 28 t with
               | true=>l28
               | false=>none
           | false=>
             match Nat.ble 27 t with
             | true=>
               match Nat.beq 27 t with
               | true=>l27
               | false=>none
             | false=>
               match Nat.beq 26 t with
               | true=>l26
               | false=>none
       | false =>
         match Nat.ble 22 t with
         | true=>
           match Nat.ble 24 t with
           | true=>
             match Nat.ble 25 t with
             | true=>
               match Nat.beq 25 t with
               | true=>l25
               | false=>none
             | false=>
               match Nat.beq 24 t with
               | true=>l24
               | false=>none
           | false=>
             match Nat.ble 23 t with
             | true=>
               match Nat.beq 23 t with
               | true=>l23
               | false=>none
             | false=>
               match Nat.beq 22 t with
               | true=>l22
               | false=>none
         | false=>
           match Nat.ble 20 t with
           | true=>
             match Nat.ble 21 t with
             | true=>
               match Nat.beq 21 t with
               | true=>l21
               | false=>none
             | false=>
               match Nat.beq 20 t with
               | true=>l20
               | false=>none
           | false=>
             match Nat.ble 19 t with
             | true=>
               match Nat.beq 19 t with
               | true=>l19
               | false=>none
             | false=>
               match Nat.beq 18 t with
               | true=>l18
               | false=>none
     | false =>
       match Nat.ble 9 t with
       | true=>
         match Nat.ble 13 t with
         | true=>
           match Nat.ble 15 t with
           | true=>
             match Nat.ble 16 t with
             | true=>
               match Nat.ble 17 t with
               | true=>
                 match Nat.beq 17 t with
                 | true=>l17
                 | false=>none
               | false=>
                 match Nat.beq 16 t with
                 | true=>l16
                 | false=>none
             | false=>
               match Nat.beq 15 t with
               | true=>l15
               | false=>none
           | false=>
             match Nat.ble 14 t with
             | true=>
               match Nat.beq 14 t with
               | true=>l14
               | false=>none
             | false=>
               match Nat.beq 13 t with
               | true=>l13
               | false=>none
         | false=>
           match Nat.ble 11 t with
           | true=>
             match Nat.ble 12 t with
             | true=>
               match Nat.beq 12 t with
               | true=>l12
               | false=>none
             | false=>
               match Nat.beq 11 t with
               | true=>l11
               | false=>none
           | false=>
             match Nat.ble 10 t with
             | true=>
               match Nat.beq 10 t with
               | true=>l10
               | false=>none
             | false=>
               match Nat.beq 9 t with
               | true=>l9
               | false=>none
       | false =>
         match Nat.ble 5 t with
         | true=>
           match Nat.ble 7 t with
           | true=>
             match Nat.ble 8 t with
             | true=>
               match Nat.beq 8 t with
               | true=>l8
               | false=>none
             | false=>
               match Nat.beq 7 t with
               | true=>l7
               | false=>none
           | false=>
             match Nat.ble 6 t with
             | true=>
               match Nat.beq 6 t with
               | true=>l6
               | false=>none
             | false=>
               match Nat.beq 5 t with
               | true=>l5
               | false=>none
         | false=>
           match Nat.ble 3 t with
           | true=>
             match Nat.ble 4 t with
             | true=>
               match Nat.beq 4 t with
               | true=>l4
               | false=>none
             | false=>
               match Nat.beq 3 t with
               | true=>l3
               | false=>none
           | false=>
             match Nat.ble 2 t with
             | true=>
               match Nat.beq 2 t with
               | true=>l2
               | false=>none
             | false=>
               match Nat.beq 1 t with
               | true=>l1
               | false=>none
end Ly
def lay (t:TypeId):Option Lt:=
 match Nat.blt t 146 with
 | true=>Ly.lay t
 | false=>none
theorem lay_ok:LayOk Tryd.prog lay:=layOk_fn 146 lay (fun t h=>by unfold lay;rw [blt_no h]) (by kernel_rfl)
end Ab
end Go.Proofs.YtbpihhelojjedaaDoor
