/- Texts that the proof leans on. -/
import Derived.Test.YtpplemjjeefpdaaGreatDoorProg
import Derived.Test.YtpplemjjeefpdaaGreatDoorK201
set_option linter.unusedVariables false
set_option linter.unusedSimpArgs false
set_option maxRecDepth 100000
set_option maxHeartbeats 4000000
namespace Go.Proofs.YtpplemjjeefpdaaGreatDoor
open Go
namespace Ab
namespace Ly
def l1:Option Lt:=some {size:=1,bytes:=8,zero:=[.nilFunc]}
def l2:Option Lt:=some {ik:=some .i64,size:=1,bytes:=8,zero:=[.int .i64 0]}
def l3:Option Lt:=some {ik:=some .i64,size:=1,bytes:=8,zero:=[.int .i64 0]}
def l4:Option Lt:=some {kind:=5,size:=1,bytes:=1,zero:=[.bool false]}
def l5:Option Lt:=some {ik:=some .u8,size:=1,bytes:=1,zero:=[.int .u8 0]}
def l6:Option Lt:=some {ik:=some .u8,size:=1,bytes:=1,zero:=[.int .u8 0]}
def l7:Option Lt:=some {kind:=1,parts:=[(0,1,false),(1,1,false),(2,1,false),(3,1,false)],size:=4,bytes:=24,zero:=[.int .i64 0,.int .i64 0,.bool false,.int .u8 0]}
def l8:Option Lt:=some {kind:=1,parts:=[(0,1,false),(1,1,false),(2,1,false),(3,1,false)],size:=4,bytes:=24,zero:=[.int .i64 0,.int .i64 0,.bool false,.int .u8 0]}
def l9:Option Lt:=some {kind:=4,size:=1,bytes:=16,zero:=[.string ByteArray.empty]}
def l10:Option Lt:=some {kind:=4,size:=1,bytes:=16,zero:=[.string ByteArray.empty]}
def l11:Option Lt:=some {kind:=4,size:=1,bytes:=16,zero:=[.string ByteArray.empty]}
def l12:Option Lt:=some {ik:=some .u64,size:=1,bytes:=8,zero:=[.int .u64 0]}
def l13:Option Lt:=some {kind:=1,parts:=[(0,1,false),(1,1,false)],size:=2,bytes:=24,zero:=[.string ByteArray.empty,.int .u64 0]}
def l14:Option Lt:=some {kind:=1,parts:=[(0,1,false),(1,1,false)],size:=2,bytes:=24,zero:=[.string ByteArray.empty,.int .u64 0]}
def l15:Option Lt:=some {size:=1,bytes:=8,zero:=[.pointer none]}
def l16:Option Lt:=some {size:=1,bytes:=8,zero:=[.pointer none]}
def l17:Option Lt:=some {size:=1,bytes:=8,zero:=[.pointer none]}
def l18:Option Lt:=some {kind:=1,parts:=[(0,1,false)],size:=1,bytes:=8,zero:=[.pointer none]}
def l19:Option Lt:=some {kind:=1,parts:=[(0,1,false)],size:=1,bytes:=8,zero:=[.pointer none]}
def l20:Option Lt:=some {size:=1,bytes:=16,zero:=[.nilIface]}
def l21:Option Lt:=some {ik:=some .i32,size:=1,bytes:=4,zero:=[.int .i32 0]}
def l22:Option Lt:=some {kind:=3,elem:=46,size:=1,bytes:=24,zero:=[.slice none 0 0]}
def l23:Option Lt:=some {size:=1,bytes:=8,zero:=[.nilFunc]}
def l24:Option Lt:=some {size:=1,bytes:=8,zero:=[.nilFunc]}
def l25:Option Lt:=some {ik:=some .i64,size:=1,bytes:=8,zero:=[.int .i64 0]}
def l26:Option Lt:=some {kind:=1,parts:=[(0,1,false),(1,1,false)],ck:=some [.i .i64,.i .i64],size:=2,bytes:=16,zero:=[.int .i64 0,.int .i64 0]}
def l27:Option Lt:=some {kind:=1,parts:=[(0,1,false),(1,1,false)],ck:=some [.i .i64,.i .i64],size:=2,bytes:=16,zero:=[.int .i64 0,.int .i64 0]}
def l29:Option Lt:=some {size:=1,bytes:=8,zero:=[.nilFunc]}
def l31:Option Lt:=some {size:=1,bytes:=8,zero:=[.nilFunc]}
def l32:Option Lt:=some {size:=1,bytes:=8,zero:=[.nilFunc]}
def l33:Option Lt:=some {size:=1,bytes:=8,zero:=[.nilFunc]}
def l34:Option Lt:=some {size:=1,bytes:=8,zero:=[.nilFunc]}
def l35:Option Lt:=some {kind:=3,elem:=48,size:=1,bytes:=24,zero:=[.slice none 0 0]}
def l36:Option Lt:=some {size:=1,bytes:=8,zero:=[.nilFunc]}
def l37:Option Lt:=some {size:=1,bytes:=8,zero:=[.nilFunc]}
def l38:Option Lt:=some {size:=1,bytes:=8,zero:=[.nilFunc]}
def l39:Option Lt:=some {kind:=3,elem:=9,size:=1,bytes:=24,zero:=[.slice none 0 0]}
def l40:Option Lt:=some {size:=1,bytes:=8,zero:=[.nilFunc]}
def l41:Option Lt:=some {size:=1,bytes:=8,zero:=[.nilFunc]}
def l42:Option Lt:=some {size:=1,bytes:=8,zero:=[.nilFunc]}
def l43:Option Lt:=some {size:=1,bytes:=8,zero:=[.nilFunc]}
def l44:Option Lt:=some {size:=1,bytes:=8,zero:=[.nilFunc]}
def l45:Option Lt:=some {kind:=1,parts:=[(0,1,false),(1,1,false),(2,1,false)],ck:=some [.s,.i .i64,.s],size:=3,bytes:=40,zero:=[.string ByteArray.empty,.int .i64 0,.string ByteArray.empty]}
def l46:Option Lt:=some {kind:=1,parts:=[(0,1,false),(1,1,false),(2,1,false)],ck:=some [.s,.i .i64,.s],size:=3,bytes:=40,zero:=[.string ByteArray.empty,.int .i64 0,.string ByteArray.empty]}
def l47:Option Lt:=some {kind:=1,parts:=[(0,1,false),(1,1,false)],ck:=some [.s,.s],size:=2,bytes:=32,zero:=[.string ByteArray.empty,.string ByteArray.empty]}
def l48:Option Lt:=some {kind:=1,parts:=[(0,1,false),(1,1,false)],ck:=some [.s,.s],size:=2,bytes:=32,zero:=[.string ByteArray.empty,.string ByteArray.empty]}
def l49:Option Lt:=some {size:=1,bytes:=8,zero:=[.nilFunc]}
def l50:Option Lt:=some {size:=1,bytes:=8,zero:=[.nilFunc]}
def l52:Option Lt:=some {size:=1,bytes:=8,zero:=[.nilFunc]}
def l53:Option Lt:=some {size:=1,bytes:=8,zero:=[.nilFunc]}
def l54:Option Lt:=some {size:=1,bytes:=8,zero:=[.pointer none]}
def l55:Option Lt:=some {kind:=3,elem:=5,size:=1,bytes:=24,zero:=[.slice none 0 0]}
def l56:Option Lt:=some {kind:=1,parts:=[(0,1,false),(1,1,false)],size:=2,bytes:=32,zero:=[.pointer none,.slice none 0 0]}
def l57:Option Lt:=some {kind:=1,parts:=[(0,1,false),(1,1,false)],size:=2,bytes:=32,zero:=[.pointer none,.slice none 0 0]}
def l58:Option Lt:=some {size:=1,bytes:=16,zero:=[.nilIface]}
def l59:Option Lt:=some {size:=1,bytes:=16,zero:=[.nilIface]}
def l61:Option Lt:=some {size:=1,bytes:=8,zero:=[.nilFunc]}
def l62:Option Lt:=some {size:=1,bytes:=8,zero:=[.nilFunc]}
def l63:Option Lt:=some {size:=1,bytes:=8,zero:=[.nilFunc]}
def l64:Option Lt:=some {size:=1,bytes:=8,zero:=[.nilFunc]}
def l65:Option Lt:=some {size:=1,bytes:=8,zero:=[.nilFunc]}
def l66:Option Lt:=some {size:=1,bytes:=8,zero:=[.nilFunc]}
def l67:Option Lt:=some {size:=1,bytes:=8,zero:=[.nilFunc]}
def l68:Option Lt:=some {size:=1,bytes:=8,zero:=[.nilFunc]}
def l69:Option Lt:=some {size:=1,bytes:=8,zero:=[.nilFunc]}
def l70:Option Lt:=some {size:=1,bytes:=8,zero:=[.nilFunc]}
def l71:Option Lt:=some {size:=1,bytes:=8,zero:=[.nilFunc]}
def l72:Option Lt:=some {size:=1,bytes:=8,zero:=[.nilFunc]}
def l73:Option Lt:=some {size:=1,bytes:=8,zero:=[.nilFunc]}
def l74:Option Lt:=some {size:=1,bytes:=8,zero:=[.nilFunc]}
def l75:Option Lt:=some {size:=1,bytes:=8,zero:=[.nilFunc]}
def l76:Option Lt:=some {ik:=some .u64,size:=1,bytes:=8,zero:=[.int .u64 0]}
def l77:Option Lt:=some {kind:=2,len:=4,elem:=76,ck:=some [.i .u64,.i .u64,.i .u64,.i .u64],size:=4,bytes:=32,zero:=[.int .u64 0,.int .u64 0,.int .u64 0,.int .u64 0]}
def l78:Option Lt:=some {kind:=2,len:=4,elem:=76,ck:=some [.i .u64,.i .u64,.i .u64,.i .u64],size:=4,bytes:=32,zero:=[.int .u64 0,.int .u64 0,.int .u64 0,.int .u64 0]}
def l79:Option Lt:=some {kind:=3,elem:=81,size:=1,bytes:=24,zero:=[.slice none 0 0]}
def l80:Option Lt:=some {kind:=1,parts:=[(0,1,false),(1,4,true),(5,1,false),(6,1,false),(7,1,false)],size:=8,bytes:=80,zero:=[.int .i64 0,.int .u64 0,.int .u64 0,.int .u64 0,.int .u64 0,.slice none 0 0,.int .i64 0,.int .i64 0]}
def l81:Option Lt:=some {kind:=1,parts:=[(0,1,false),(1,4,true),(5,1,false),(6,1,false),(7,1,false)],size:=8,bytes:=80,zero:=[.int .i64 0,.int .u64 0,.int .u64 0,.int .u64 0,.int .u64 0,.slice none 0 0,.int .i64 0,.int .i64 0]}
def l83:Option Lt:=some {size:=1,bytes:=8,zero:=[.nilFunc]}
def l84:Option Lt:=some {size:=1,bytes:=8,zero:=[.nilFunc]}
def l86:Option Lt:=some {size:=1,bytes:=8,zero:=[.nilFunc]}
def l87:Option Lt:=some {size:=1,bytes:=8,zero:=[.nilFunc]}
def l89:Option Lt:=some {size:=1,bytes:=8,zero:=[.nilFunc]}
def l90:Option Lt:=some {size:=1,bytes:=8,zero:=[.nilFunc]}
def l92:Option Lt:=some {size:=1,bytes:=8,zero:=[.nilFunc]}
def l93:Option Lt:=some {size:=1,bytes:=8,zero:=[.nilFunc]}
def l94:Option Lt:=some {size:=1,bytes:=8,zero:=[.nilFunc]}
def l95:Option Lt:=some {size:=1,bytes:=8,zero:=[.nilFunc]}
def l96:Option Lt:=some {size:=1,bytes:=8,zero:=[.pointer none]}
def l98:Option Lt:=some {size:=1,bytes:=8,zero:=[.nilFunc]}
def l99:Option Lt:=some {size:=1,bytes:=8,zero:=[.nilFunc]}
def l100:Option Lt:=some {size:=1,bytes:=8,zero:=[.nilFunc]}
def l101:Option Lt:=some {size:=1,bytes:=8,zero:=[.nilFunc]}
def l102:Option Lt:=some {size:=1,bytes:=8,zero:=[.nilFunc]}
def l103:Option Lt:=some {size:=1,bytes:=8,zero:=[.nilFunc]}
def l104:Option Lt:=some {ik:=some .u64,size:=1,bytes:=8,zero:=[.int .u64 0]}
def l105:Option Lt:=some {size:=1,bytes:=8,zero:=[.nilFunc]}
def l106:Option Lt:=some {size:=1,bytes:=8,zero:=[.nilFunc]}
def l107:Option Lt:=some {size:=1,bytes:=8,zero:=[.nilFunc]}
def l108:Option Lt:=some {kind:=1,parts:=[(0,8,true),(8,4,true),(12,1,false),(13,1,false),(14,2,true)],size:=16,bytes:=144,zero:=[.int .i64 0,.int .u64 0,.int .u64 0,.int .u64 0,.int .u64 0,.slice none 0 0,.int .i64 0,.int .i64 0,.int .u64 0,.int .u64 0,.int .u64 0,.int .u64 0,.bool false,.int .i64 0,.int .i64 0,.int .i64 0]}
def l109:Option Lt:=some {kind:=1,parts:=[(0,8,true),(8,4,true),(12,1,false),(13,1,false),(14,2,true)],size:=16,bytes:=144,zero:=[.int .i64 0,.int .u64 0,.int .u64 0,.int .u64 0,.int .u64 0,.slice none 0 0,.int .i64 0,.int .i64 0,.int .u64 0,.int .u64 0,.int .u64 0,.int .u64 0,.bool false,.int .i64 0,.int .i64 0,.int .i64 0]}
def l110:Option Lt:=some {size:=1,bytes:=8,zero:=[.nilFunc]}
def l111:Option Lt:=some {size:=1,bytes:=8,zero:=[.nilFunc]}
def l112:Option Lt:=some {size:=1,bytes:=8,zero:=[.nilFunc]}
def l113:Option Lt:=some {size:=1,bytes:=8,zero:=[.nilFunc]}
def l114:Option Lt:=some {kind:=2,len:=4,elem:=3,ck:=some [.i .i64,.i .i64,.i .i64,.i .i64],size:=4,bytes:=32,zero:=[.int .i64 0,.int .i64 0,.int .i64 0,.int .i64 0]}
def l116:Option Lt:=some {size:=1,bytes:=8,zero:=[.nilFunc]}
def l118:Option Lt:=some {size:=1,bytes:=8,zero:=[.nilFunc]}
def l119:Option Lt:=some {size:=1,bytes:=8,zero:=[.nilFunc]}
def l120:Option Lt:=some {size:=1,bytes:=8,zero:=[.nilFunc]}
def l121:Option Lt:=some {size:=1,bytes:=8,zero:=[.nilFunc]}
def l123:Option Lt:=some {size:=1,bytes:=8,zero:=[.nilFunc]}
def l124:Option Lt:=some {size:=1,bytes:=8,zero:=[.nilFunc]}
def l125:Option Lt:=some {size:=1,bytes:=8,zero:=[.nilFunc]}
def l126:Option Lt:=some {kind:=4,size:=1,bytes:=16,zero:=[.string ByteArray.empty]}
def l127:Option Lt:=some {kind:=1,parts:=[(0,8,true)],size:=8,bytes:=80,zero:=[.int .i64 0,.int .u64 0,.int .u64 0,.int .u64 0,.int .u64 0,.slice none 0 0,.int .i64 0,.int .i64 0]}
def l128:Option Lt:=some {kind:=1,parts:=[(0,8,true)],size:=8,bytes:=80,zero:=[.int .i64 0,.int .u64 0,.int .u64 0,.int .u64 0,.int .u64 0,.slice none 0 0,.int .i64 0,.int .i64 0]}
def l129:Option Lt:=some {size:=1,bytes:=16,zero:=[.nilIface]}
def l130:Option Lt:=some {size:=1,bytes:=16,zero:=[.nilIface]}
def l132:Option Lt:=some {size:=1,bytes:=8,zero:=[.nilFunc]}
def l133:Option Lt:=some {size:=1,bytes:=8,zero:=[.nilFunc]}
def l134:Option Lt:=some {size:=1,bytes:=8,zero:=[.nilFunc]}
def l135:Option Lt:=some {size:=1,bytes:=8,zero:=[.nilFunc]}
def l136:Option Lt:=some {ik:=some .i64,size:=1,bytes:=8,zero:=[.int .i64 0]}
def l138:Option Lt:=some {size:=1,bytes:=8,zero:=[.nilFunc]}
def l139:Option Lt:=some {size:=1,bytes:=8,zero:=[.nilFunc]}
def l140:Option Lt:=some {size:=1,bytes:=8,zero:=[.nilFunc]}
def l142:Option Lt:=some {size:=1,bytes:=8,zero:=[.nilFunc]}
def l143:Option Lt:=some {size:=1,bytes:=8,zero:=[.nilFunc]}
def l144:Option Lt:=some {ik:=some .u32,size:=1,bytes:=4,zero:=[.int .u32 0]}
def l145:Option Lt:=some {size:=1,bytes:=8,zero:=[.nilFunc]}
def l146:Option Lt:=some {kind:=3,elem:=3,size:=1,bytes:=24,zero:=[.slice none 0 0]}
def l147:Option Lt:=some {size:=1,bytes:=8,zero:=[.nilFunc]}
def l148:Option Lt:=some {size:=1,bytes:=8,zero:=[.nilFunc]}
def l149:Option Lt:=some {size:=1,bytes:=8,zero:=[.nilFunc]}
def l150:Option Lt:=some {size:=1,bytes:=8,zero:=[.nilFunc]}
def l151:Option Lt:=some {size:=1,bytes:=8,zero:=[.nilFunc]}
def l152:Option Lt:=some {size:=1,bytes:=8,zero:=[.nilFunc]}
def l153:Option Lt:=some {size:=1,bytes:=8,zero:=[.nilFunc]}
def l154:Option Lt:=some {size:=1,bytes:=8,zero:=[.nilFunc]}
def l155:Option Lt:=some {size:=1,bytes:=8,zero:=[.nilFunc]}
def l156:Option Lt:=some {size:=1,bytes:=8,zero:=[.nilFunc]}
def l157:Option Lt:=some {size:=1,bytes:=8,zero:=[.nilFunc]}
def l158:Option Lt:=some {size:=1,bytes:=8,zero:=[.nilFunc]}
def l159:Option Lt:=some {kind:=1,parts:=[(0,2,true)],size:=2,bytes:=16,zero:=[.int .i64 0,.int .i64 0]}
def l160:Option Lt:=some {kind:=1,parts:=[(0,2,true)],size:=2,bytes:=16,zero:=[.int .i64 0,.int .i64 0]}
def l161:Option Lt:=some {size:=1,bytes:=8,zero:=[.pointer none]}
def l162:Option Lt:=some {kind:=1,parts:=[(0,1,false),(1,1,false),(2,1,false)],ck:=some [.s,.i .i64,.i .i64],size:=3,bytes:=32,zero:=[.string ByteArray.empty,.int .i64 0,.int .i64 0]}
def l163:Option Lt:=some {kind:=1,parts:=[(0,1,false),(1,1,false),(2,1,false)],ck:=some [.s,.i .i64,.i .i64],size:=3,bytes:=32,zero:=[.string ByteArray.empty,.int .i64 0,.int .i64 0]}
def l164:Option Lt:=some {size:=1,bytes:=8,zero:=[.nilFunc]}
def l165:Option Lt:=some {size:=1,bytes:=8,zero:=[.nilFunc]}
def l166:Option Lt:=some {kind:=3,elem:=4,size:=1,bytes:=24,zero:=[.slice none 0 0]}
def l167:Option Lt:=some {size:=1,bytes:=8,zero:=[.nilFunc]}
def l168:Option Lt:=some {ik:=some .u64,size:=1,bytes:=8,zero:=[.int .u64 0]}
def l169:Option Lt:=some {size:=1,bytes:=8,zero:=[.nilFunc]}
def l170:Option Lt:=some {size:=1,bytes:=8,zero:=[.nilFunc]}
def l171:Option Lt:=some {size:=1,bytes:=8,zero:=[.nilFunc]}
def l172:Option Lt:=some {size:=1,bytes:=8,zero:=[.pointer none]}
def l173:Option Lt:=some {size:=1,bytes:=8,zero:=[.nilFunc]}
def l174:Option Lt:=some {size:=1,bytes:=8,zero:=[.nilFunc]}
def l175:Option Lt:=some {size:=1,bytes:=8,zero:=[.nilFunc]}
def l176:Option Lt:=some {kind:=2,len:=256,elem:=5,size:=256,bytes:=256,zero:=[.int .u8 0,.int .u8 0,.int .u8 0,.int .u8 0,.int .u8 0,.int .u8 0,.int .u8 0,.int .u8 0,.int .u8 0,.int .u8 0,.int .u8 0,.int .u8 0,.int .u8 0,.int .u8 0,.int .u8 0,.int .u8 0,.int .u8 0,.int .u8 0,.int .u8 0,.int .u8 0,.int .u8 0,.int .u8 0,.int .u8 0,.int .u8 0,.int .u8 0,.int .u8 0,.int .u8 0,.int .u8 0,.int .u8 0,.int .u8 0,.int .u8 0,.int .u8 0,.int .u8 0,.int .u8 0,.int .u8 0,.int .u8 0,.int .u8 0,.int .u8 0,.int .u8 0,.int .u8 0,.int .u8 0,.int .u8 0,.int .u8 0,.int .u8 0,.int .u8 0,.int .u8 0,.int .u8 0,.int .u8 0,.int .u8 0,.int .u8 0,.int .u8 0,.int .u8 0,.int .u8 0,.int .u8 0,.int .u8 0,.int .u8 0,.int .u8 0,.int .u8 0,.int .u8 0,.int .u8 0,.int .u8 0,.int .u8 0,.int .u8 0,.int .u8 0,.int .u8 0,.int .u8 0,.int .u8 0,.int .u8 0,.int .u8 0,.int .u8 0,.int .u8 0,.int .u8 0,.int .u8 0,.int .u8 0,.int .u8 0,.int .u8 0,.int .u8 0,.int .u8 0,.int .u8 0,.int .u8 0,.int .u8 0,.int .u8 0,.int .u8 0,.int .u8 0,.int .u8 0,.int .u8 0,.int .u8 0,.int .u8 0,.int .u8 0,.int .u8 0,.int .u8 0,.int .u8 0,.int .u8 0,.int .u8 0,.int .u8 0,.int .u8 0,.int .u8 0,.int .u8 0,.int .u8 0,.int .u8 0,.int .u8 0,.int .u8 0,.int .u8 0,.int .u8 0,.int .u8 0,.int .u8 0,.int .u8 0,.int .u8 0,.int .u8 0,.int .u8 0,.int .u8 0,.int .u8 0,.int .u8 0,.int .u8 0,.int .u8 0,.int .u8 0,.int .u8 0,.int .u8 0,.int .u8 0,.int .u8 0,.int .u8 0,.int .u8 0,.int .u8 0,.int .u8 0,.int .u8 0,.int .u8 0,.int .u8 0,.int .u8 0,.int .u8 0,.int .u8 0,.int .u8 0,.int .u8 0,.int .u8 0,.int .u8 0,.int .u8 0,.int .u8 0,.int .u8 0,.int .u8 0,.int .u8 0,.int .u8 0,.int .u8 0,.int .u8 0,.int .u8 0,.int .u8 0,.int .u8 0,.int .u8 0,.int .u8 0,.int .u8 0,.int .u8 0,.int .u8 0,.int .u8 0,.int .u8 0,.int .u8 0,.int .u8 0,.int .u8 0,.int .u8 0,.int .u8 0,.int .u8 0,.int .u8 0,.int .u8 0,.int .u8 0,.int .u8 0,.int .u8 0,.int .u8 0,.int .u8 0,.int .u8 0,.int .u8 0,.int .u8 0,.int .u8 0,.int .u8 0,.int .u8 0,.int .u8 0,.int .u8 0,.int .u8 0,.int .u8 0,.int .u8 0,.int .u8 0,.int .u8 0,.int .u8 0,.int .u8 0,.int .u8 0,.int .u8 0,.int .u8 0,.int .u8 0,.int .u8 0,.int .u8 0,.int .u8 0,.int .u8 0,.int .u8 0,.int .u8 0,.int .u8 0,.int .u8 0,.int .u8 0,.int .u8 0,.int .u8 0,.int .u8 0,.int .u8 0,.int .u8 0,.int .u8 0,.int .u8 0,.int .u8 0,.int .u8 0,.int .u8 0,.int .u8 0,.int .u8 0,.int .u8 0,.int .u8 0,.int .u8 0,.int .u8 0,.int .u8 0,.int .u8 0,.int .u8 0,.int .u8 0,.int .u8 0,.int .u8 0,.int .u8 0,.int .u8 0,.int .u8 0,.int .u8 0,.int .u8 0,.int .u8 0,.int .u8 0,.int .u8 0,.int .u8 0,.int .u8 0,.int .u8 0,.int .u8 0,.int .u8 0,.int .u8 0,.int .u8 0,.int .u8 0,.int .u8 0,.int .u8 0,.int .u8 0,.int .u8 0,.int .u8 0,.int .u8 0,.int .u8 0,.int .u8 0,.int .u8 0,.int .u8 0,.int .u8 0,.int .u8 0,.int .u8 0,.int .u8 0,.int .u8 0,.int .u8 0,.int .u8 0,.int .u8 0,.int .u8 0,.int .u8 0,.int .u8 0,.int .u8 0,.int .u8 0,.int .u8 0,.int .u8 0]}
def l177:Option Lt:=some {kind:=1,parts:=[(0,1,false),(1,1,false)],size:=2,bytes:=2,zero:=[.int .u8 0,.int .u8 0]}
def l178:Option Lt:=some {kind:=1,parts:=[(0,1,false),(1,1,false)],size:=2,bytes:=2,zero:=[.int .u8 0,.int .u8 0]}
def l179:Option Lt:=some {kind:=2,len:=16,elem:=178,size:=32,bytes:=32,zero:=[.int .u8 0,.int .u8 0,.int .u8 0,.int .u8 0,.int .u8 0,.int .u8 0,.int .u8 0,.int .u8 0,.int .u8 0,.int .u8 0,.int .u8 0,.int .u8 0,.int .u8 0,.int .u8 0,.int .u8 0,.int .u8 0,.int .u8 0,.int .u8 0,.int .u8 0,.int .u8 0,.int .u8 0,.int .u8 0,.int .u8 0,.int .u8 0,.int .u8 0,.int .u8 0,.int .u8 0,.int .u8 0,.int .u8 0,.int .u8 0,.int .u8 0,.int .u8 0]}
def l180:Option Lt:=some {size:=1,bytes:=8,zero:=[.nilFunc]}
def l181:Option Lt:=some {size:=1,bytes:=8,zero:=[.nilFunc]}
def l182:Option Lt:=some {size:=1,bytes:=8,zero:=[.nilFunc]}
def l183:Option Lt:=some {size:=1,bytes:=8,zero:=[.nilFunc]}
def l184:Option Lt:=some {size:=1,bytes:=8,zero:=[.nilFunc]}
def l185:Option Lt:=some {size:=1,bytes:=8,zero:=[.pointer none]}
def l187:Option Lt:=some {size:=1,bytes:=8,zero:=[.nilFunc]}
def l188:Option Lt:=some {size:=1,bytes:=8,zero:=[.nilFunc]}
def l189:Option Lt:=some {size:=1,bytes:=8,zero:=[.nilFunc]}
def l190:Option Lt:=some {size:=1,bytes:=8,zero:=[.nilFunc]}
def l191:Option Lt:=some {size:=1,bytes:=8,zero:=[.nilFunc]}
def l192:Option Lt:=some {size:=1,bytes:=8,zero:=[.nilFunc]}
def l194:Option Lt:=some {size:=1,bytes:=8,zero:=[.nilFunc]}
def l195:Option Lt:=some {size:=1,bytes:=8,zero:=[.nilFunc]}
def l196:Option Lt:=some {size:=1,bytes:=8,zero:=[.nilFunc]}
def l197:Option Lt:=some {size:=1,bytes:=8,zero:=[.nilFunc]}
def l198:Option Lt:=some {size:=1,bytes:=8,zero:=[.nilFunc]}
def l199:Option Lt:=some {size:=1,bytes:=8,zero:=[.nilFunc]}
def l200:Option Lt:=some {size:=1,bytes:=8,zero:=[.nilFunc]}
def l201:Option Lt:=some {size:=1,bytes:=8,zero:=[.nilFunc]}
def l203:Option Lt:=some {size:=1,bytes:=8,zero:=[.nilFunc]}
def l204:Option Lt:=some {size:=1,bytes:=8,zero:=[.nilFunc]}
def l205:Option Lt:=some {size:=1,bytes:=8,zero:=[.nilFunc]}
def l206:Option Lt:=some {kind:=2,len:=64,elem:=5,size:=64,bytes:=64,zero:=[.int .u8 0,.int .u8 0,.int .u8 0,.int .u8 0,.int .u8 0,.int .u8 0,.int .u8 0,.int .u8 0,.int .u8 0,.int .u8 0,.int .u8 0,.int .u8 0,.int .u8 0,.int .u8 0,.int .u8 0,.int .u8 0,.int .u8 0,.int .u8 0,.int .u8 0,.int .u8 0,.int .u8 0,.int .u8 0,.int .u8 0,.int .u8 0,.int .u8 0,.int .u8 0,.int .u8 0,.int .u8 0,.int .u8 0,.int .u8 0,.int .u8 0,.int .u8 0,.int .u8 0,.int .u8 0,.int .u8 0,.int .u8 0,.int .u8 0,.int .u8 0,.int .u8 0,.int .u8 0,.int .u8 0,.int .u8 0,.int .u8 0,.int .u8 0,.int .u8 0,.int .u8 0,.int .u8 0,.int .u8 0,.int .u8 0,.int .u8 0,.int .u8 0,.int .u8 0,.int .u8 0,.int .u8 0,.int .u8 0,.int .u8 0,.int .u8 0,.int .u8 0,.int .u8 0,.int .u8 0,.int .u8 0,.int .u8 0,.int .u8 0,.int .u8 0]}
def l207:Option Lt:=some {kind:=1,parts:=[(0,1,false),(1,1,false),(2,1,false),(3,1,false)],size:=4,bytes:=40,zero:=[.pointer none,.pointer none,.pointer none,.string ByteArray.empty]}
def l208:Option Lt:=some {kind:=1,parts:=[(0,1,false),(1,1,false),(2,1,false),(3,1,false)],size:=4,bytes:=40,zero:=[.pointer none,.pointer none,.pointer none,.string ByteArray.empty]}
def l209:Option Lt:=some {kind:=2,len:=0,elem:=16,size:=0,bytes:=0,zero:=[]}
def l210:Option Lt:=some {kind:=1,parts:=[(0,0,true)],size:=0,bytes:=0,zero:=[]}
def l211:Option Lt:=some {kind:=1,parts:=[(0,0,true)],size:=0,bytes:=0,zero:=[]}
def l212:Option Lt:=some {ik:=some .u8,size:=1,bytes:=1,zero:=[.int .u8 0]}
def l213:Option Lt:=some {ik:=some .u8,size:=1,bytes:=1,zero:=[.int .u8 0]}
def l214:Option Lt:=some {size:=1,bytes:=8,zero:=[.nilFunc]}
def l215:Option Lt:=some {ik:=some .i32,size:=1,bytes:=4,zero:=[.int .i32 0]}
def l216:Option Lt:=some {ik:=some .i32,size:=1,bytes:=4,zero:=[.int .i32 0]}
def l217:Option Lt:=some {kind:=1,parts:=[(0,1,false),(1,1,false),(2,1,false),(3,1,false),(4,1,false),(5,1,false),(6,1,false),(7,1,false),(8,1,false),(9,1,false),(10,1,false)],size:=11,bytes:=48,zero:=[.int .u64 0,.int .u64 0,.int .u32 0,.int .u8 0,.int .u8 0,.int .u8 0,.int .u8 0,.nilFunc,.pointer none,.int .i32 0,.int .i32 0]}
def l218:Option Lt:=some {kind:=1,parts:=[(0,1,false),(1,1,false),(2,1,false),(3,1,false),(4,1,false),(5,1,false),(6,1,false),(7,1,false),(8,1,false),(9,1,false),(10,1,false)],size:=11,bytes:=48,zero:=[.int .u64 0,.int .u64 0,.int .u32 0,.int .u8 0,.int .u8 0,.int .u8 0,.int .u8 0,.nilFunc,.pointer none,.int .i32 0,.int .i32 0]}
def l219:Option Lt:=some {size:=1,bytes:=8,zero:=[.nilFunc]}
def l220:Option Lt:=some {size:=1,bytes:=8,zero:=[.nilFunc]}
def l221:Option Lt:=some {size:=1,bytes:=8,zero:=[.nilFunc]}
def l222:Option Lt:=some {kind:=3,elem:=4,size:=1,bytes:=24,zero:=[.slice none 0 0]}
def l223:Option Lt:=some {size:=1,bytes:=8,zero:=[.nilFunc]}
def l224:Option Lt:=some {size:=1,bytes:=8,zero:=[.nilFunc]}
def l225:Option Lt:=some {size:=1,bytes:=8,zero:=[.nilFunc]}
def l226:Option Lt:=some {size:=1,bytes:=8,zero:=[.nilFunc]}
def l227:Option Lt:=some {size:=1,bytes:=8,zero:=[.nilFunc]}
def lay (t : TypeId):Option Lt:=
 match Nat.ble 114 t with
 | true=>
   match Nat.ble 172 t with
   | true=>
     match Nat.ble 200 t with
     | true=>
       match Nat.ble 214 t with
       | true=>
         match Nat.ble 221 t with
         | true=>
           match Nat.ble 224 t with
           | true=>
             match Nat.ble 226 t with
             | true=>
               match Nat.ble 227 t with
               | true=>
                 match Nat.beq 227 t with
                 | true=>l227
                 | false=>none
               | false=>
                 match Nat.beq 226 t with
                 | true=>l226
                 | false=>none
             | false=>
               match Nat.ble 225 t with
               | true=>
                 match Nat.beq 225 t with
                 | true=>l225
                 | false=>none
               | false=>
                 match Nat.beq 224 t with
                 | true=>l224
                 | false=>none
           | false=>
             match Nat.ble 222 t with
             | true=>
               match Nat.ble 223 t with
               | true=>
                 match Nat.beq 223 t with
                 | true=>l223
                 | false=>none
               | false=>
                 match Nat.beq 222 t with
                 | true=>l222
                 | false=>none
             | false=>
               match Nat.beq 221 t with
               | true=>l221
               | false=>none
         | false =>
           match Nat.ble 217 t with
           | true=>
             match Nat.ble 219 t with
             | true=>
               match Nat.ble 220 t with
               | true=>
                 match Nat.beq 220 t with
                 | true=>l220
                 | false=>none
               | false=>
                 match Nat.beq 219 t with
                 | true=>l219
                 | false=>none
             | false=>
               match Nat.ble 218 t with
               | true=>
                 match Nat.beq 218 t with
                 | true=>l218
                 | false=>none
               | false=>
                 match Nat.beq 217 t with
                 | true=>l217
                 | false=>none
           | false=>
             match Nat.ble 215 t with
             | true=>
               match Nat.ble 216 t with
               | true=>
                 match Nat.beq 216 t with
                 | true=>l216
                 | false=>none
               | false=>
                 match Nat.beq 215 t with
                 | true=>l215
                 | false=>none
             | false=>
               match Nat.beq 214 t with
               | true=>l214
               | false=>none
       | false =>
         match Nat.ble 207 t with
         | true=>
           match Nat.ble 210 t with
           | true=>
             match Nat.ble 212 t with
             | true=>
               match Nat.ble 213 t with
               | true=>
                 match Nat.beq 213 t with
                 | true=>l213
                 | false=>none
               | false=>
                 match Nat.beq 212 t with
                 | true=>l212
                 | false=>none
             | false=>
               match Nat.ble 211 t with
               | true=>
                 match Nat.beq 211 t with
                 | true=>l211
                 | false=>none
               | false=>
                 match Nat.beq 210 t with
                 | true=>l210
                 | false=>none
           | false=>
             match Nat.ble 208 t with
             | true=>
               match Nat.ble 209 t with
               | true=>
                 match Nat.beq 209 t with
                 | true=>l209
                 | false=>none
               | false=>
                 match Nat.beq 208 t with
                 | true=>l208
                 | false=>none
             | false=>
               match Nat.beq 207 t with
               | true=>l207
               | false=>none
         | false =>
           match Nat.ble 204 t with
           | true=>
             match Nat.ble 205 t with
             | true=>
               match Nat.ble 206 t with
               | true=>
                 match Nat.beq 206 t with
                 | true=>l206
                 | false=>none
               | false=>
                 match Nat.beq 205 t with
                 | true=>l205
                 | false=>none
             | false=>
               match Nat.beq 204 t with
               | true=>l204
               | false=>none
           | false=>
             match Nat.ble 201 t with
             | true=>
               match Nat.ble 203 t with
               | true=>
                 match Nat.beq 203 t with
                 | true=>l203
                 | false=>none
               | false=>
                 match Nat.beq 201 t with
                 | true=>l201
                 | false=>none
             | false=>
               match Nat.beq 200 t with
               | true=>l200
               | false=>none
     | false =>
       match Nat.ble 185 t with
       | true=>
         match Nat.ble 192 t with
         | true=>
           match Nat.ble 196 t with
           | true=>
             match Nat.ble 198 t with
             | true=>
               match Nat.ble 199 t with
               | true=>
                 match Nat.beq 199 t with
                 | true=>l199
                 | false=>none
               | false=>
                 match Nat.beq 198 t with
                 | true=>l198
                 | false=>none
             | false=>
               match Nat.ble 197 t with
               | true=>
                 match Nat.beq 197 t with
                 | true=>l197
                 | false=>none
               | false=>
                 match Nat.beq 196 t with
                 | true=>l196
                 | false=>none
           | false=>
             match Nat.ble 194 t with
             | true=>
               match Nat.ble 195 t with
               | true=>
                 match Nat.beq 195 t with
                 | true=>l195
                 | false=>none
               | false=>
                 match Nat.beq 194 t with
                 | true=>l194
                 | false=>none
             | false=>
               match Nat.beq 192 t with
               | true=>l192
               | false=>none
         | false =>
           match Nat.ble 189 t with
           | true=>
             match Nat.ble 190 t with
             | true=>
               match Nat.ble 191 t with
               | true=>
                 match Nat.beq 191 t with
                 | true=>l191
                 | false=>none
               | false=>
                 match Nat.beq 190 t with
                 | true=>l190
                 | false=>none
             | false=>
               match Nat.beq 189 t with
               | true=>l189
               | false=>none
           | false=>
             match Nat.ble 187 t with
             | true=>
               match Nat.ble 188 t with
               | true=>
                 match Nat.beq 188 t with
                 | true=>l188
                 | false=>none
               | false=>
                 match Nat.beq 187 t with
                 | true=>l187
                 | false=>none
             | false=>
               match Nat.beq 185 t with
               | true=>l185
               | false=>none
       | false =>
         match Nat.ble 178 t with
         | true=>
           match Nat.ble 181 t with
           | true=>
             match Nat.ble 183 t with
             | true=>
               match Nat.ble 184 t with
               | true=>
                 match Nat.beq 184 t with
                 | true=>l184
                 | false=>none
               | false=>
                 match Nat.beq 183 t with
                 | true=>l183
                 | false=>none
             | false=>
               match Nat.ble 182 t with
               | true=>
                 match Nat.beq 182 t with
                 | true=>l182
                 | false=>none
               | false=>
                 match Nat.beq 181 t with
                 | true=>l181
                 | false=>none
           | false=>
             match Nat.ble 179 t with
             | true=>
               match Nat.ble 180 t with
               | true=>
                 match Nat.beq 180 t with
                 | true=>l180
                 | false=>none
               | false=>
                 match Nat.beq 179 t with
                 | true=>l179
                 | false=>none
             | false=>
               match Nat.beq 178 t with
               | true=>l178
               | false=>none
         | false =>
           match Nat.ble 175 t with
           | true=>
             match Nat.ble 176 t with
             | true=>
               match Nat.ble 177 t with
               | true=>
                 match Nat.beq 177 t with
                 | true=>l177
                 | false=>none
               | false=>
                 match Nat.beq 176 t with
                 | true=>l176
                 | false=>none
             | false=>
               match Nat.beq 175 t with
               | true=>l175
               | false=>none
           | false=>
             match Nat.ble 173 t with
             | true=>
               match Nat.ble 174 t with
               | true=>
                 match Nat.beq 174 t with
                 | true=>l174
                 | false=>none
               | false=>
                 match Nat.beq 173 t with
                 | true=>l173
                 | false=>none
             | false=>
               match Nat.beq 172 t with
               | true=>l172
               | false=>none
   | false =>
     match Nat.ble 146 t with
     | true=>
       match Nat.ble 159 t with
       | true=>
         match Nat.ble 165 t with
         | true=>
           match Nat.ble 168 t with
           | true=>
             match Nat.ble 170 t with
             | true=>
               match Nat.ble 171 t with
               | true=>
                 match Nat.beq 171 t with
                 | true=>l171
                 | false=>none
               | false=>
                 match Nat.beq 170 t with
                 | true=>l170
                 | false=>none
             | false=>
               match Nat.ble 169 t with
               | true=>
                 match Nat.beq 169 t with
                 | true=>l169
                 | false=>none
               | false=>
                 match Nat.beq 168 t with
                 | true=>l168
                 | false=>none
           | false=>
             match Nat.ble 166 t with
             | true=>
               match Nat.ble 167 t with
               | true=>
                 match Nat.beq 167 t with
                 | true=>l167
                 | false=>none
               | false=>
                 match Nat.beq 166 t with
                 | true=>l166
                 | false=>none
             | false=>
               match Nat.beq 165 t with
               | true=>l165
               | false=>none
         | false =>
           match Nat.ble 162 t with
           | true=>
             match Nat.ble 163 t with
             | true=>
               match Nat.ble 164 t with
               | true=>
                 match Nat.beq 164 t with
                 | true=>l164
                 | false=>none
               | false=>
                 match Nat.beq 163 t with
                 | true=>l163
                 | false=>none
             | false=>
               match Nat.beq 162 t with
               | true=>l162
               | false=>none
           | false=>
             match Nat.ble 160 t with
             | true=>
               match Nat.ble 161 t with
               | true=>
                 match Nat.beq 161 t with
                 | true=>l161
                 | false=>none
               | false=>
                 match Nat.beq 160 t with
                 | true=>l160
                 | false=>none
             | false=>
               match Nat.beq 159 t with
               | true=>l159
               | false=>none
       | false =>
         match Nat.ble 152 t with
         | true=>
           match Nat.ble 155 t with
           | true=>
             match Nat.ble 157 t with
             | true=>
               match Nat.ble 158 t with
               | true=>
                 match Nat.beq 158 t with
                 | true=>l158
                 | false=>none
               | false=>
                 match Nat.beq 157 t with
                 | true=>l157
                 | false=>none
             | false=>
               match Nat.ble 156 t with
               | true=>
                 match Nat.beq 156 t with
                 | true=>l156
                 | false=>none
               | false=>
                 match Nat.beq 155 t with
                 | true=>l155
                 | false=>none
           | false=>
             match Nat.ble 153 t with
             | true=>
               match Nat.ble 154 t with
               | true=>
                 match Nat.beq 154 t with
                 | true=>l154
                 | false=>none
               | false=>
                 match Nat.beq 153 t with
                 | true=>l153
                 | false=>none
             | false=>
               match Nat.beq 152 t with
               | true=>l152
               | false=>none
         | false =>
           match Nat.ble 149 t with
           | true=>
             match Nat.ble 150 t with
             | true=>
               match Nat.ble 151 t with
               | true=>
                 match Nat.beq 151 t with
                 | true=>l151
                 | false=>none
               | false=>
                 match Nat.beq 150 t with
                 | true=>l150
                 | false=>none
             | false=>
               match Nat.beq 149 t with
               | true=>l149
               | false=>none
           | false=>
             match Nat.ble 147 t with
             | true=>
               match Nat.ble 148 t with
               | true=>
                 match Nat.beq 148 t with
                 | true=>l148
                 | false=>none
               | false=>
                 match Nat.beq 147 t with
                 | true=>l147
                 | false=>none
             | false=>
               match Nat.beq 146 t with
               | true=>l146
               | false=>none
     | false =>
       match Nat.ble 130 t with
       | true=>
         match Nat.ble 138 t with
         | true=>
           match Nat.ble 142 t with
           | true=>
             match Nat.ble 144 t with
             | true=>
               match Nat.ble 145 t with
               | true=>
                 match Nat.beq 145 t with
                 | true=>l145
                 | false=>none
               | false=>
                 match Nat.beq 144 t with
                 | true=>l144
                 | false=>none
             | false=>
               match Nat.ble 143 t with
               | true=>
                 match Nat.beq 143 t with
                 | true=>l143
                 | false=>none
               | false=>
                 match Nat.beq 142 t with
                 | true=>l142
                 | false=>none
           | false=>
             match Nat.ble 139 t with
             | true=>
               match Nat.ble 140 t with
               | true=>
                 match Nat.beq 140 t with
                 | true=>l140
                 | false=>none
               | false=>
                 match Nat.beq 139 t with
                 | true=>l139
                 | false=>none
             | false=>
               match Nat.beq 138 t with
               | true=>l138
               | false=>none
         | false =>
           match Nat.ble 134 t with
           | true=>
             match Nat.ble 135 t with
             | true=>
               match Nat.ble 136 t with
               | true=>
                 match Nat.beq 136 t with
                 | true=>l136
                 | false=>none
               | false=>
                 match Nat.beq 135 t with
                 | true=>l135
                 | false=>none
             | false=>
               match Nat.beq 134 t with
               | true=>l134
               | false=>none
           | false=>
             match Nat.ble 132 t with
             | true=>
               match Nat.ble 133 t with
               | true=>
                 match Nat.beq 133 t with
                 | true=>l133
                 | false=>none
               | false=>
                 match Nat.beq 132 t with
                 | true=>l132
                 | false=>none
             | false=>
               match Nat.beq 130 t with
               | true=>l130
               | false=>none
       | false =>
         match Nat.ble 123 t with
         | true=>
           match Nat.ble 126 t with
           | true=>
             match Nat.ble 128 t with
             | true=>
               match Nat.ble 129 t with
               | true=>
                 match Nat.beq 129 t with
                 | true=>l129
                 | false=>none
               | false=>
                 match Nat.beq 128 t with
                 | true=>l128
                 | false=>none
             | false=>
               match Nat.ble 127 t with
               | true=>
                 match Nat.beq 127 t with
                 | true=>l127
                 | false=>none
               | false=>
                 match Nat.beq 126 t with
                 | true=>l126
                 | false=>none
           | false=>
             match Nat.ble 124 t with
             | true=>
               match Nat.ble 125 t with
               | true=>
                 match Nat.beq 125 t with
                 | true=>l125
                 | false=>none
               | false=>
                 match Nat.beq 124 t with
                 | true=>l124
                 | false=>none
             | false=>
               match Nat.beq 123 t with
               | true=>l123
               | false=>none
         | false =>
           match Nat.ble 119 t with
           | true=>
             match Nat.ble 120 t with
             | true=>
               match Nat.ble 121 t with
               | true=>
                 match Nat.beq 121 t with
                 | true=>l121
                 | false=>none
               | false=>
                 match Nat.beq 120 t with
                 | true=>l120
                 | false=>none
             | false=>
               match Nat.beq 119 t with
               | true=>l119
               | false=>none
           | false=>
             match Nat.ble 116 t with
             | true=>
               match Nat.ble 118 t with
               | true=>
                 match Nat.beq 118 t with
                 | true=>l118
                 | false=>none
               | false=>
                 match Nat.beq 116 t with
                 | true=>l116
                 | false=>none
             | false=>
               match Nat.beq 114 t with
               | true=>l114
               | false=>none
 | false =>
   match Nat.ble 56 t with
   | true=>
     match Nat.ble 84 t with
     | true=>
       match Nat.ble 101 t with
       | true=>
         match Nat.ble 107 t with
         | true=>
           match Nat.ble 110 t with
           | true=>
             match Nat.ble 112 t with
             | true=>
               match Nat.ble 113 t with
               | true=>
                 match Nat.beq 113 t with
                 | true=>l113
                 | false=>none
               | false=>
                 match Nat.beq 112 t with
                 | true=>l112
                 | false=>none
             | false=>
               match Nat.ble 111 t with
               | true=>
                 match Nat.beq 111 t with
                 | true=>l111
                 | false=>none
               | false=>
                 match Nat.beq 110 t with
                 | true=>l110
                 | false=>none
           | false=>
             match Nat.ble 108 t with
             | true=>
               match Nat.ble 109 t with
               | true=>
                 match Nat.beq 109 t with
                 | true=>l109
                 | false=>none
               | false=>
                 match Nat.beq 108 t with
                 | true=>l108
                 | false=>none
             | false=>
               match Nat.beq 107 t with
               | true=>l107
               | false=>none
         | false =>
           match Nat.ble 104 t with
           | true=>
             match Nat.ble 105 t with
             | true=>
               match Nat.ble 106 t with
               | true=>
                 match Nat.beq 106 t with
                 | true=>l106
                 | false=>none
               | false=>
                 match Nat.beq 105 t with
                 | true=>l105
                 | false=>none
             | false=>
               match Nat.beq 104 t with
               | true=>l104
               | false=>none
           | false=>
             match Nat.ble 102 t with
             | true=>
               match Nat.ble 103 t with
               | true=>
                 match Nat.beq 103 t with
                 | true=>l103
                 | false=>none
               | false=>
                 match Nat.beq 102 t with
                 | true=>l102
                 | false=>none
             | false=>
               match Nat.beq 101 t with
               | true=>l101
               | false=>none
       | false =>
         match Nat.ble 93 t with
         | true=>
           match Nat.ble 96 t with
           | true=>
             match Nat.ble 99 t with
             | true=>
               match Nat.ble 100 t with
               | true=>
                 match Nat.beq 100 t with
                 | true=>l100
                 | false=>none
               | false=>
                 match Nat.beq 99 t with
                 | true=>l99
                 | false=>none
             | false=>
               match Nat.ble 98 t with
               | true=>
                 match Nat.beq 98 t with
                 | true=>l98
                 | false=>none
               | false=>
                 match Nat.beq 96 t with
                 | true=>l96
                 | false=>none
           | false=>
             match Nat.ble 94 t with
             | true=>
               match Nat.ble 95 t with
               | true=>
                 match Nat.beq 95 t with
                 | true=>l95
                 | false=>none
               | false=>
                 match Nat.beq 94 t with
                 | true=>l94
                 | false=>none
             | false=>
               match Nat.beq 93 t with
               | true=>l93
               | false=>none
         | false =>
           match Nat.ble 89 t with
           | true=>
             match Nat.ble 90 t with
             | true=>
               match Nat.ble 92 t with
               | true=>
                 match Nat.beq 92 t with
                 | true=>l92
                 | false=>none
               | false=>
                 match Nat.beq 90 t with
                 | true=>l90
                 | false=>none
             | false=>
               match Nat.beq 89 t with
               | true=>l89
               | false=>none
           | false=>
             match Nat.ble 86 t with
             | true=>
               match Nat.ble 87 t with
               | true=>
                 match Nat.beq 87 t with
                 | true=>l87
                 | false=>none
               | false=>
                 match Nat.beq 86 t with
                 | true=>l86
                 | false=>none
             | false=>
               match Nat.beq 84 t with
               | true=>l84
               | false=>none
     | false =>
       match Nat.ble 70 t with
       | true=>
         match Nat.ble 76 t with
         | true=>
           match Nat.ble 79 t with
           | true=>
             match Nat.ble 81 t with
             | true=>
               match Nat.ble 83 t with
               | true=>
                 match Nat.beq 83 t with
                 | true=>l83
                 | false=>none
               | false=>
                 match Nat.beq 81 t with
                 | true=>l81
                 | false=>none
             | false=>
               match Nat.ble 80 t with
               | true=>
                 match Nat.beq 80 t with
                 | true=>l80
                 | false=>none
               | false=>
                 match Nat.beq 79 t with
                 | true=>l79
                 | false=>none
           | false=>
             match Nat.ble 77 t with
             | true=>
               match Nat.ble 78 t with
               | true=>
                 match Nat.beq 78 t with
                 | true=>l78
                 | false=>none
               | false=>
                 match Nat.beq 77 t with
                 | true=>l77
                 | false=>none
             | false=>
               match Nat.beq 76 t with
               | true=>l76
               | false=>none
         | false =>
           match Nat.ble 73 t with
           | true=>
             match Nat.ble 74 t with
             | true=>
               match Nat.ble 75 t with
               | true=>
                 match Nat.beq 75 t with
                 | true=>l75
                 | false=>none
               | false=>
                 match Nat.beq 74 t with
                 | true=>l74
                 | false=>none
             | false=>
               match Nat.beq 73 t with
               | true=>l73
               | false=>none
           | false=>
             match Nat.ble 71 t with
             | true=>
               match Nat.ble 72 t with
               | true=>
                 match Nat.beq 72 t with
                 | true=>l72
                 | false=>none
               | false=>
                 match Nat.beq 71 t with
                 | true=>l71
                 | false=>none
             | false=>
               match Nat.beq 70 t with
               | true=>l70
               | false=>none
       | false =>
         match Nat.ble 63 t with
         | true=>
           match Nat.ble 66 t with
           | true=>
             match Nat.ble 68 t with
             | true=>
               match Nat.ble 69 t with
               | true=>
                 match Nat.beq 69 t with
                 | true=>l69
                 | false=>none
               | false=>
                 match Nat.beq 68 t with
                 | true=>l68
                 | false=>none
             | false=>
               match Nat.ble 67 t with
               | true=>
                 match Nat.beq 67 t with
                 | true=>l67
                 | false=>none
               | false=>
                 match Nat.beq 66 t with
                 | true=>l66
                 | false=>none
           | false=>
             match Nat.ble 64 t with
             | true=>
               match Nat.ble 65 t with
               | true=>
                 match Nat.beq 65 t with
                 | true=>l65
                 | false=>none
               | false=>
                 match Nat.beq 64 t with
                 | true=>l64
                 | false=>none
             | false=>
               match Nat.beq 63 t with
               | true=>l63
               | false=>none
         | false =>
           match Nat.ble 59 t with
           | true=>
             match Nat.ble 61 t with
             | true=>
               match Nat.ble 62 t with
               | true=>
                 match Nat.beq 62 t with
                 | true=>l62
                 | false=>none
               | false=>
                 match Nat.beq 61 t with
                 | true=>l61
                 | false=>none
             | false=>
               match Nat.beq 59 t with
               | true=>l59
               | false=>none
           | false=>
             match Nat.ble 57 t with
             | true=>
               match Nat.ble 58 t with
               | true=>
                 match Nat.beq 58 t with
                 | true=>l58
                 | false=>none
               | false=>
                 match Nat.beq 57 t with
                 | true=>l57
                 | false=>none
             | false=>
               match Nat.beq 56 t with
               | true=>l56
               | false=>none
   | false =>
     match Nat.ble 27 t with
     | true=>
       match Nat.ble 42 t with
       | true=>
         match Nat.ble 48 t with
         | true=>
           match Nat.ble 52 t with
           | true=>
             match Nat.ble 54 t with
             | true=>
               match Nat.ble 55 t with
               | true=>
                 match Nat.beq 55 t with
                 | true=>l55
                 | false=>none
               | false=>
                 match Nat.beq 54 t with
                 | true=>l54
                 | false=>none
             | false=>
               match Nat.ble 53 t with
               | true=>
                 match Nat.beq 53 t with
                 | true=>l53
                 | false=>none
               | false=>
                 match Nat.beq 52 t with
                 | true=>l52
                 | false=>none
           | false=>
             match Nat.ble 49 t with
             | true=>
               match Nat.ble 50 t with
               | true=>
                 match Nat.beq 50 t with
                 | true=>l50
                 | false=>none
               | false=>
                 match Nat.beq 49 t with
                 | true=>l49
                 | false=>none
             | false=>
               match Nat.beq 48 t with
               | true=>l48
               | false=>none
         | false =>
           match Nat.ble 45 t with
           | true=>
             match Nat.ble 46 t with
             | true=>
               match Nat.ble 47 t with
               | true=>
                 match Nat.beq 47 t with
                 | true=>l47
                 | false=>none
               | false=>
                 match Nat.beq 46 t with
                 | true=>l46
                 | false=>none
             | false=>
               match Nat.beq 45 t with
               | true=>l45
               | false=>none
           | false=>
             match Nat.ble 43 t with
             | true=>
               match Nat.ble 44 t with
               | true=>
                 match Nat.beq 44 t with
                 | true=>l44
                 | false=>none
               | false=>
                 match Nat.beq 43 t with
                 | true=>l43
                 | false=>none
             | false=>
               match Nat.beq 42 t with
               | true=>l42
               | false=>none
       | false =>
         match Nat.ble 35 t with
         | true=>
           match Nat.ble 38 t with
           | true=>
             match Nat.ble 40 t with
             | true=>
               match Nat.ble 41 t with
               | true=>
                 match Nat.beq 41 t with
                 | true=>l41
                 | false=>none
               | false=>
                 match Nat.beq 40 t with
                 | true=>l40
                 | false=>none
             | false=>
               match Nat.ble 39 t with
               | true=>
                 match Nat.beq 39 t with
                 | true=>l39
                 | false=>none
               | false=>
                 match Nat.beq 38 t with
                 | true=>l38
                 | false=>none
           | false=>
             match Nat.ble 36 t with
             | true=>
               match Nat.ble 37 t with
               | true=>
                 match Nat.beq 37 t with
                 | true=>l37
                 | false=>none
               | false=>
                 match Nat.beq 36 t with
                 | true=>l36
                 | false=>none
             | false=>
               match Nat.beq 35 t with
               | true=>l35
               | false=>none
         | false =>
           match Nat.ble 32 t with
           | true=>
             match Nat.ble 33 t with
             | true=>
               match Nat.ble 34 t with
               | true=>
                 match Nat.beq 34 t with
                 | true=>l34
                 | false=>none
               | false=>
                 match Nat.beq 33 t with
                 | true=>l33
                 | false=>none
             | false=>
               match Nat.beq 32 t with
               | true=>l32
               | false=>none
           | false=>
             match Nat.ble 29 t with
             | true=>
               match Nat.ble 31 t with
               | true=>
                 match Nat.beq 31 t with
                 | true=>l31
                 | false=>none
               | false=>
                 match Nat.beq 29 t with
                 | true=>l29
                 | false=>none
             | false=>
               match Nat.beq 27 t with
               | true=>l27
               | false=>none
     | false =>
       match Nat.ble 14 t with
       | true=>
         match Nat.ble 20 t with
         | true=>
           match Nat.ble 23 t with
           | true=>
             match Nat.ble 25 t with
             | true=>
               match Nat.ble 26 t with
               | true=>
                 match Nat.beq 26 t with
                 | true=>l26
                 | false=>none
               | false=>
                 match Nat.beq 25 t with
                 | true=>l25
                 | false=>none
             | false=>
               match Nat.ble 24 t with
               | true=>
                 match Nat.beq 24 t with
                 | true=>l24
                 | false=>none
               | false=>
                 match Nat.beq 23 t with
                 | true=>l23
                 | false=>none
           | false=>
             match Nat.ble 21 t with
             | true=>
               match Nat.ble 22 t with
               | true=>
                 match Nat.beq 22 t with
                 | true=>l22
                 | false=>none
               | false=>
                 match Nat.beq 21 t with
                 | true=>l21
                 | false=>none
             | false=>
               match Nat.beq 20 t with
               | true=>l20
               | false=>none
         | false =>
           match Nat.ble 17 t with
           | true=>
             match Nat.ble 18 t with
             | true=>
               match Nat.ble 19 t with
               | true=>
                 match Nat.beq 19 t with
                 | true=>l19
                 | false=>none
               | false=>
                 match Nat.beq 18 t with
                 | true=>l18
                 | false=>none
             | false=>
               match Nat.beq 17 t with
               | true=>l17
               | false=>none
           | false=>
             match Nat.ble 15 t with
             | true=>
               match Nat.ble 16 t with
               | true=>
                 match Nat.beq 16 t with
                 | true=>l16
                 | false=>none
               | false=>
                 match Nat.beq 15 t with
                 | true=>l15
                 | false=>none
             | false=>
               match Nat.beq 14 t with
               | true=>l14
               | false=>none
       | false =>
         match Nat.ble 7 t with
         | true=>
           match Nat.ble 10 t with
           | true=>
             match Nat.ble 12 t with
             | true=>
               match Nat.ble 13 t with
               | true=>
                 match Nat.beq 13 t with
                 | true=>l13
                 | false=>none
               | false=>
                 match Nat.beq 12 t with
                 | true=>l12
                 | false=>none
             | false=>
               match Nat.ble 11 t with
               | true=>
                 match Nat.beq 11 t with
                 | true=>l11
                 | false=>none
               | false=>
                 match Nat.beq 10 t with
                 | true=>l10
                 | false=>none
           | false=>
             match Nat.ble 8 t with
             | true=>
               match Nat.ble 9 t with
               | true=>
                 match Nat.beq 9 t with
                 | true=>l9
                 | false=>none
               | false=>
                 match Nat.beq 8 t with
                 | true=>l8
                 | false=>none
             | false=>
               match Nat.beq 7 t with
               | true=>l7
               | false=>none
         | false =>
           match Nat.ble 4 t with
           | true=>
             match Nat.ble 5 t with
             | true=>
               match Nat.ble 6 t with
               | true=>
                 match Nat.beq 6 t with
                 | true=>l6
                 | false=>none
               | false=>
                 match Nat.beq 5 t with
                 | true=>l5
                 | false=>none
             | false=>
               match Nat.beq 4 t with
               | true=>l4
               | false=>none
           | false=>
             match Nat.ble 2 t with
             | true=>
               match Nat.ble 3 t with
               | true=>
                 match Nat.beq 3 t with
                 | true=>l3
                 | false=>none
               | false=>
                 match Nat.beq 2 t with
                 | true=>l2
                 | false=>none
             | false=>
               match Nat.beq 1 t with
               | true=>l1
               | false=>none
end Ly
def lay (t:TypeId):Option Lt:=
 match Nat.blt t 228 with
 | true=>Ly.lay t
 | false=>none
theorem lay_ok:LayOk Tryz.prog lay:=layOk_fn 228 lay (fun t h=>by unfold lay;rw [blt_no h]) (by kernel_rfl)
end Ab
end Go.Proofs.YtpplemjjeefpdaaGreatDoor
