/- Texts that the proof leans on. -/
import Derived.Test.YtjhbgkakhaonaaaGreatDoorProg
import Derived.Test.YtjhbgkakhaonaaaGreatDoorK302
import Derived.Laws.BitsAllLaws
set_option linter.unusedVariables false
set_option linter.unusedSimpArgs false
set_option maxRecDepth 100000
set_option maxHeartbeats 4000000
namespace Go.Proofs.YtjhbgkakhaonaaaGreatDoor
open Go
namespace Ab
namespace Ly
def l3:Option Lt:=some {ik:=some .i64,size:=1,bytes:=8,zero:=[.int .i64 0]}
def l4:Option Lt:=some {kind:=5,size:=1,bytes:=1,zero:=[.bool false]}
def l5:Option Lt:=some {ik:=some .u8,size:=1,bytes:=1,zero:=[.int .u8 0]}
def l9:Option Lt:=some {kind:=4,size:=1,bytes:=16,zero:=[.string ByteArray.empty]}
def l20:Option Lt:=some {size:=1,bytes:=16,zero:=[.nilIface]}
def l22:Option Lt:=some {kind:=3,elem:=4,size:=1,bytes:=24,zero:=[.slice none 0 0]}
def l23:Option Lt:=some {kind:=3,elem:=3,size:=1,bytes:=24,zero:=[.slice none 0 0]}
def l24:Option Lt:=some {kind:=3,elem:=23,size:=1,bytes:=24,zero:=[.slice none 0 0]}
def l25:Option Lt:=some {kind:=1,parts:=[(0,1,false),(1,1,false),(2,1,false),(3,1,false)],size:=4,bytes:=80,zero:=[.int .i64 0,.slice none 0 0,.slice none 0 0,.slice none 0 0]}
def l26:Option Lt:=some {kind:=1,parts:=[(0,1,false),(1,1,false),(2,1,false),(3,1,false)],size:=4,bytes:=80,zero:=[.int .i64 0,.slice none 0 0,.slice none 0 0,.slice none 0 0]}
def l31:Option Lt:=some {kind:=3,elem:=45,size:=1,bytes:=24,zero:=[.slice none 0 0]}
def l32:Option Lt:=some {kind:=1,parts:=[(0,1,false),(1,1,false),(2,1,false),(3,1,false),(4,1,false)],size:=5,bytes:=104,zero:=[.slice none 0 0,.bool false,.slice none 0 0,.slice none 0 0,.slice none 0 0]}
def l33:Option Lt:=some {kind:=1,parts:=[(0,1,false),(1,1,false),(2,1,false),(3,1,false),(4,1,false)],size:=5,bytes:=104,zero:=[.slice none 0 0,.bool false,.slice none 0 0,.slice none 0 0,.slice none 0 0]}
def l35:Option Lt:=some {ik:=some .i64,size:=1,bytes:=8,zero:=[.int .i64 0]}
def l43:Option Lt:=some {ik:=some .u64,size:=1,bytes:=8,zero:=[.int .u64 0]}
def l44:Option Lt:=some {kind:=2,len:=4,elem:=43,ck:=some [.i .u64,.i .u64,.i .u64,.i .u64],size:=4,bytes:=32,zero:=[.int .u64 0,.int .u64 0,.int .u64 0,.int .u64 0]}
def l45:Option Lt:=some {kind:=2,len:=4,elem:=43,ck:=some [.i .u64,.i .u64,.i .u64,.i .u64],size:=4,bytes:=32,zero:=[.int .u64 0,.int .u64 0,.int .u64 0,.int .u64 0]}
def l46:Option Lt:=some {kind:=3,elem:=48,size:=1,bytes:=24,zero:=[.slice none 0 0]}
def l47:Option Lt:=some {kind:=1,parts:=[(0,1,false),(1,4,true),(5,1,false),(6,1,false),(7,1,false)],size:=8,bytes:=80,zero:=[.int .i64 0,.int .u64 0,.int .u64 0,.int .u64 0,.int .u64 0,.slice none 0 0,.int .i64 0,.int .i64 0]}
def l48:Option Lt:=some {kind:=1,parts:=[(0,1,false),(1,4,true),(5,1,false),(6,1,false),(7,1,false)],size:=8,bytes:=80,zero:=[.int .i64 0,.int .u64 0,.int .u64 0,.int .u64 0,.int .u64 0,.slice none 0 0,.int .i64 0,.int .i64 0]}
def l54:Option Lt:=some {kind:=1,parts:=[(0,1,false),(1,1,false)],ck:=some [.i .i64,.i .i64],size:=2,bytes:=16,zero:=[.int .i64 0,.int .i64 0]}
def l55:Option Lt:=some {kind:=1,parts:=[(0,1,false),(1,1,false)],ck:=some [.i .i64,.i .i64],size:=2,bytes:=16,zero:=[.int .i64 0,.int .i64 0]}
def l60:Option Lt:=some {size:=1,bytes:=8,zero:=[.nilFunc]}
def l61:Option Lt:=some {size:=1,bytes:=8,zero:=[.pointer none]}
def l62:Option Lt:=some {kind:=7,len:=0,elem:=3,size:=1,bytes:=8,zero:=[.map none]}
def l63:Option Lt:=some {kind:=1,parts:=[(0,5,true),(5,1,false),(6,1,false),(7,1,false),(8,4,true)],size:=12,bytes:=240,zero:=[.slice none 0 0,.bool false,.slice none 0 0,.slice none 0 0,.slice none 0 0,.slice none 0 0,.map none,.slice none 0 0,.int .i64 0,.slice none 0 0,.slice none 0 0,.slice none 0 0]}
def l64:Option Lt:=some {kind:=1,parts:=[(0,5,true),(5,1,false),(6,1,false),(7,1,false),(8,4,true)],size:=12,bytes:=240,zero:=[.slice none 0 0,.bool false,.slice none 0 0,.slice none 0 0,.slice none 0 0,.slice none 0 0,.map none,.slice none 0 0,.int .i64 0,.slice none 0 0,.slice none 0 0,.slice none 0 0]}
def l81:Option Lt:=some {kind:=1,parts:=[(0,5,true)],size:=5,bytes:=104,zero:=[.slice none 0 0,.bool false,.slice none 0 0,.slice none 0 0,.slice none 0 0]}
def l82:Option Lt:=some {kind:=1,parts:=[(0,5,true)],size:=5,bytes:=104,zero:=[.slice none 0 0,.bool false,.slice none 0 0,.slice none 0 0,.slice none 0 0]}
def l83:Option Lt:=some {kind:=1,parts:=[(0,1,false),(1,1,false),(2,1,false)],size:=3,bytes:=56,zero:=[.slice none 0 0,.slice none 0 0,.bool false]}
def l84:Option Lt:=some {kind:=1,parts:=[(0,1,false),(1,1,false),(2,1,false)],size:=3,bytes:=56,zero:=[.slice none 0 0,.slice none 0 0,.bool false]}
def l88:Option Lt:=some {kind:=1,parts:=[(0,2,true)],size:=2,bytes:=16,zero:=[.int .i64 0,.int .i64 0]}
def l89:Option Lt:=some {kind:=1,parts:=[(0,2,true)],size:=2,bytes:=16,zero:=[.int .i64 0,.int .i64 0]}
def l90:Option Lt:=some {size:=1,bytes:=8,zero:=[.pointer none]}
def l91:Option Lt:=some {kind:=1,parts:=[(0,1,false),(1,1,false),(2,1,false)],ck:=some [.s,.i .i64,.i .i64],size:=3,bytes:=32,zero:=[.string ByteArray.empty,.int .i64 0,.int .i64 0]}
def l92:Option Lt:=some {kind:=1,parts:=[(0,1,false),(1,1,false),(2,1,false)],ck:=some [.s,.i .i64,.i .i64],size:=3,bytes:=32,zero:=[.string ByteArray.empty,.int .i64 0,.int .i64 0]}
def l94:Option Lt:=some {size:=1,bytes:=8,zero:=[.nilFunc]}
def l98:Option Lt:=some {kind:=2,len:=2,elem:=3,ck:=some [.i .i64,.i .i64],size:=2,bytes:=16,zero:=[.int .i64 0,.int .i64 0]}
def l99:Option Lt:=some {size:=1,bytes:=8,zero:=[.nilFunc]}
def l103:Option Lt:=some {ik:=some .u64,size:=1,bytes:=8,zero:=[.int .u64 0]}
def l107:Option Lt:=some {size:=1,bytes:=8,zero:=[.pointer none]}
def l110:Option Lt:=some {kind:=3,elem:=4,size:=1,bytes:=24,zero:=[.slice none 0 0]}
def l116:Option Lt:=some {kind:=7,len:=2,elem:=3,size:=1,bytes:=8,zero:=[.map none]}
def l119:Option Lt:=some {ik:=some .u32,size:=1,bytes:=4,zero:=[.int .u32 0]}
def l126:Option Lt:=some {size:=1,bytes:=8,zero:=[.nilFunc]}
def l128:Option Lt:=some {size:=1,bytes:=8,zero:=[.pointer none]}
def l129:Option Lt:=some {kind:=3,elem:=5,size:=1,bytes:=24,zero:=[.slice none 0 0]}
def l130:Option Lt:=some {kind:=1,parts:=[(0,1,false),(1,1,false)],size:=2,bytes:=32,zero:=[.pointer none,.slice none 0 0]}
def l131:Option Lt:=some {kind:=1,parts:=[(0,1,false),(1,1,false)],size:=2,bytes:=32,zero:=[.pointer none,.slice none 0 0]}
def l132:Option Lt:=some {size:=1,bytes:=16,zero:=[.nilIface]}
def l133:Option Lt:=some {size:=1,bytes:=16,zero:=[.nilIface]}
def l142:Option Lt:=some {size:=1,bytes:=8,zero:=[.pointer none]}
def l144:Option Lt:=some {ik:=some .i64,size:=1,bytes:=8,zero:=[.int .i64 0]}
def l157:Option Lt:=some {ik:=some .u64,size:=1,bytes:=8,zero:=[.int .u64 0]}
def l161:Option Lt:=some {size:=1,bytes:=8,zero:=[.pointer none]}
def lay (t : TypeId):Option Lt:=
 match Nat.ble 81 t with
 | true=>
   match Nat.ble 110 t with
   | true=>
     match Nat.ble 131 t with
     | true=>
       match Nat.ble 142 t with
       | true=>
         match Nat.ble 157 t with
         | true=>
           match Nat.ble 161 t with
           | true=>
             match Nat.beq 161 t with
             | true=>l161
             | false=>none
           | false=>
             match Nat.beq 157 t with
             | true=>l157
             | false=>none
         | false=>
           match Nat.ble 144 t with
           | true=>
             match Nat.beq 144 t with
             | true=>l144
             | false=>none
           | false=>
             match Nat.beq 142 t with
             | true=>l142
             | false=>none
       | false=>
         match Nat.ble 132 t with
         | true=>
           match Nat.ble 133 t with
           | true=>
             match Nat.beq 133 t with
             | true=>l133
             | false=>none
           | false=>
             match Nat.beq 132 t with
             | true=>l132
             | false=>none
         | false=>
           match Nat.beq 131 t with
           | true=>l131
           | false=>none
     | false =>
       match Nat.ble 126 t with
       | true=>
         match Nat.ble 129 t with
         | true=>
           match Nat.ble 130 t with
           | true=>
             match Nat.beq 130 t with
             | true=>l130
             | false=>none
           | false=>
             match Nat.beq 129 t with
             | true=>l129
             | false=>none
         | false=>
           match Nat.ble 128 t with
           | true=>
             match Nat.beq 128 t with
             | true=>l128
             | false=>none
           | false=>
             match Nat.beq 126 t with
             | true=>l126
             | false=>none
       | false=>
         match Nat.ble 116 t with
         | true=>
           match Nat.ble 119 t with
           | true=>
             match Nat.beq 119 t with
             | true=>l119
             | false=>none
           | false=>
             match Nat.beq 116 t with
             | true=>l116
             | false=>none
         | false=>
           match Nat.beq 110 t with
           | true=>l110
           | false=>none
   | false =>
     match Nat.ble 91 t with
     | true=>
       match Nat.ble 98 t with
       | true=>
         match Nat.ble 103 t with
         | true=>
           match Nat.ble 107 t with
           | true=>
             match Nat.beq 107 t with
             | true=>l107
             | false=>none
           | false=>
             match Nat.beq 103 t with
             | true=>l103
             | false=>none
         | false=>
           match Nat.ble 99 t with
           | true=>
             match Nat.beq 99 t with
             | true=>l99
             | false=>none
           | false=>
             match Nat.beq 98 t with
             | true=>l98
             | false=>none
       | false=>
         match Nat.ble 92 t with
         | true=>
           match Nat.ble 94 t with
           | true=>
             match Nat.beq 94 t with
             | true=>l94
             | false=>none
           | false=>
             match Nat.beq 92 t with
             | true=>l92
             | false=>none
         | false=>
           match Nat.beq 91 t with
           | true=>l91
           | false=>none
     | false =>
       match Nat.ble 84 t with
       | true=>
         match Nat.ble 89 t with
         | true=>
           match Nat.ble 90 t with
           | true=>
             match Nat.beq 90 t with
             | true=>l90
             | false=>none
           | false=>
             match Nat.beq 89 t with
             | true=>l89
             | false=>none
         | false=>
           match Nat.ble 88 t with
           | true=>
             match Nat.beq 88 t with
             | true=>l88
             | false=>none
           | false=>
             match Nat.beq 84 t with
             | true=>l84
             | false=>none
       | false=>
         match Nat.ble 82 t with
         | true=>
           match Nat.ble 83 t with
           | true=>
             match Nat.beq 83 t with
             | true=>l83
             | false=>none
           | false=>
             match Nat.beq 82 t with
             | true=>l82
             | false=>none
         | false=>
           match Nat.beq 81 t with
           | true=>l81
           | false=>none
 | false =>
   match Nat.ble 35 t with
   | true=>
     match Nat.ble 54 t with
     | true=>
       match Nat.ble 61 t with
       | true=>
         match Nat.ble 63 t with
         | true=>
           match Nat.ble 64 t with
           | true=>
             match Nat.beq 64 t with
             | true=>l64
             | false=>none
           | false=>
             match Nat.beq 63 t with
             | true=>l63
             | false=>none
         | false=>
           match Nat.ble 62 t with
           | true=>
             match Nat.beq 62 t with
             | true=>l62
             | false=>none
           | false=>
             match Nat.beq 61 t with
             | true=>l61
             | false=>none
       | false=>
         match Nat.ble 55 t with
         | true=>
           match Nat.ble 60 t with
           | true=>
             match Nat.beq 60 t with
             | true=>l60
             | false=>none
           | false=>
             match Nat.beq 55 t with
             | true=>l55
             | false=>none
         | false=>
           match Nat.beq 54 t with
           | true=>l54
           | false=>none
     | false =>
       match Nat.ble 45 t with
       | true=>
         match Nat.ble 47 t with
         | true=>
           match Nat.ble 48 t with
           | true=>
             match Nat.beq 48 t with
             | true=>l48
             | false=>none
           | false=>
             match Nat.beq 47 t with
             | true=>l47
             | false=>none
         | false=>
           match Nat.ble 46 t with
           | true=>
             match Nat.beq 46 t with
             | true=>l46
             | false=>none
           | false=>
             match Nat.beq 45 t with
             | true=>l45
             | false=>none
       | false=>
         match Nat.ble 43 t with
         | true=>
           match Nat.ble 44 t with
           | true=>
             match Nat.beq 44 t with
             | true=>l44
             | false=>none
           | false=>
             match Nat.beq 43 t with
             | true=>l43
             | false=>none
         | false=>
           match Nat.beq 35 t with
           | true=>l35
           | false=>none
   | false =>
     match Nat.ble 23 t with
     | true=>
       match Nat.ble 26 t with
       | true=>
         match Nat.ble 32 t with
         | true=>
           match Nat.ble 33 t with
           | true=>
             match Nat.beq 33 t with
             | true=>l33
             | false=>none
           | false=>
             match Nat.beq 32 t with
             | true=>l32
             | false=>none
         | false=>
           match Nat.ble 31 t with
           | true=>
             match Nat.beq 31 t with
             | true=>l31
             | false=>none
           | false=>
             match Nat.beq 26 t with
             | true=>l26
             | false=>none
       | false=>
         match Nat.ble 24 t with
         | true=>
           match Nat.ble 25 t with
           | true=>
             match Nat.beq 25 t with
             | true=>l25
             | false=>none
           | false=>
             match Nat.beq 24 t with
             | true=>l24
             | false=>none
         | false=>
           match Nat.beq 23 t with
           | true=>l23
           | false=>none
     | false =>
       match Nat.ble 9 t with
       | true=>
         match Nat.ble 20 t with
         | true=>
           match Nat.ble 22 t with
           | true=>
             match Nat.beq 22 t with
             | true=>l22
             | false=>none
           | false=>
             match Nat.beq 20 t with
             | true=>l20
             | false=>none
         | false=>
           match Nat.beq 9 t with
           | true=>l9
           | false=>none
       | false=>
         match Nat.ble 4 t with
         | true=>
           match Nat.ble 5 t with
           | true=>
             match Nat.beq 5 t with
             | true=>l5
             | false=>none
           | false=>
             match Nat.beq 4 t with
             | true=>l4
             | false=>none
         | false=>
           match Nat.beq 3 t with
           | true=>l3
           | false=>none
end Ly
def lay (t:TypeId):Option Lt:=
 match Nat.blt t 182 with
 | true=>Ly.lay t
 | false=>none
theorem lay_ok:LayOk Tryz.prog lay:=layOk_fn 182 lay (fun t h=>by unfold lay;rw [blt_no h]) (by kernel_rfl)
end Ab
end Go.Proofs.YtjhbgkakhaonaaaGreatDoor
namespace Go.Proofs.YtjhbgkakhaonaaaGreatDoor
open Go
structure CSet where
 a:BitVec 64
 b:BitVec 64
 c:BitVec 64
 d:BitVec 64
deriving DecidableEq
namespace CSet
def word (S:CSet):Nat→BitVec 64
 | 0=>S.a
 | 1=>S.b
 | 2=>S.c
 | _=>S.d
def has (S:CSet) (b:Nat):Bool:=(S.word (b / 64)).getLsbD (b % 64)
def empty:CSet:=⟨0,0,0,0⟩
def setWord (S:CSet):Nat→BitVec 64→CSet
 | 0,x=>{S with a:=x}
 | 1,x=>{S with b:=x}
 | 2,x=>{S with c:=x}
 | _,x=>{S with d:=x}
def put (S:CSet) (b:Nat):CSet:=S.setWord (b / 64) (S.word (b / 64)||| (1#64<<<(b % 64)))
def or (S T:CSet):CSet:=⟨S.a||| T.a,S.b||| T.b,S.c||| T.c,S.d||| T.d⟩
def and (S T:CSet):CSet:=⟨S.a&&& T.a,S.b&&& T.b,S.c&&& T.c,S.d&&& T.d⟩
def not (S:CSet):CSet:=⟨~~~S.a,~~~S.b,~~~S.c,~~~S.d⟩
def span (lo:Nat):Nat→CSet
 | 0=>empty
 | n+1=>(span lo n).put (lo+n)
def between (lo hi:Nat):CSet:=span lo (hi+1-lo)
def mix (S T:CSet) (k:Nat):CSet:=⟨if 0<k then T.a else S.a,if 1<k then T.b else S.b,if 2<k then T.c else S.c,if 3<k then T.d else S.d⟩
theorem ext_has {S T:CSet} (h:∀b,b<256→S.has b=T.has b):S=T:=by
 have w:∀k,k<4→S.word k=T.word k:=fun k hk=>by
  apply BitVec.eq_of_getLsbD_eq
  intro i hi
  have:=h (64*k+i) (by omega)
  unfold has at this
  rw [show (64*k+i) / 64=k by omega,show (64*k+i) % 64=i by omega] at this
  exact this
 have h0:=w 0 (by omega);have h1:=w 1 (by omega);have h2:=w 2 (by omega);have h3:=w 3 (by omega)
 cases S;cases T
 simp only [word] at h0 h1 h2 h3
 simp [h0,h1,h2,h3]
theorem has_empty (b:Nat):empty.has b=false:=by
 unfold has empty word
 split<;>simp
theorem word_setWord (S:CSet) (i j:Nat) (x:BitVec 64) (hi:i<4) (hj:j<4):(S.setWord i x).word j=if i=j then x else S.word j:=by
 have h1:i=0∨i=1∨i=2∨i=3:=by omega
 have h2:j=0∨j=1∨j=2∨j=3:=by omega
 rcases h1 with rfl | rfl | rfl | rfl<;>rcases h2 with rfl | rfl | rfl | rfl<;>rfl
theorem has_put (S:CSet) (b x:Nat) (hb:b<256) (hx:x<256):(S.put b).has x=(S.has x||decide (x=b)):=by
 unfold put has
 rw [word_setWord _ _ _ _ (by omega) (by omega)]
 by_cases e:b / 64=x / 64
 · rw [if_pos e,BitVec.getLsbD_or,←e]
   congr 1
   rw [BitVec.getLsbD_shiftLeft]
   have hm:x % 64<64:=by omega
   by_cases e2:x=b
   · subst e2;simp [hm]
   · have:x % 64≠b % 64:=by omega
     have e3:decide (x=b)=false:=by simp [e2]
     rw [e3]
     by_cases h4:x % 64<b % 64
     · simp [h4]
     · have h5:0<x % 64-b % 64:=by omega
       simp [h4,hm]
       omega
 · rw [if_neg e]
   have:x≠b:=fun h=>e (by rw [h])
   simp [this]
theorem has_or (S T:CSet) (x:Nat):(S.or T).has x=(S.has x||T.has x):=by
 unfold has or word
 split<;>simp
theorem has_span (lo:Nat):∀(n x:Nat),lo+n≤256→x<256→(span lo n).has x=(decide (lo≤x)&&decide (x<lo+n))
 | 0,x,_,_=>by
   rw [span,has_empty]
   by_cases h:lo≤x
   · simp [h]
   · simp [h]
 | n+1,x,h,hx=>by
   rw [span,has_put _ _ _ (by omega) hx,has_span lo n x (by omega) hx,Bool.eq_iff_iff]
   simp
   omega
theorem has_between (lo hi x:Nat) (h:hi<256) (hx:x<256):(between lo hi).has x=(decide (lo≤x)&&decide (x≤hi)):=by
 unfold between
 by_cases hl:lo≤hi
 · rw [has_span _ _ _ (by omega) hx,Bool.eq_iff_iff]
   simp
   omega
 · rw [show hi+1-lo=0 by omega,span,has_empty]
   symm
   rw [Bool.eq_false_iff]
   simp
   omega
theorem or_comm (S T:CSet):S.or T=T.or S:=ext_has fun b _=>by rw [has_or,has_or,Bool.or_comm]
def firstFrom (S:CSet) (b:Nat):Nat→Int
 | 0=>-1
 | n+1=>if S.has b then b else S.firstFrom (b+1) n
def first (S:CSet):Int:=S.firstFrom 0 256
theorem first_at (S:CSet):∀(n b k:Nat),b≤k→k<b+n→S.has k=true→(∀j,b≤j→j<k→S.has j=false)→S.firstFrom b n=k
 | 0,b,k,h1,h2,_,_=>by omega
 | n+1,b,k,h1,h2,h3,h4=>by
   unfold firstFrom
   by_cases e:b=k
   · subst e;rw [if_pos h3]
   · rw [if_neg (by rw [h4 b (Nat.le_refl _) (by omega)];simp),first_at S n (b+1) k (by omega) (by omega) h3 (fun j hj hk=>h4 j (by omega) hk)]
theorem first_none (S:CSet):∀(n b:Nat),(∀j,b≤j→j<b+n→S.has j=false)→S.firstFrom b n=-1
 | 0,b,_=>rfl
 | n+1,b,h=>by
   unfold firstFrom
   rw [if_neg (by rw [h b (Nat.le_refl _) (by omega)];simp),first_none S n (b+1) (fun j hj hk=>h j (by omega) (by omega))]
end CSet
end Go.Proofs.YtjhbgkakhaonaaaGreatDoor
