/- Texts that the proof leans on. -/
import Derived.Laws.BitsAllLaws
import Derived.Test.YtbpihhelojjedaaDoorK314
import Derived.Below
import Derived.Calls
import Derived.Deep.Draws
import Derived.WalkSpells
set_option linter.unusedVariables false
set_option linter.unusedSimpArgs false
set_option maxRecDepth 100000
set_option maxHeartbeats 4000000
namespace Go.Proofs.YtbpihhelojjedaaDoor
open Go
structure CSet where
 a:BitVec 64
 b:BitVec 64
 c:BitVec 64
 d:BitVec 64
deriving DecidableEq
namespace CSet
def word (S:CSet):Nat→BitVec 64
 | 0=>S.a
 | 1=>S.b
 | 2=>S.c
 | _=>S.d
def has (S:CSet) (b:Nat):Bool:=(S.word (b / 64)).getLsbD (b % 64)
def empty:CSet:=⟨0,0,0,0⟩
def setWord (S:CSet):Nat→BitVec 64→CSet
 | 0,x=>{S with a:=x}
 | 1,x=>{S with b:=x}
 | 2,x=>{S with c:=x}
 | _,x=>{S with d:=x}
def put (S:CSet) (b:Nat):CSet:=S.setWord (b / 64) (S.word (b / 64)||| (1#64<<<(b % 64)))
def or (S T:CSet):CSet:=⟨S.a||| T.a,S.b||| T.b,S.c||| T.c,S.d||| T.d⟩
def and (S T:CSet):CSet:=⟨S.a&&& T.a,S.b&&& T.b,S.c&&& T.c,S.d&&& T.d⟩
def not (S:CSet):CSet:=⟨~~~S.a,~~~S.b,~~~S.c,~~~S.d⟩
def span (lo:Nat):Nat→CSet
 | 0=>empty
 | n+1=>(span lo n).put (lo+n)
def between (lo hi:Nat):CSet:=span lo (hi+1-lo)
def mix (S T:CSet) (k:Nat):CSet:=⟨if 0<k then T.a else S.a,if 1<k then T.b else S.b,if 2<k then T.c else S.c,if 3<k then T.d else S.d⟩
theorem ext_has {S T:CSet} (h:∀b,b<256→S.has b=T.has b):S=T:=by
 have w:∀k,k<4→S.word k=T.word k:=fun k hk=>by
  apply BitVec.eq_of_getLsbD_eq
  intro i hi
  have:=h (64*k+i) (by omega)
  unfold has at this
  rw [show (64*k+i) / 64=k by omega,show (64*k+i) % 64=i by omega] at this
  exact this
 have h0:=w 0 (by omega);have h1:=w 1 (by omega);have h2:=w 2 (by omega);have h3:=w 3 (by omega)
 cases S;cases T
 simp only [word] at h0 h1 h2 h3
 simp [h0,h1,h2,h3]
theorem has_empty (b:Nat):empty.has b=false:=by
 unfold has empty word
 split<;>simp
theorem word_setWord (S:CSet) (i j:Nat) (x:BitVec 64) (hi:i<4) (hj:j<4):(S.setWord i x).word j=if i=j then x else S.word j:=by
 have h1:i=0∨i=1∨i=2∨i=3:=by omega
 have h2:j=0∨j=1∨j=2∨j=3:=by omega
 rcases h1 with rfl | rfl | rfl | rfl<;>rcases h2 with rfl | rfl | rfl | rfl<;>rfl
theorem has_put (S:CSet) (b x:Nat) (hb:b<256) (hx:x<256):(S.put b).has x=(S.has x||decide (x=b)):=by
 unfold put has
 rw [word_setWord _ _ _ _ (by omega) (by omega)]
 by_cases e:b / 64=x / 64
 · rw [if_pos e,BitVec.getLsbD_or,←e]
   congr 1
   rw [BitVec.getLsbD_shiftLeft]
   have hm:x % 64<64:=by omega
   by_cases e2:x=b
   · subst e2;simp [hm]
   · have:x % 64≠b % 64:=by omega
     have e3:decide (x=b)=false:=by simp [e2]
     rw [e3]
     by_cases h4:x % 64<b % 64
     · simp [h4]
     · have h5:0<x % 64-b % 64:=by omega
       simp [h4,hm]
       omega
 · rw [if_neg e]
   have:x≠b:=fun h=>e (by rw [h])
   simp [this]
theorem has_or (S T:CSet) (x:Nat):(S.or T).has x=(S.has x||T.has x):=by
 unfold has or word
 split<;>simp
theorem has_span (lo:Nat):∀(n x:Nat),lo+n≤256→x<256→(span lo n).has x=(decide (lo≤x)&&decide (x<lo+n))
 | 0,x,_,_=>by
   rw [span,has_empty]
   by_cases h:lo≤x
   · simp [h]
   · simp [h]
 | n+1,x,h,hx=>by
   rw [span,has_put _ _ _ (by omega) hx,has_span lo n x (by omega) hx,Bool.eq_iff_iff]
   simp
   omega
theorem has_between (lo hi x:Nat) (h:hi<256) (hx:x<256):(between lo hi).has x=(decide (lo≤x)&&decide (x≤hi)):=by
 unfold between
 by_cases hl:lo≤hi
 · rw [has_span _ _ _ (by omega) hx,Bool.eq_iff_iff]
   simp
   omega
 · rw [show hi+1-lo=0 by omega,span,has_empty]
   symm
   rw [Bool.eq_false_iff]
   simp
   omega
theorem or_comm (S T:CSet):S.or T=T.or S:=ext_has fun b _=>by rw [has_or,has_or,Bool.or_comm]
def firstFrom (S:CSet) (b:Nat):Nat→Int
 | 0=>-1
 | n+1=>if S.has b then b else S.firstFrom (b+1) n
def first (S:CSet):Int:=S.firstFrom 0 256
theorem first_at (S:CSet):∀(n b k:Nat),b≤k→k<b+n→S.has k=true→(∀j,b≤j→j<k→S.has j=false)→S.firstFrom b n=k
 | 0,b,k,h1,h2,_,_=>by omega
 | n+1,b,k,h1,h2,h3,h4=>by
   unfold firstFrom
   by_cases e:b=k
   · subst e;rw [if_pos h3]
   · rw [if_neg (by rw [h4 b (Nat.le_refl _) (by omega)];simp),first_at S n (b+1) k (by omega) (by omega) h3 (fun j hj hk=>h4 j (by omega) hk)]
theorem first_none (S:CSet):∀(n b:Nat),(∀j,b≤j→j<b+n→S.has j=false)→S.firstFrom b n=-1
 | 0,b,_=>rfl
 | n+1,b,h=>by
   unfold firstFrom
   rw [if_neg (by rw [h b (Nat.le_refl _) (by omega)];simp),first_none S n (b+1) (fun j hj hk=>h j (by omega) (by omega))]
end CSet
end Go.Proofs.YtbpihhelojjedaaDoor
namespace Go.Proofs.YtbpihhelojjedaaDoor
open Go
structure Node where
 mk::
 kind:Int
 set:CSet
 kids:List Node
 min:Int
 max:Int
inductive Res (α:Type) where
 | ok (a:α) (p:Nat)
 | bad (e:Int) (p:Nat)
 | out
namespace Rx
def pk (l:List UInt8) (i:Nat):Int:=match l[i]? with | some b=>(b.toNat:Int) | none=>-1
def other {α:Type} (l:List UInt8) (i:Nat):Res α:=if pk l i<0 then .bad 1 l.length else .bad 2 i
def hexv (b:Int):Int:=if 48≤b∧b≤57 then b-48 else if 97≤b∧b≤102 then b-87 else-1
def digits:CSet:=CSet.between 48 57
def words:CSet:=((CSet.between 48 57).or (CSet.between 65 90)).or ((CSet.between 97 122).or (CSet.between 95 95))
def one (b:Int):CSet:=CSet.between b.toNat b.toNat
def plainB (b:Int):Bool:=[92,46,91,93,40,41,123,125,124,42,43,63,45,94].contains b
def esc (l:List UInt8) (i:Nat):Res (CSet × Bool):=
 if pk l (i+1)=-1 then .bad 1 l.length
 else if pk l (i+1)=100 then .ok (digits,true) (i+2)
 else if pk l (i+1)=119 then .ok (words,true) (i+2)
 else if pk l (i+1)=120 then
  if pk l (i+2)=-1 then .bad 1 l.length
  else if hexv (pk l (i+2))<0 then .bad 2 i
  else if pk l (i+3)=-1 then .bad 1 l.length
  else if hexv (pk l (i+3))<0 then .bad 2 i
  else .ok (one (16*hexv (pk l (i+2))+hexv (pk l (i+3))),false) (i+4)
 else if plainB (pk l (i+1)) then .ok (one (pk l (i+1)),false) (i+2)
 else .bad 2 i
def sign (l:List UInt8) (i:Nat):Res (CSet × Bool):=
 if pk l i=92 then esc l i
 else if pk l i=-1∨pk l i=91∨pk l i=93∨pk l i=45∨pk l i=94 then other l i
 else .ok (one (pk l i),false) (i+1)
def item (l:List UInt8) (i:Nat):Res CSet:=
 match sign l i with
 | .ok (S,many) p=>
   if many=true∨pk l p≠45 then .ok S p
   else match sign l (p+1) with
    | .ok (T,more) q=>if more=true∨T.first<S.first then .bad 2 (p+1) else .ok (CSet.between S.first.toNat T.first.toNat) q
    | .bad e q=>.bad e q
    | .out=>.out
 | .bad e p=>.bad e p
 | .out=>.out
def items (l:List UInt8):Nat→CSet→Nat→Res CSet
 | 0,_,_=>.out
 | f+1,S,i=>match item l i with
   | .ok T p=>if pk l p=93 then .ok (S.or T) p else items l f (S.or T) p
   | .bad e p=>.bad e p
   | .out=>.out
def cls (l:List UInt8) (i:Nat):Res CSet:=
 match items l (l.length+1) CSet.empty (if pk l i=94 then i+1 else i) with
 | .ok S p=>.ok (if pk l i=94 then S.not else S) (p+1)
 | .bad e p=>.bad e p
 | .out=>.out
def digitB (b:Int):Bool:=decide (48≤b)&&decide (b≤57)
def digs (l:List UInt8):Nat→Nat→Nat→Nat × Nat
 | 0,n,i=>(n,i)
 | f+1,n,i=>if digitB (pk l i) then digs l f (Nat.min (10*n+(pk l i-48).toNat) 1000) (i+1) else (n,i)
def number (l:List UInt8) (i:Nat):Res Nat:=
 if (digs l (l.length-i) 0 i).2=i then other l i
 else if pk l i=48∧(digs l (l.length-i) 0 i).2>i+1 then .bad 2 i
 else if (digs l (l.length-i) 0 i).1>16 then .bad 3 i
 else .ok (digs l (l.length-i) 0 i).1 (digs l (l.length-i) 0 i).2
def brc (l:List UInt8) (i:Nat):Res (Int × Int):=
 match number l i with
 | .ok low p=>
   if pk l p=44 then
    if pk l (p+1)=125 then .ok ((low:Int),-1) (p+1)
    else match number l (p+1) with
     | .ok high q=>if high=0∨high<low then .bad 2 (p+1) else .ok ((low:Int),(high:Int)) q
     | .bad e q=>.bad e q
     | .out=>.out
   else if low=0 then .bad 2 i else .ok ((low:Int),(low:Int)) p
 | .bad e p=>.bad e p
 | .out=>.out
def rep (n:Node) (low high:Int):Node:=.mk 4 CSet.empty [n] low high
def flat (kind:Int):List Node→List Node
 | []=>[]
 | n::r=>if n.kind=kind then n.kids++flat kind r else n::flat kind r
def join (kind:Int) (parts:List Node):Node:=
 match flat kind parts with
 | [n]=>n
 | l=>.mk kind CSet.empty l 0 0
section
variable (l:List UInt8) (atm:Nat→Res Node)
def piece (i:Nat):Res Node:=
 match atm i with
 | .ok n p=>
   if pk l p=42 then .ok (rep n 0 (-1)) (p+1)
   else if pk l p=43 then .ok (rep n 1 (-1)) (p+1)
   else if pk l p=63 then .ok (rep n 0 1) (p+1)
   else if pk l p=123 then
    match brc l (p+1) with
    | .ok (low,high) q=>if pk l q=125 then .ok (rep n low high) (q+1) else other l q
    | .bad e q=>.bad e q
    | .out=>.out
   else .ok n p
 | .bad e p=>.bad e p
 | .out=>.out
def pieces:Nat→List Node→Nat→Res (List Node)
 | 0,_,_=>.out
 | f+1,ns,i=>
   if pk l i=-1∨pk l i=124∨pk l i=41 then .ok ns i
   else match piece l atm i with
    | .ok n p=>pieces f (ns++[n]) p
    | .bad e p=>.bad e p
    | .out=>.out
def cat (i:Nat):Res Node:=
 match pieces l atm (l.length+1) [] i with
 | .ok ns p=>.ok (join 2 ns) p
 | .bad e p=>.bad e p
 | .out=>.out
def cats:Nat→List Node→Nat→Res (List Node)
 | 0,_,_=>.out
 | f+1,ns,i=>
   if pk l i=124 then
    match cat l atm (i+1) with
    | .ok n p=>cats f (ns++[n]) p
    | .bad e p=>.bad e p
    | .out=>.out
   else .ok ns i
def alt (i:Nat):Res Node:=
 match cat l atm i with
 | .ok n p=>match cats l atm (l.length+1) [n] p with
   | .ok [n] q=>.ok n q
   | .ok ns q=>.ok (join 3 ns) q
   | .bad e q=>.bad e q
   | .out=>.out
 | .bad e p=>.bad e p
 | .out=>.out
end
def wrongAtom (b:Int):Bool:=[-1,41,93,123,125,124,42,43,63].contains b
def atom (l:List UInt8):Nat→Nat→Res Node
 | d, i=>
   if wrongAtom (pk l i) then other l i
   else if pk l i=40 then
    match d with
    | 0=>.bad 3 i
    | d+1=>match alt l (atom l d) (i+1) with
      | .ok n p=>if pk l p=41 then .ok n (p+1) else other l p
      | .bad e p=>.bad e p
      | .out=>.out
   else if pk l i=46 then .ok (.mk 1 (CSet.between 0 255) [] 0 0) (i+1)
   else if pk l i=91 then
    match cls l (i+1) with
    | .ok S p=>.ok (.mk 1 S [] 0 0) p
    | .bad e p=>.bad e p
    | .out=>.out
   else if pk l i=92 then
    match esc l i with
    | .ok (S,_) p=>.ok (.mk 1 S [] 0 0) p
    | .bad e p=>.bad e p
    | .out=>.out
   else .ok (.mk 1 (one (pk l i)) [] 0 0) (i+1)
def zero:Node:=.mk 0 CSet.empty [] 0 0
def parse (l:List UInt8):Node × Int × Nat:=
 if l.length>256 then (zero,3,256)
 else match alt l (atom l 16) 0 with
  | .ok n p=>if p<l.length then (match (other l p:Res Node) with | .bad e q=>(zero,e,q) | _=>(zero,0,0)) else (n,0,0)
  | .bad e p=>(zero,e,p)
  | .out=>(zero,0,0)
end Rx
def Fine {α:Type} (l:List UInt8) (i:Nat) (r:Res α):Prop:=match r with
 | .ok _ p=>i<p∧p≤l.length
 | .bad _ _=>True
 | .out=>False
theorem pk_in {l:List UInt8} {i:Nat} (h:Rx.pk l i≠-1):i<l.length:=by
 unfold Rx.pk at h
 split at h
 · rename_i b hb
   exact (List.getElem?_eq_some_iff.1 hb).1
 · exact absurd rfl h
theorem fine_other {α:Type} (l:List UInt8) (i j:Nat):Fine l i (Rx.other l j:Res α):=by
 unfold Rx.other
 split<;>exact True.intro
theorem Fine.mono {α:Type} {l:List UInt8} {i j:Nat} {r:Res α} (h:Fine l j r) (hij:i≤j):Fine l i r:=by
 cases r with
 | ok a p=>exact ⟨Nat.lt_of_le_of_lt hij h.1,h.2⟩
 | bad e p=>trivial
 | out=>exact h
theorem pkb (l:List UInt8) (i:Nat): -1≤Rx.pk l i∧Rx.pk l i≤255:=by
 unfold Rx.pk
 split
 · rename_i b _
   have:=b.toNat_lt
   omega
 · omega
theorem fine_esc (l:List UInt8) (i:Nat):Fine l i (Rx.esc l i):=by
 unfold Rx.esc
 split
 · trivial
 · rename_i h
   have h1:=pk_in h
   split
   · exact ⟨by omega,by omega⟩
   · split
     · exact ⟨by omega,by omega⟩
     · split
       · split
         · trivial
         · split
           · trivial
           · split
             · trivial
             · rename_i h3
               have:=pk_in h3
               split
               · trivial
               · exact ⟨by omega,by omega⟩
       · split
         · exact ⟨by omega,by omega⟩
         · trivial
theorem fine_sign (l:List UInt8) (i:Nat):Fine l i (Rx.sign l i):=by
 unfold Rx.sign
 split
 · exact fine_esc l i
 · split
   · exact fine_other l i i
   · rename_i h
     have:=pk_in (l:=l) (i:=i) (fun e=>h (Or.inl e))
     exact ⟨by omega,by omega⟩
theorem fine_item (l:List UInt8) (i:Nat):Fine l i (Rx.item l i):=by
 unfold Rx.item
 have h1:=fine_sign l i
 cases hr:Rx.sign l i with
 | bad e q=>trivial
 | out=>rw [hr] at h1;exact h1
 | ok r p=>
   rw [hr] at h1
   obtain ⟨S,many⟩:=r
   dsimp only
   have h2:=fine_sign l (p+1)
   split
   · exact h1
   · cases hq:Rx.sign l (p+1) with
     | bad e q=>trivial
     | out=>rw [hq] at h2;exact h2
     | ok r q=>
       rw [hq] at h2
       obtain ⟨T,more⟩:=r
       dsimp only
       split
       · trivial
       · unfold Fine at *
         simp only at *
         omega
def Fine0 {α:Type} (l:List UInt8) (i:Nat) (r:Res α):Prop:=match r with
 | .ok _ p=>i≤p∧p≤l.length
 | .bad _ _=>True
 | .out=>False
theorem Fine0.mono {α:Type} {l:List UInt8} {i j:Nat} {r:Res α} (h:Fine0 l j r) (hij:i≤j):Fine0 l i r:=by
 cases r with
 | ok a p=>exact ⟨Nat.le_trans hij h.1,h.2⟩
 | bad e p=>trivial
 | out=>exact h
theorem fine_items (l:List UInt8):∀(f:Nat) (S:CSet) (i:Nat),i≤l.length→l.length<i+f→Fine l i (Rx.items l f S i)
 | 0,S,i,h,h'=>by omega
 | f +1,S,i,h,h'=>by
   unfold Rx.items
   have h1:=fine_item l i
   cases hr:Rx.item l i with
   | bad e q=>trivial
   | out=>rw [hr] at h1;exact h1
   | ok T p=>
     rw [hr] at h1
     have h2:i<p∧p≤l.length:=h1
     dsimp only
     split
     · exact h1
     · exact (fine_items l f (S.or T) p h2.2 (by omega)).mono (by omega)
theorem items_end (l:List UInt8):∀(f:Nat) (S:CSet) (i:Nat) {T:CSet} {p:Nat},Rx.items l f S i=.ok T p→Rx.pk l p=93
 | 0,S,i,T,p,h=>by simp [Rx.items] at h
 | f + 1,S,i,T,p,h=>by
   unfold Rx.items at h
   cases hr:Rx.item l i with
   | bad e q=>rw [hr] at h;simp at h
   | out=>rw [hr] at h;simp at h
   | ok U q=>
     rw [hr] at h
     dsimp only at h
     split at h
     · rename_i hq
       obtain ⟨rfl,rfl⟩:=Res.ok.inj h
       exact hq
     · exact items_end l f _ q h
theorem fine_cls (l:List UInt8) (i:Nat) (hi:i≤l.length):Fine l i (Rx.cls l i):=by
 unfold Rx.cls
 have h0:(if Rx.pk l i=94 then i+1 else i)≤l.length∧i≤(if Rx.pk l i=94 then i+1 else i):=by
  split
  · rename_i h;have:=pk_in (l:=l) (i:=i) (by rw [h];decide);omega
  · omega
 generalize (if Rx.pk l i=94 then i+1 else i)=j at *
 have h1:=fine_items l (l.length+1) CSet.empty j h0.1 (by omega)
 cases hr:Rx.items l (l.length+1) CSet.empty j with
 | bad e q=>trivial
 | out=>rw [hr] at h1;exact h1
 | ok T p=>
   rw [hr] at h1
   have h2:j<p∧p≤l.length:=h1
   have:=pk_in (l:=l) (i:=p) (by rw [items_end l _ _ _ hr];decide)
   exact ⟨by omega,by omega⟩
theorem digs_bd (l:List UInt8):∀(f n i:Nat),i≤l.length→i≤(Rx.digs l f n i).2∧(Rx.digs l f n i).2≤l.length
 | 0,n,i,h=>⟨Nat.le_refl _,h⟩
 | f +1,n,i,h=>by
   unfold Rx.digs
   split
   · rename_i hd
     have hi:i<l.length:=pk_in (by intro e;rw [e] at hd;simp [Rx.digitB] at hd)
     have:=digs_bd l f (Nat.min (10*n+(Rx.pk l i-48).toNat) 1000) (i+1) (by omega)
     omega
   · exact ⟨Nat.le_refl _,h⟩
theorem fine_number (l:List UInt8) (i:Nat) (hi:i≤l.length):Fine l i (Rx.number l i):=by
 unfold Rx.number
 have:=digs_bd l (l.length-i) 0 i hi
 split
 · exact fine_other l i i
 · split
   · trivial
   · split
     · trivial
     · exact ⟨by omega,by omega⟩
theorem fine_brc (l:List UInt8) (i:Nat) (hi:i≤l.length):Fine l i (Rx.brc l i):=by
 unfold Rx.brc
 have h1:=fine_number l i hi
 cases hr:Rx.number l i with
 | bad e q=>trivial
 | out=>rw [hr] at h1;exact h1
 | ok n p=>
   rw [hr] at h1
   have h2:i<p∧p≤l.length:=h1
   dsimp only
   split
   · rename_i hc
     have hp:=pk_in (l:=l) (i:=p) (by rw [hc];decide)
     split
     · exact ⟨by omega,by omega⟩
     · have h3:=fine_number l (p+1) hp
       cases hq:Rx.number l (p+1) with
       | bad e q=>trivial
       | out=>rw [hq] at h3;exact h3
       | ok m q=>
         rw [hq] at h3
         have h4:p+1<q∧q≤l.length:=h3
         dsimp only
         split
         · trivial
         · exact ⟨by omega,by omega⟩
   · split
     · trivial
     · exact h1
theorem fine_piece (l:List UInt8) (atm:Nat→Res Node) (i:Nat) (ha:Fine l i (atm i)):Fine l i (Rx.piece l atm i):=by
 unfold Rx.piece
 cases hr:atm i with
 | bad e q=>trivial
 | out=>rw [hr] at ha;exact ha
 | ok n p=>
   rw [hr] at ha
   have h2:i<p∧p≤l.length:=ha
   dsimp only
   split
   · rename_i hc;have hp:=pk_in (l:=l) (i:=p) (by rw [hc];decide);exact ⟨by omega,by omega⟩
   · split
     · rename_i hc;have hp:=pk_in (l:=l) (i:=p) (by rw [hc];decide);exact ⟨by omega,by omega⟩
     · split
       · rename_i hc;have hp:=pk_in (l:=l) (i:=p) (by rw [hc];decide);exact ⟨by omega,by omega⟩
       · split
         · rename_i hc
           have hp:=pk_in (l:=l) (i:=p) (by rw [hc];decide)
           have h3:=fine_brc l (p+1) hp
           cases hq:Rx.brc l (p+1) with
           | bad e q=>trivial
           | out=>rw [hq] at h3;exact h3
           | ok r q=>
             rw [hq] at h3
             obtain ⟨a,b⟩:=r
             have h4:p+1<q∧q≤l.length:=h3
             dsimp only
             split
             · rename_i hc;have hp:=pk_in (l:=l) (i:=q) (by rw [hc];decide);exact ⟨by omega,by omega⟩
             · exact fine_other l i q
         · exact ha
theorem fine_pieces (l:List UInt8) (atm:Nat→Res Node) (ha:∀i,i≤l.length→Fine l i (atm i)):∀(f:Nat) (ns:List Node) (i:Nat),i≤l.length→l.length<i+f→Fine0 l i (Rx.pieces l atm f ns i)
 | 0,ns,i,h,h'=>by omega
 | f + 1,ns,i,h,h'=>by
   unfold Rx.pieces
   split
   · exact ⟨Nat.le_refl _,h⟩
   · have h1:=fine_piece l atm i (ha i h)
     cases hr:Rx.piece l atm i with
     | bad e q=>trivial
     | out=>rw [hr] at h1;exact h1
     | ok n p=>
       rw [hr] at h1
       have h2:i<p∧p≤l.length:=h1
       exact (fine_pieces l atm ha f (ns++[n]) p h2.2 (by omega)).mono (by omega)
theorem fine_cat (l:List UInt8) (atm:Nat→Res Node) (ha:∀i,i≤l.length→Fine l i (atm i)) (i:Nat) (hi:i≤l.length):Fine0 l i (Rx.cat l atm i):=by
 unfold Rx.cat
 have h1:=fine_pieces l atm ha (l.length+1) [] i hi (by omega)
 cases hr:Rx.pieces l atm (l.length+1) [] i with
 | bad e q=>trivial
 | out=>rw [hr] at h1;exact h1
 | ok ns p=>rw [hr] at h1;exact h1
theorem fine_cats (l:List UInt8) (atm:Nat→Res Node) (ha:∀i,i≤l.length→Fine l i (atm i)):∀(f:Nat) (ns:List Node) (i:Nat),i≤l.length→l.length<i+f→Fine0 l i (Rx.cats l atm f ns i)
 | 0,ns,i,h,h'=>by omega
 | f + 1,ns,i,h,h'=>by
   unfold Rx.cats
   split
   · rename_i hc
     have hp:=pk_in (l:=l) (i:=i) (by rw [hc];decide)
     have h1:=fine_cat l atm ha (i+1) hp
     cases hr:Rx.cat l atm (i+1) with
     | bad e q=>trivial
     | out=>rw [hr] at h1;exact h1
     | ok n p=>
       rw [hr] at h1
       have h2:i+1≤p∧p≤l.length:=h1
       exact (fine_cats l atm ha f (ns++[n]) p h2.2 (by omega)).mono (by omega)
   · exact ⟨Nat.le_refl _,h⟩
theorem fine_alt (l:List UInt8) (atm:Nat→Res Node) (ha:∀i,i≤l.length→Fine l i (atm i)) (i:Nat) (hi:i≤l.length):Fine0 l i (Rx.alt l atm i):=by
 unfold Rx.alt
 have h1:=fine_cat l atm ha i hi
 cases hr:Rx.cat l atm i with
 | bad e q=>trivial
 | out=>rw [hr] at h1;exact h1
 | ok n p=>
   rw [hr] at h1
   have h2:i≤p∧p≤l.length:=h1
   dsimp only
   have h3:=fine_cats l atm ha (l.length+1) [n] p h2.2 (by omega)
   cases hq:Rx.cats l atm (l.length+1) [n] p with
   | bad e q=>trivial
   | out=>rw [hq] at h3;exact h3
   | ok ns q=>
     rw [hq] at h3
     have h4:p≤q∧q≤l.length:=h3
     split
     · rename_i e;obtain ⟨rfl,rfl⟩:=Res.ok.inj e;exact ⟨by omega,by omega⟩
     · rename_i e;obtain ⟨rfl,rfl⟩:=Res.ok.inj e;exact ⟨by omega,by omega⟩
     · trivial
     · rename_i e;cases e
theorem fine_atom (l:List UInt8):∀(d i:Nat),i≤l.length→Fine l i (Rx.atom l d i):=by
 intro d
 induction d with
 | zero=>
   intro i hi
   unfold Rx.atom
   split
   · exact fine_other l i i
   · rename_i hw
     have hp:=pk_in (l:=l) (i:=i) (by intro e;rw [e] at hw;simp [Rx.wrongAtom] at hw)
     split
     · trivial
     · split
       · exact ⟨by omega,by omega⟩
       · split
         · have h1:=fine_cls l (i+1) hp
           cases hr:Rx.cls l (i+1) with
           | bad e q=>trivial
           | out=>rw [hr] at h1;exact h1
           | ok S q=>
             rw [hr] at h1
             have h2:i+1<q∧q≤l.length:=h1
             exact ⟨by omega,by omega⟩
         · split
           · have h1:=fine_esc l i
             cases hr:Rx.esc l i with
             | bad e q=>trivial
             | out=>rw [hr] at h1;exact h1
             | ok S q=>rw [hr] at h1;exact h1
           · exact ⟨by omega,by omega⟩
 | succ d ih =>
   intro i hi
   unfold Rx.atom
   split
   · exact fine_other l i i
   · rename_i hw
     have hp:=pk_in (l:=l) (i:=i) (by intro e;rw [e] at hw;simp [Rx.wrongAtom] at hw)
     split
     · have h1:=fine_alt l (Rx.atom l d) ih (i+1) hp
       dsimp only
       cases hr:Rx.alt l (Rx.atom l d) (i+1) with
       | bad e q=>trivial
       | out=>rw [hr] at h1;exact h1
       | ok n q=>
         rw [hr] at h1
         have h2:i+1≤q∧q≤l.length:=h1
         dsimp only
         split
         · rename_i hc;have hp:=pk_in (l:=l) (i:=q) (by rw [hc];decide);exact ⟨by omega,by omega⟩
         · exact fine_other l i q
     · split
       · exact ⟨by omega,by omega⟩
       · split
         · have h1:=fine_cls l (i+1) hp
           cases hr:Rx.cls l (i+1) with
           | bad e q=>trivial
           | out=>rw [hr] at h1;exact h1
           | ok S q=>
             rw [hr] at h1
             have h2:i+1<q∧q≤l.length:=h1
             exact ⟨by omega,by omega⟩
         · split
           · have h1:=fine_esc l i
             cases hr:Rx.esc l i with
             | bad e q=>trivial
             | out=>rw [hr] at h1;exact h1
             | ok S q=>rw [hr] at h1;exact h1
           · exact ⟨by omega,by omega⟩
mutual
def Node.size:Node→Nat
 | .mk _ _ kids _ _=>1+Node.sizes kids
def Node.sizes:List Node→Nat
 | []=>0
 | n::r=>Node.size n+Node.sizes r
end
theorem Node.size_eq (n:Node):n.size=1+Node.sizes n.kids:=by cases n;unfold Node.size;rfl
theorem Node.size_pos (n:Node):1≤n.size:=by rw [Node.size_eq];omega
theorem Node.sizes_nil:Node.sizes []=0:=by unfold Node.sizes;rfl
theorem Node.sizes_cons (n:Node) (r:List Node):Node.sizes (n::r)=n.size+Node.sizes r:=by conv=>lhs;unfold Node.sizes
theorem Node.sizes_append (a b:List Node):Node.sizes (a++b)=Node.sizes a+Node.sizes b:=by
 induction a with
 | nil=>rw [List.nil_append,Node.sizes_nil];omega
 | cons n r ih=>rw [List.cons_append,Node.sizes_cons,Node.sizes_cons,ih];omega
theorem Node.length_le_sizes (a:List Node):a.length≤Node.sizes a:=by
 induction a with
 | nil=>simp
 | cons n r ih=>rw [Node.sizes_cons,List.length_cons];have:=n.size_pos;omega
theorem Node.kids_le (n:Node):n.kids.length≤n.size:=by have:=Node.length_le_sizes n.kids;rw [Node.size_eq];omega
namespace Rx
theorem flat_append (k:Int) (a b:List Node):flat k (a++b)=flat k a++flat k b:=by
 induction a with
 | nil=>rfl
 | cons n r ih=>simp only [List.cons_append,flat];split<;>simp [ih]
theorem flat_one (k:Int) (n:Node):flat k [n]=if n.kind=k then n.kids else [n]:=by
 simp only [flat];split<;>simp
theorem flat_sizes (k:Int) (a:List Node):Node.sizes (flat k a)≤Node.sizes a:=by
 induction a with
 | nil=>simp [flat]
 | cons n r ih=>
   simp only [flat]
   split
   · rw [Node.sizes_append,Node.sizes_cons,Node.size_eq];omega
   · rw [Node.sizes_cons,Node.sizes_cons];omega
theorem join_size (k:Int) (a:List Node):(join k a).size≤1+Node.sizes a:=by
 have h:=flat_sizes k a
 unfold join
 split
 · rename_i n e
   rw [e,Node.sizes_cons,Node.sizes_nil] at h
   omega
 · rw [Node.size_eq];show 1+Node.sizes (flat k a)≤_;omega
def Lean2 (l:List UInt8) (f:Nat→Res Node):Prop:=∀i n p,i≤l.length→f i=.ok n p→n.size≤2*(p-i)
section
variable {l:List UInt8} {atm:Nat→Res Node}
theorem size_piece (ha:Lean2 l atm) (hf:∀i,i≤l.length→Fine l i (atm i)):Lean2 l (piece l atm):=by
 intro i n p hi h
 unfold piece at h
 cases hr:atm i with
 | bad e q=>rw [hr] at h;cases h
 | out=>rw [hr] at h;cases h
 | ok m q=>
   rw [hr] at h
   have h1:=ha i m q hi hr
   have h2:=hf i hi
   rw [hr] at h2
   have h3:i<q∧q≤l.length:=h2
   have hs:∀a b,(rep m a b).size=m.size+1:=fun a b=>by
    rw [Node.size_eq];show 1+Node.sizes [m]=_;rw [Node.sizes_cons,Node.sizes_nil];omega
   dsimp only at h
   split at h
   · obtain ⟨rfl,rfl⟩:=Res.ok.inj h;rw [hs];omega
   · split at h
     · obtain ⟨rfl,rfl⟩:=Res.ok.inj h;rw [hs];omega
     · split at h
       · obtain ⟨rfl,rfl⟩:=Res.ok.inj h;rw [hs];omega
       · split at h
         · rename_i hc
           have hp:=pk_in (l:=l) (i:=q) (by rw [hc];decide)
           have h4:=fine_brc l (q+1) hp
           cases hq:brc l (q+1) with
           | bad e r=>rw [hq] at h;cases h
           | out=>rw [hq] at h;cases h
           | ok a r=>
             rw [hq] at h h4
             obtain ⟨lo,hi'⟩:=a
             have h5:q+1<r∧r≤l.length:=h4
             dsimp only at h
             split at h
             · obtain ⟨rfl,rfl⟩:=Res.ok.inj h;rw [hs];omega
             · unfold other at h;split at h<;>cases h
         · obtain ⟨rfl,rfl⟩:=Res.ok.inj h;exact h1
theorem size_pieces (ha:Lean2 l atm) (hf:∀i,i≤l.length→Fine l i (atm i)):∀(f:Nat) (ns:List Node) (i:Nat) (ms:List Node) (p:Nat),i≤l.length→pieces l atm f ns i=.ok ms p→Node.sizes ms≤Node.sizes ns+2*(p-i)∧i≤p
 | 0,ns,i,ms,p,hi,h=>by simp [pieces] at h
 | f + 1,ns,i,ms,p,hi,h=>by
   unfold pieces at h
   split at h
   · obtain ⟨rfl,rfl⟩:=Res.ok.inj h;omega
   · cases hr:piece l atm i with
     | bad e q=>rw [hr] at h;cases h
     | out=>rw [hr] at h;cases h
     | ok m q=>
       rw [hr] at h
       have h1:=size_piece ha hf i m q hi hr
       have h2:=fine_piece l atm i (hf i hi)
       rw [hr] at h2
       have h3:i<q∧q≤l.length:=h2
       have h4:=size_pieces ha hf f (ns++[m]) q ms p h3.2 h
       rw [Node.sizes_append,Node.sizes_cons,Node.sizes_nil] at h4
       omega
theorem size_cat (ha:Lean2 l atm) (hf:∀i,i≤l.length→Fine l i (atm i)) {i p:Nat} {n:Node} (hi:i≤l.length) (h:cat l atm i=.ok n p):n.size≤2*(p-i)+1:=by
 unfold cat at h
 cases hr:pieces l atm (l.length+1) [] i with
 | bad e q=>rw [hr] at h;cases h
 | out=>rw [hr] at h;cases h
 | ok ms q=>
   rw [hr] at h
   obtain ⟨rfl,rfl⟩:=Res.ok.inj h
   have h1:=size_pieces ha hf _ _ _ _ _ hi hr
   rw [Node.sizes_nil] at h1
   have:=join_size 2 ms
   omega
theorem size_cats (ha:Lean2 l atm) (hf:∀i,i≤l.length→Fine l i (atm i)):∀(f:Nat) (ns:List Node) (i:Nat) (ms:List Node) (p:Nat),i≤l.length→cats l atm f ns i=.ok ms p→
 (ms=ns∧p=i)∨(2≤ms.length∨ns=[])∧Node.sizes ms+1≤Node.sizes ns+2*(p-i)∧i≤p
 | 0,ns,i,ms,p,hi,h=>by simp [cats] at h
 | f + 1,ns,i,ms,p,hi,h=>by
   unfold cats at h
   split at h
   · rename_i hc
     have hp:=pk_in (l:=l) (i:=i) (by rw [hc];decide)
     cases hr:cat l atm (i+1) with
     | bad e q=>rw [hr] at h;cases h
     | out=>rw [hr] at h;cases h
     | ok m q=>
       rw [hr] at h
       have h1:=size_cat ha hf hp hr
       have h2:=fine_cat l atm hf (i+1) hp
       rw [hr] at h2
       have h3:i+1≤q∧q≤l.length:=h2
       have h4:=size_cats ha hf f (ns++[m]) q ms p h3.2 h
       rw [Node.sizes_append,Node.sizes_cons,Node.sizes_nil] at h4
       refine Or.inr ?_
       rcases h4 with ⟨rfl,rfl⟩ | ⟨h5,h6⟩
       · refine ⟨?_,?_⟩
         · cases ns with
           | nil=>exact Or.inr rfl
           | cons a r=>exact Or.inl (by simp)
         · rw [Node.sizes_append,Node.sizes_cons,Node.sizes_nil];omega
       · refine ⟨?_,by omega⟩
         rcases h5 with h5 | h5
         · exact Or.inl h5
         · simp at h5
   · obtain ⟨rfl,rfl⟩:=Res.ok.inj h;exact Or.inl ⟨rfl,rfl⟩
theorem size_alt (ha:Lean2 l atm) (hf:∀i,i≤l.length→Fine l i (atm i)) {i p:Nat} {n:Node} (hi:i≤l.length) (h:alt l atm i=.ok n p):n.size≤2*(p-i)+1:=by
 unfold alt at h
 cases hr:cat l atm i with
 | bad e q=>rw [hr] at h;cases h
 | out=>rw [hr] at h;cases h
 | ok m q=>
   rw [hr] at h
   have h1:=size_cat ha hf hi hr
   have h2:=fine_cat l atm hf i hi
   rw [hr] at h2
   have h3:i≤q∧q≤l.length:=h2
   dsimp only at h
   cases hq:cats l atm (l.length+1) [m] q with
   | bad e r=>rw [hq] at h;cases h
   | out=>rw [hq] at h;cases h
   | ok ms r=>
     rw [hq] at h
     have h4:=size_cats ha hf _ _ _ _ _ h3.2 hq
     rw [Node.sizes_cons,Node.sizes_nil] at h4
     split at h
     · rename_i e
       obtain ⟨rfl,rfl⟩:=Res.ok.inj e
       obtain ⟨rfl,rfl⟩:=Res.ok.inj h
       rcases h4 with ⟨h5,rfl⟩ | ⟨h5,h6,h7⟩
       · simp at h5;subst h5;exact h1
       · simp at h5
     · rename_i e
       obtain ⟨rfl,rfl⟩:=Res.ok.inj e
       obtain ⟨rfl,rfl⟩:=Res.ok.inj h
       have hj:=join_size 3 ms
       rcases h4 with ⟨h5,rfl⟩ | ⟨h5,h6,h7⟩
       · rename_i hx
         exact absurd h5 (hx m)
       · omega
     · cases h
     · cases h
end
theorem size_atom (l:List UInt8):∀d,Lean2 l (atom l d):=by
 intro d
 induction d with
 | zero=>
   intro i n p hi h
   unfold atom at h
   have ho:∀j,(other l j:Res Node)≠.ok n p:=fun j e=>by unfold other at e;split at e<;>cases e
   have hs:∀(S:CSet),(Node.mk 1 S [] 0 0).size=1:=fun S=>by rw [Node.size_eq];show 1+Node.sizes []=1;rw [Node.sizes_nil]
   have hfi:=fine_atom l 0 i hi
   unfold atom at hfi
   rw [h] at hfi
   have h3:i<p∧p≤l.length:=hfi
   clear hfi
   split at h
   · exact absurd h (ho i)
   · split at h
     · cases h
     · split at h
       · obtain ⟨rfl,rfl⟩:=Res.ok.inj h;rw [hs];omega
       · split at h
         · split at h
           · obtain ⟨rfl,rfl⟩:=Res.ok.inj h;rw [hs];omega
           · cases h
           · cases h
         · split at h
           · split at h
             · obtain ⟨rfl,rfl⟩:=Res.ok.inj h;rw [hs];omega
             · cases h
             · cases h
           · obtain ⟨rfl,rfl⟩:=Res.ok.inj h;rw [hs];omega
 | succ d ih =>
   intro i n p hi h
   have hfi:=fine_atom l (d+1) i hi
   rw [h] at hfi
   have h3:i<p∧p≤l.length:=hfi
   clear hfi
   unfold atom at h
   have ho:∀j,(other l j:Res Node)≠.ok n p:=fun j e=>by unfold other at e;split at e<;>cases e
   have hs:∀(S:CSet),(Node.mk 1 S [] 0 0).size=1:=fun S=>by rw [Node.size_eq];show 1+Node.sizes []=1;rw [Node.sizes_nil]
   split at h
   · exact absurd h (ho i)
   · rename_i hw
     have hp:=pk_in (l:=l) (i:=i) (by intro e;rw [e] at hw;simp [wrongAtom] at hw)
     split at h
     · dsimp only at h
       cases hr:alt l (atom l d) (i+1) with
       | bad e q=>rw [hr] at h;cases h
       | out=>rw [hr] at h;cases h
       | ok m q=>
         rw [hr] at h
         have h4:=size_alt ih (fine_atom l d) hp hr
         have h5:=fine_alt l (atom l d) (fine_atom l d) (i+1) hp
         rw [hr] at h5
         have h6:i+1≤q∧q≤l.length:=h5
         dsimp only at h
         split at h
         · obtain ⟨rfl,rfl⟩:=Res.ok.inj h;omega
         · exact absurd h (ho q)
     · split at h
       · obtain ⟨rfl,rfl⟩:=Res.ok.inj h;rw [hs];omega
       · split at h
         · split at h
           · obtain ⟨rfl,rfl⟩:=Res.ok.inj h;rw [hs];omega
           · cases h
           · cases h
         · split at h
           · split at h
             · obtain ⟨rfl,rfl⟩:=Res.ok.inj h;rw [hs];omega
             · cases h
             · cases h
           · obtain ⟨rfl,rfl⟩:=Res.ok.inj h;rw [hs];omega
end Rx
end Go.Proofs.YtbpihhelojjedaaDoor
namespace Go.Proofs.YtbpihhelojjedaaDoor
open Go Go.RowKit
open Ab
namespace Rd
def rd (s:ByteArray) (i op:Int):List V:=[fS s,fI .i64 i,fI .i64 op]
def pkI (s:ByteArray) (i:Int):Int:=Rx.pk s.data.toList i.toNat
theorem pkI_lt {s:ByteArray} {i:Int} (h0:0≤i) (h:i<(s.size:Int)):pkI s i=((s.data.getD i.toNat 0).toNat:Int):=by
 have hl:i.toNat<s.data.size:=by have:s.data.size=s.size:=rfl;omega
 unfold pkI Rx.pk
 rw [Array.getElem?_toList,Array.getElem?_eq_getElem hl,Array.getD_eq_getD_getElem?,Array.getElem?_eq_getElem hl]
 rfl
theorem pkI_ge {s:ByteArray} {i:Int} (h0:0≤i) (h:(s.size:Int)≤i):pkI s i=-1:=by
 have hl:s.data.size≤i.toNat:=by have:s.data.size=s.size:=rfl;omega
 unfold pkI Rx.pk
 rw [Array.getElem?_toList,Array.getElem?_eq_none hl]
theorem wrap_byte (b:UInt8):IntKind.i64.wrap (b.toNat:Int)=(b.toNat:Int):=by rw [IntKind.wrap_i64];have:=b.toNat_lt;omega
theorem peek_c (s:ByteArray) {i:Int} (op:Int) (h0:0≤i):Meth Tryd.prog 56 74 (rd s i op) [] (.ret (fI .i64 (pkI s i)) (rd s i op)):=by
 refine meth_of lay_ok (Tryd.call56) (Tryd.func56) rfl ?_
 intro A E Q hE hf hQ
 cbv
 repeat' (first | (refine r_true hE rfl ?_;cbv) | (refine r_false hE rfl ?_;cbv) | (refine c_eql hE (fun h=>?_) (fun h=>?_)<;>first | (exfalso;omega) | cbv) | (refine c_neq hE (fun h=>?_) (fun h=>?_)<;>first | (exfalso;omega) | cbv) | (refine c_lss hE (fun h=>?_) (fun h=>?_)<;>first | (exfalso;omega) | cbv) | (refine c_leq hE (fun h=>?_) (fun h=>?_)<;>first | (exfalso;omega) | cbv) | (refine c_gtr hE (fun h=>?_) (fun h=>?_)<;>first | (exfalso;omega) | cbv) | (refine c_geq hE (fun h=>?_) (fun h=>?_)<;>first | (exfalso;omega) | cbv) | (refine c_seql hE (fun h=>?_) (fun h=>?_)<;>first | (exfalso;omega) | cbv) | (refine c_sneq hE (fun h=>?_) (fun h=>?_)<;>first | (exfalso;omega) | cbv) | (refine r_sin hE ?_ ?_ ?_;rotate_left 2;cbv) | (refine r_ssin hE ?_ ?_ ?_ ?_;rotate_left 3;cbv) | (refine use_draw hE lay_ok (by kernel_rfl) (by kernel_rfl) ?_;cbv) | (refine c_b hE (fun h=>?_) (fun h=>?_)<;>cbv))
 all_goals try refine And.left (hQ _ _ _ _ _ rfl rfl rfl rfl (nrm_i ?_) rfl)
 all_goals (subst hE;dsimp only [dom] at *)
 · rw [pkI_ge h0 h]
 · rw [pkI_lt h0 (by omega)];exact wrap_byte _
 · omega
 · omega
def faultV (e p:Int):V:=.ifc 71 (.agg [fI .i64 e,fI .i64 p])
theorem fail_t (e p:Int):Thr Tryd.prog 58 [fI .i64 e,fI .i64 p] (faultV e p):=by
 refine thr_of lay_ok (Tryd.call58) (Tryd.func58) rfl ?_
 intro A E Q hE hf hP
 cbv
 refine r_ifc hE Tryd.underlying71 rfl ?_
 cbv
 exact hP _ _ rfl rfl
theorem wrong_end (s:ByteArray) {i:Int} (op:Int) (h0:0≤i) (h:(s.size:Int)≤i):Meth Tryd.prog 43 74 (rd s i op) [] (.pan (faultV 1 s.size)):=by
 refine methP_of lay_ok (Tryd.call43) (Tryd.func43) rfl ?_
 intro A E Q hE hf hP
 have hp:=peek_c s op h0
 have ls:=e_slen hE s
 rw [pkI_ge h0 h] at hp
 cbv
 repeat' (first | (refine r_true hE rfl ?_;cbv) | (refine r_false hE rfl ?_;cbv) | (refine use_meth hE hp rfl rfl rfl rfl rfl ?_;cbv) | (refine c_eql hE (fun h=>?_) (fun h=>?_)<;>first | (exfalso;omega) | cbv) | (refine c_neq hE (fun h=>?_) (fun h=>?_)<;>first | (exfalso;omega) | cbv) | (refine c_lss hE (fun h=>?_) (fun h=>?_)<;>first | (exfalso;omega) | cbv) | (refine c_leq hE (fun h=>?_) (fun h=>?_)<;>first | (exfalso;omega) | cbv) | (refine c_gtr hE (fun h=>?_) (fun h=>?_)<;>first | (exfalso;omega) | cbv) | (refine c_geq hE (fun h=>?_) (fun h=>?_)<;>first | (exfalso;omega) | cbv) | (refine c_seql hE (fun h=>?_) (fun h=>?_)<;>first | (exfalso;omega) | cbv) | (refine c_sneq hE (fun h=>?_) (fun h=>?_)<;>first | (exfalso;omega) | cbv) | (refine r_sin hE ?_ ?_ ?_;rotate_left 2;cbv) | (refine r_ssin hE ?_ ?_ ?_ ?_;rotate_left 3;cbv) | (refine use_draw hE lay_ok (by kernel_rfl) (by kernel_rfl) ?_;cbv) | (refine c_b hE (fun h=>?_) (fun h=>?_)<;>cbv))
 refine use_thr hE (fail_t _ _) rfl rfl ?_
 exact hP _ _ _ rfl rfl (by rw [←ls];rfl)
theorem wrong_form (s:ByteArray) {i:Int} (op:Int) (h0:0≤i) (h:i<(s.size:Int)):Meth Tryd.prog 43 74 (rd s i op) [] (.pan (faultV 2 i)):=by
 refine methP_of lay_ok (Tryd.call43) (Tryd.func43) rfl ?_
 intro A E Q hE hf hP
 have hp:=peek_c s op h0
 have hb:0≤pkI s i:=by rw [pkI_lt h0 h];omega
 generalize pkI s i=b at *
 cbv
 repeat' (first | (refine r_true hE rfl ?_;cbv) | (refine r_false hE rfl ?_;cbv) | (refine use_meth hE hp rfl rfl rfl rfl rfl ?_;cbv) | (refine c_eql hE (fun h=>?_) (fun h=>?_)<;>first | (exfalso;omega) | cbv) | (refine c_neq hE (fun h=>?_) (fun h=>?_)<;>first | (exfalso;omega) | cbv) | (refine c_lss hE (fun h=>?_) (fun h=>?_)<;>first | (exfalso;omega) | cbv) | (refine c_leq hE (fun h=>?_) (fun h=>?_)<;>first | (exfalso;omega) | cbv) | (refine c_gtr hE (fun h=>?_) (fun h=>?_)<;>first | (exfalso;omega) | cbv) | (refine c_geq hE (fun h=>?_) (fun h=>?_)<;>first | (exfalso;omega) | cbv) | (refine c_seql hE (fun h=>?_) (fun h=>?_)<;>first | (exfalso;omega) | cbv) | (refine c_sneq hE (fun h=>?_) (fun h=>?_)<;>first | (exfalso;omega) | cbv) | (refine r_sin hE ?_ ?_ ?_;rotate_left 2;cbv) | (refine r_ssin hE ?_ ?_ ?_ ?_;rotate_left 3;cbv) | (refine use_draw hE lay_ok (by kernel_rfl) (by kernel_rfl) ?_;cbv) | (refine c_b hE (fun h=>?_) (fun h=>?_)<;>cbv))
 refine use_thr hE (fail_t _ _) rfl rfl ?_
 exact hP _ _ _ rfl rfl rfl
end Rd
end Go.Proofs.YtbpihhelojjedaaDoor
namespace Go.Proofs.YtbpihhelojjedaaDoor
open Go Go.RowKit
def Ret (v:Value) (w:World) (e:Ending) (w':World):Prop:=e=.returned v∧w=w'
def RetG (v:Value) (w:World) (e:Ending) (w':World):Prop:=e=.returned v∧Below w.heap.size w w'
theorem hid_mk {p:Prop} (h:p):Hid p:=h
theorem below_drewN {B:Nat} {a w:World} (h:Below B a w) (n:Nat):Below B a (w.drewN n):=⟨h.os,h.tape,h.output,h.size,h.block⟩
@[go_sem] theorem setCell_drewN (w:World) (n:Nat) (a:Addr) (v:Value):(w.drewN n).setCell a v=(w.setCell a v).drewN n:=rfl
@[go_sem] theorem alloc_drewN (w:World) (n:Nat) (o:Obj):(w.drewN n).alloc o=(w.alloc o).drewN n:=rfl
def Blk (w:World) (g:Nat) (cs:Array Value) (t:TypeId):Prop:=w.heap[g]?=some (.cells cs t (0,0))
section
variable {w w':World} {g:Nat} {t:TypeId} {cs:Array Value}
theorem Blk.lt (h:Blk w g cs t):g<w.heap.size:=by
 rcases Nat.lt_or_ge g w.heap.size with h1 | h1
 · exact h1
 · unfold Blk at h;rw [Array.getElem?_eq_none h1] at h;cases h
theorem Blk.cell (h:Blk w g cs t) (i:Nat):w.cell? ⟨g,i,none⟩=cs[i]?:=by
 unfold Blk at h
 simp [World.cell?,h]
theorem Blk.frozen (h:Blk w g cs t) (i:Nat):w.frozen? ⟨g,i,none⟩=false:=by
 unfold Blk at h
 simp [World.frozen?,h]
theorem Blk.new (w:World) (cs:Array Value) (t:TypeId):Blk (w.alloc (.cells cs t)) w.heap.size cs t:=by
 show (w.heap.push _)[w.heap.size]?=_
 simp
theorem Blk.alloc (h:Blk w g cs t) (o:Obj):Blk (w.alloc o) g cs t:=(Below.heap_alloc w o g h.lt).trans h
theorem Blk.drewN (h:Blk w g cs t) (n:Nat):Blk (w.drewN n) g cs t:=h
theorem Blk.put (h:Blk w g cs t) (i:Nat) (u:Value):Blk (w.setCell ⟨g,i,none⟩ u) g (cs.setIfInBounds i u) t:=by
 unfold Blk at h ⊢
 simp [World.setCell,Array.getElem?_modify,h]
theorem Blk.far (h:Blk w g cs t) {p:Addr} (hp:g≠p.block) (u:Value):Blk (w.setCell p u) g cs t:=(Below.heap_setCell w p u g hp).trans h
theorem Blk.below {B:Nat} (h:Blk w g cs t) (hb:Below B w w') (hg:g<B):Blk w' g cs t:=(hb.block g hg).trans h
theorem Blk.call (h:Blk w g cs t) (hb:Below w.heap.size w w'):Blk w' g cs t:=h.below hb h.lt
theorem Blk.is (h:Blk w g cs t) {cs':Array Value} (e:cs=cs'):Blk w g cs' t:=e▸h
end
theorem hide {p:Prop} (h:p):Hid p:=h
theorem unhide {p:Prop} (h:Hid p):p:=h
end Go.Proofs.YtbpihhelojjedaaDoor
